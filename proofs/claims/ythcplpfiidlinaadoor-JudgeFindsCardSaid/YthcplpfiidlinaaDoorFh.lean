/- Typed data by codes: the types, the values that a frame holds, its objects, and how they are laid into the abstract machine's. Conditions: none, these are definitions. -/
import Derived.Test.YthcplpfiidlinaaDoorEvY
open Bool renaming and_eq_true->ai
open List renaming append_assoc->aJ,append_nil->bC,drop_append_of_le_length->eF,drop_drop->dz,drop_length->fM,drop_zero->cT,flatMap_cons->bk,length_append->av,length_map->aO,length_replicate->dh,map_drop->gz,map_take->h_,nil_append->bl,replicate->az,take_append_drop->jh,take_of_length_le->dn
open List.cons renaming inj->cz
open Nat renaming add_assoc->cP,add_mul->bP,beq->kZ,ble->jg,blt->mx,le_refl->au,mul_le_mul_right->aI
open Option.some renaming inj->aa
open Prod.mk renaming inj->ad
open Sigma.mk renaming inj->jz
noncomputable section
namespace Go.Ev
inductive Ty where
 |i (k:IntKind)
 |b
 |s
 |f (k:FloatKind)
 |sl (t:Ty)
 |mp (k v:Ty)
 |un
 |pr (a c:Ty)
 |st (t:Ty)
 |ar (n:Nat) (t:Ty)
 |o (k:Nat)
 deriving Inhabited,DecidableEq
def Arr(n:Nat)(α:Type):Type:={l:List α//l.length=n}
def Arr.set{n:Nat}{α:Type}(v:Arr n α)(k:Nat)(x:α):Arr n α:=⟨v.1.set k x,by rw[List.length_set];exact v.2⟩
instance{n:Nat}{α:Type}[Inhabited α]:Inhabited (Arr n α):=⟨⟨az n default,dh⟩⟩
instance{n:Nat}{α:Type}[DecidableEq α]:DecidableEq (Arr n α):=inferInstanceAs (DecidableEq {l:List α//l.length=n})
@[reducible] def El:Ty->Type
 |.i _=>Int
 |.b=>Bool
 |.s=>ByteArray
 |.f _=>Nat
 |.sl t=>Sl (El t)
 |.mp k v=>Mp (El k) (El v)
 |.un=>Unit
 |.pr a c=>El a×El c
 |.st t=>El t
 |.ar n t=>Arr n (El t)
 |.o _=>Unit
instance HP:(t:Ty)->Inhabited (El t)
 |.i _=>⟨(0:Int)⟩
 |.b=>⟨false⟩
 |.s=>⟨(default:ByteArray)⟩
 |.f _=>⟨(0:Nat)⟩
 |.sl _=>⟨Sl.nil⟩
 |.mp _ _=>⟨Mp.none⟩
 |.un=>⟨()⟩
 |.pr a c=>⟨((HP a).default,(HP c).default)⟩
 |.st t=>HP t
 |.ar n t=>⟨⟨az n (HP t).default,dh⟩⟩
 |.o _=>⟨()⟩
def sA:(t:Ty)->El t
 |.i _=>(0:Int)
 |.b=>false
 |.s=>(ByteArray.empty)
 |.f _=>(0:Nat)
 |.sl _=>Sl.nil
 |.mp _ _=>Mp.none
 |.un=>()
 |.pr a c=>(sA a,sA c)
 |.st t=>sA t
 |.ar n t=>⟨az n (sA t),dh⟩
 |.o _=>()
def gN(t u:Ty)(v:El t):Option (El u):=if h:t=u then some (h▸v)else none
def bA:Ty->Nat
 |.un=>0
 |.pr a c=>bA a+bA c
 |.st t=>bA t
 |.ar n t=>n*bA t
 |_=>1
def kL:Ty->Bool
 |.o _|.mp _ _=>false
 |.pr a c=>kL a&&kL c
 |.st t|.ar _ t|.sl t=>kL t
 |_=>true
def nA:Ty->Bool
 |.st _|.ar _ _=>true
 |_=>false
def aS:(t:Ty)->El t->List D
 |.i k,x=>[.lit (.int k x)]
 |.b,x=>[.lit (.bool x)]
 |.s,x=>[.lit (.string x)]
 |.f k,x=>[.lit (.float k x)]
 |.sl t,x=>[wa (bA t) (aS t) x]
 |.mp _ _,_=>[.lit .nilFunc]
 |.un,_=>[]
 |.pr a c,x=>aS a x.1++aS c x.2
 |.st t,x=>aS t x
 |.ar _ t,x=>x.1.flatMap (aS t)
 |.o _,_=>[.lit .nilFunc]
inductive Pe where
 |fd (i:Nat)
 |ix (n:Nat)
abbrev p8:=List Pe
inductive V where
 |x (t:Ty) (v:El t)
 |kb (c:Bool)
 |nl (k:Nat)
 |so (id:Nat)
 |sr (id:Nat)
 |sb (id ver lo:Nat) (t:Ty) (r:Sl (El t))
 |op (id:Nat) (t:Ty) (p:p8)
 |ep (id n:Nat) (t:Ty) (p:p8)
 |pt (t:Ty) (v:El t)
 |fn (z:Bool) (f:Nat) (caps:V)
 |om (id:Nat)
 |rc (l:V)
 |tp (l:V)
 |ni
 |co (a r:V)
 |fl (l:List Value)
 |no
 |gn
inductive O where
 |ar (t:Ty) (s:Sl (El t)) (ver:Nat)
 |im (t:Ty) (s:Sl (El t)) (ver:Nat)
 |bx (t:Ty) (c:V)
 |ib (t:Ty) (v:El t)
 |mp (k v:Ty) (m:Mp (El k) (El v))
 |rw(t:Ty) (s:Sl (Sl (El t))) (ln:Option (Nat×Nat))
abbrev H2:=List (Nat×Option O)
def fO(h:H2)(id:Nat):Option O:=(cA h id).join
def Ar:(t:Ty)->El t->Nat->Option V
 |.pr a _,v,0=>some (.x a v.1)
 |.pr _ c,v,n+1=>Ar c v.2 n
 |t,v,0=>some (.x t v)
 |_,_,_=>none
def CO:Ty->Nat->Option Ty
 |.pr a _,0=>some a
 |.pr _ c,n+1=>CO c n
 |t,0=>some t
 |_,_=>none
def o8:Ty->Nat->Nat
 |.pr _ _,0=>0
 |.pr a c,n+1=>bA a+o8 c n
 |_,_=>0
def Ig:(t:Ty)->El t->V
 |.pr a c,v=>.co (.x a v.1) (Ig c v.2)
 |t,v=>.co (.x t v) .ni
def SL(k:IntKind):List Value->Option (Int×List Value)
 |.int k' n::r=>if k'=k then some (n,r)else none
 |_=>none
def SM:List Value->Option (Bool×List Value)
 |.bool c::r=>some (c,r)
 |_=>none
def SJ:List Value->Option (ByteArray×List Value)
 |.string c::r=>some (c,r)
 |_=>none
def PD(k:FloatKind):List Value->Option (Nat×List Value)
 |.float k' n::r=>if k'=k then some (n,r)else none
 |_=>none
def SK{α:Type}:List Value->Option (Sl α×List Value)
 |.slice none 0 0::r=>some (Sl.nil,r)
 |_=>none
def OO{α:Type}(f:List Value->Option (α×List Value)):(m:Nat)->List Value->Option (Arr m α×List Value)
 |0,l=>some (⟨[],rfl⟩,l)
 |m+1,l=>match f l with|some (x,l)=>(match OO f m l with|some (v,l)=>some (⟨x::v.1,by rw[List.length_cons,v.2]⟩,l)|none=>none)|none=>none
def uV:(t:Ty)->List Value->Option (El t×List Value)
 |.i k=>SL k
 |.b=>SM
 |.s=>SJ
 |.f k=>PD k
 |.sl _=>SK
 |.pr a c=>fun l=>match uV a l with|some (x,l)=>(match uV c l with|some (y,l)=>some ((x,y),l)|none=>none)|none=>none
 |.st t=>uV t
 |.ar n t=>OO (uV t) n
 |.mp _ _|.un|.o _=>fun _=>none
def ik(u:Ty):V->Option (El u)
 |.x t v=>gN t u v
 |.kb c=>gN .b u c
 |.nl 0=>(match u with|.sl _=>some Sl.nil|_=>none)
 |.fl l=>bif nA u then(match uV u l with|some (x,[])=>some x|_=>none)else none
 |_=>none
def Iw:(t:Ty)->El t->Nat->V->Option (El t)
 |.pr a _,v,0,w=>match ik a w with|some y=>some (y,v.2)|none=>none
 |.pr _ c,v,n+1,w=>match Iw c v.2 n w with|some y=>some (v.1,y)|none=>none
 |t,_,0,w=>ik t w
 |_,_,_,_=>none
def sq:V->Nat->Option V
 |.co a _,0=>some a
 |.co _ r,n+1=>sq r n
 |_,_=>none
def KN:V->Nat->V->V
 |.co _ r,0,w=>.co w r
 |.co a r,n+1,w=>.co a (KN r n w)
 |l,_,_=>l
def pK:V->p8->Option V
 |v,[]=>some v
 |.x (.st t) v,.fd i::p=>match Ar t v i with|some w=>pK w p|none=>none
 |.x (.ar _ t) v,.ix k::p=>pK (.x t (gt v.1 k)) p
 |.rc l,.fd i::p=>match sq l i with|some w=>pK w p|none=>none
 |_,_=>none
def oK:V->p8->V->Option V
 |_,[],w=>some w
 |.x (.st t) v,.fd i::p,w=>
  match Ar t v i with
  |some y=>match oK y p w with|some y'=>(match Iw t v i y' with|some v'=>some (.x (.st t) v')|none=>some (.rc (KN (Ig t v) i y')))|none=>none
  |none=>none
 |.x (.ar n t) v,.ix k::p,w=>match oK (.x t (gt v.1 k)) p w with|some y=>(match ik t y with|some y'=>some (.x (.ar n t) (v.set k y'))|none=>none)|none=>none
 |.rc l,.fd i::p,w=>match sq l i with|some y=>(match oK y p w with|some y'=>some (.rc (KN l i y'))|none=>none)|none=>none
 |_,_,_=>none
def rh:Ty->p8->Option Ty
 |t,[]=>some t
 |.st t,.fd i::p=>match CO t i with|some u=>rh u p|none=>none
 |.ar _ t,.ix _::p=>rh t p
 |_,_=>none
def mX:Ty->p8->Nat
 |.st t,.fd i::p=>o8 t i+(match CO t i with|some u=>mX u p|none=>0)
 |.ar _ t,.ix k::p=>k*bA t+mX t p
 |_,_=>0
def IZ:Ty->p8->Prop
 |.st t,.fd i::p=>∃u,CO t i=some u/\IZ u p
 |.ar n t,.ix k::p=>k<n/\IZ t p
 |_,[]=>True
 |_,_=>False
def BG:Ty->V×V
 |.pr a c=>(.no,.co (BG a).1 (BG c).2)
 |.st t=>(bif kL t then .x (.st t) (sA t)else .rc (BG t).2,.co (bif kL t then .x (.st t) (sA t)else .rc (BG t).2) .ni)
 |.o k=>(.nl k,.co (.nl k) .ni)
 |.mp _ _=>(.nl 3,.co (.nl 3) .ni)
 |.sl t=>(bif kL t then .x (.sl t) Sl.nil else .nl 0,.co (bif kL t then .x (.sl t) Sl.nil else .nl 0) .ni)
 |.ar n t=>(bif kL t then .x (.ar n t) (sA (.ar n t))else .no,.co (bif kL t then .x (.ar n t) (sA (.ar n t))else .no) .ni)
 |.un=>(.x .un (),.co (.x .un ()) .ni)
 |.i k=>(.x (.i k) (0:Int),.co (.x (.i k) (0:Int)) .ni)
 |.b=>(.x .b false,.co (.x .b false) .ni)
 |.s=>(.x .s ByteArray.empty,.co (.x .s ByteArray.empty) .ni)
 |.f k=>(.x (.f k) (0:Nat),.co (.x (.f k) (0:Nat)) .ni)
abbrev Pm(t:Ty):V:=(BG t).1
def DN(k:Nat):C:=.d (.lit (match k with|0=>.slice none 0 0|1=>.pointer none|2=>.nilFunc|3=>.map none|_=>.nilIface))
def AL(id:Nat):Option O->Option C
 |some (.ar t s _)=>some (mB (bA t) (aS t) id s)
 |some (.im t s _)=>some (mB (bA t) (aS t) id s)
 |_=>none
def oY(t:Ty):Sl (El t)->k8
 |.nil=>.nil
 |.mk l=>.bv (l.map (aS t))
def IP{α:Type}(id:Nat):Sl α->k8
 |.nil=>.nil
 |.mk l=>.eg id l.length
def eX(t:Ty)(l:List (Sl (El t))):Option (Nat×Nat)->List k8
 |none=>l.map (oY t)
 |some (m,id)=>(l.map (oY t)).set m (IP id (gt l m))
def EZ(id:Nat):Option O->Option C
 |some (.rw t s _)=>some (mB 1 (aS (.sl t)) id (s:Sl (Sl (El t))))
 |_=>none
def yr(id lo:Nat)(t:Ty):Sl (El t)->C
 |.nil=>.d (.lit (.slice none 0 0))
 |.mk l=>.fy (bA t) id lo (l.map (aS t)).length
def qG:V->Option (List D)
 |.pt t v=>if kL t then some [.pt (aS t v)]else none
 |.ni=>some []
 |.co a r=>match qG a,qG r with|some x,some y=>some (x++y)|_,_=>none
 |_=>none
def tC:V->Bool
 |.x t _=>nA t
 |.rc _|.fl _=>true
 |_=>false
deriving instance DecidableEq for Mp
instance zA:(t:Ty)->DecidableEq (El t)
 |.i _=>inferInstanceAs (DecidableEq Int)
 |.b=>inferInstanceAs (DecidableEq Bool)
 |.s=>inferInstanceAs (DecidableEq ByteArray)
 |.f _=>inferInstanceAs (DecidableEq Nat)
 |.sl t=>@instDecidableEqSl (El t) (zA t)
 |.mp k v=>@instDecidableEqMp (El k) (El v) (zA k) (zA v)
 |.un=>inferInstanceAs (DecidableEq Unit)
 |.pr a c=>@instDecidableEqProd (El a) (El c) (zA a) (zA c)
 |.st t=>zA t
 |.ar n t=>@instDecidableEqArr n (El t) (zA t)
 |.o _=>inferInstanceAs (DecidableEq Unit)
structure S2 where
 dH:List (Nat×V)
 heap:H2
 next:Nat
 wo:List Nat
 gh:V
structure OP where
 o:ol
 t:Ty
 fi:List Nat
def CF:V->Bool
 |.pt t _=>kL t
 |.ni=>true
 |.co a r=>CF a&&CF r
 |_=>false
def iz(h:H2):V->Bool
 |.x t _=>kL t
 |.pt t _=>kL t
 |.kb _|.nl _=>true
 |.op id _ _|.ep id _ _ _|.om id=>(match fO h id with|some _=>true|none=>false)
 |.so id=>(match fO h id with|some (.ar _ _ _)|some (.im _ _ _)=>true|_=>false)
 |.sr id=>(match fO h id with|some (.rw _ _ _)=>true|_=>false)
 |.sb id ver _ t _=>kL t&&(match fO h id with|some (.ar _ _ v)|some (.im _ _ v)=>v==ver|_=>false)
 |.fn true _ l=>CF l
 |.fn false _ l=>iz h l
 |.rc l|.tp l=>iz h l
 |.fl l=>l.all eu
 |.ni=>true
 |.co a r=>iz h a&&iz h r
 |.no|.gn=>false
def Ta:Value->Option V
 |.bool c=>some (.kb c)
 |.int k n=>some (.x (.i k) n)
 |.float k n=>some (.x (.f k) n)
 |.string s=>some (.x .s s)
 |.pointer none=>some (.nl 1)
 |.slice none 0 0=>some (.nl 0)
 |.nilFunc=>some (.nl 2)
 |.map none=>some (.nl 3)
 |.nilIface=>some (.nl 4)
 |.agg cs=>if cs.toList.all eu then some (.fl cs.toList)else none
 |_=>none
def L6:Nat->Option V:=fun g => if g = 0 then some (.pt (.ar 32 (.i .u8)) (⟨[0, 1, 28, 2, 29, 14, 24, 3, 30, 22, 20, 15, 25, 17, 4, 8, 31, 27, 13, 23, 21, 19, 16, 7, 26, 12, 18, 6, 11, 5, 10, 9], rfl⟩ : Arr 32 Int)) else none
def J9(e:List (Nat×V))(h:H2):Operand->Option V
 |.tmp t=>match cA e t with|some v=>bif iz h v then some v else none|none=>none
 |.const c=>Ta c
 |.global g=>L6 g
 |.func f=>some (.fn true f .ni)
def yh:V->Nat
 |.x t _=>bA t
 |.rc l=>yh l
 |.co a r=>yh a+yh r
 |.ni=>0
 |.fl l=>l.length
 |_=>1
def OE:V->Nat->Nat
 |.co a r,n+1=>yh a+OE r n
 |_,_=>0
def dl:List V->V
 |[]=>.ni
 |v::r=>.co v (dl r)
def AI:V->List V
 |.co a r=>a::AI r
 |_=>[]
def kV:V->Bool->(u:Ty)->Option (El u)
 |.rc l,false,.st u=>kV l true u
 |.co a r,true,.pr t u=>match kV a false t,kV r true u with|some x,some y=>some (x,y)|_,_=>none
 |.co a .ni,true,u=>kV a false u
 |.ni,_,_=>none
 |v,false,u=>ik u v
 |_,_,_=>none
abbrev t7(u:Ty)(v:V):Option (El u):=kV v false u
def eL:V->Bool->Ty->Bool
 |.x u _,false,t=>decide (u=t)
 |.rc l,false,.st t=>eL l true t
 |.co a r,true,.pr t u=>eL a false t&&eL r true u
 |.co a .ni,true,t=>eL a false t
 |.kb _,false,.b=>true
 |.nl 0,false,.sl _|.so _,false,.sl _|.sr _,false,.sl _|.sb _ _ _ _ _,false,.sl _=>true
 |.nl 3,false,.mp _ _|.om _,false,.mp _ _=>true
 |.nl _,false,.o _|.op _ _ _,false,.o _|.ep _ _ _ _,false,.o _|.pt _ _,false,.o _|.fn _ _ _,false,.o _=>true
 |_,_,_=>false
def Nm(t:Ty)(v:V):Option V:=match(bif kL t then ik t v else none)with|some y=>some (.x t y)|none=>bif eL v false t then some v else none
def uc(h:H2):V->Option ((t:Ty)×Sl (El t)×List Nat)
 |.x (.sl t) s=>some ⟨t,s,[]⟩
 |.so id=>(match fO h id with|some (.ar t s _)|some (.im t s _)=>some ⟨t,s,[id]⟩|_=>none)
 |.sb id _ _ t r=>some ⟨t,r,[id]⟩
 |_=>none
def KB(t:Ty)(h:H2):V->Option ((t:Ty)×Sl (El t)×List Nat)
 |.nl 0=>some ⟨t,Sl.nil,[]⟩
 |v=>uc h v
def jm(h:H2):V->Option (V×List Nat)
 |.so id=>match uc h (.so id)with|some ⟨t,s,l⟩=>some (.x (.sl t) s,l)|none=>none
 |.sr id=>match fO h id with|some (.rw t s none)=>some (.x (.sl (.sl t)) s,[id])|_=>none
 |.sb id ver lo t r=>match uc h (.sb id ver lo t r)with|some ⟨t,s,l⟩=>some (.x (.sl t) s,l)|none=>none
 |.rc l=>match jm h l with|some (w,l)=>some (.rc w,l)|none=>none
 |.co a r=>match jm h a,jm h r with|some (x,l),some (y,m)=>some (.co x y,l++m)|_,_=>none
 |.x t v=>some (.x t v,[])
 |.kb c=>some (.kb c,[])
 |.nl k=>some (.nl k,[])
 |.fl l=>some (.fl l,[])
 |.ni=>some (.ni,[])
 |.fn true f l=>some (.fn true f l,[])
 |.pt t v=>some (.pt t v,[])
 |_=>none
def UP(c:Bool):V->V->Option V
 |.kb a,.kb b=>some (.x .b (bif c then a else b))
 |.x t a,w=>match t7 t w with|some b=>some (.x t (bif c then a else b))|none=>none
 |w,.x t b=>match t7 t w with|some a=>some (.x t (bif c then a else b))|none=>none
 |_,_=>none
def Te:Value->Value->Bool
 |.bool a,.bool b=>a==b
 |.int k a,.int k' b=>decide (k=k')&&a==b
 |.float k a,.float k' b=>decide (k=k')&&a==b
 |.string a,.string b=>decide (a=b)
 |.pointer none,.pointer none|.slice none 0 0,.slice none 0 0|.nilFunc,.nilFunc|.map none,.map none|.nilIface,.nilIface=>true
 |_,_=>false
def ub:List Value->List Value->Bool
 |[],[]=>true
 |a::r,b::s=>Te a b&&ub r s
 |_,_=>false
def nC:Ty->List Value
 |.i k=>[.int k 0]
 |.b=>[.bool false]
 |.s=>[.string ByteArray.empty]
 |.f k=>[.float k 0]
 |.sl _=>[.slice none 0 0]
 |.mp _ _=>[.map none]
 |.un=>[]
 |.pr a c=>nC a++nC c
 |.st t=>nC t
 |.ar n t=>(az n (nC t)).flatten
 |.o k=>[match k with|0=>.slice none 0 0|1=>.pointer none|2=>.nilFunc|3=>.map none|_=>.nilIface]
def D_:Ty->Option (List Kd)
 |.i k=>some [.i k]
 |.b=>some [.b]
 |.s=>some [.s]
 |.pr a c=>match D_ a,D_ c with|some x,some y=>some (x++y)|_,_=>none
 |.st t=>D_ t
 |.ar n t=>match D_ t with|some x=>some ((az n x).flatten)|none=>none
 |_=>none
def Rk(z:Bool)(op:BinOp)(k k':IntKind)(a b:Int):Option V:=
 match op with
 |.shl=>bif z then some (.x (.i k) (Rn k a b))else none
 |.shr=>bif z then some (.x (.i k) (J2 k a b))else none
 |op=>bif decide (k=k')then(match op with
  |.add=>some (.x (.i k) (wr k (a+b)))
  |.sub=>some (.x (.i k) (wr k (a-b)))
  |.mul=>some (.x (.i k) (wr k (a*b)))
  |.quo=>bif z then some (.x (.i k) (wr k (a.tdiv b)))else none
  |.rem=>bif z then some (.x (.i k) (a.tmod b))else none
  |.and=>some (.x (.i k) (J3 k a b))
  |.or=>some (.x (.i k) (RS k a b))
  |.xor=>some (.x (.i k) (Rm k a b))
  |.andNot=>some (.x (.i k) (rU k a b))
  |.eql=>some (.x .b (a==b))
  |.neq=>some (.x .b (a !=b))
  |.lss=>some (.x .b (decide (a<b)))
  |.leq=>some (.x .b (decide (a<=b)))
  |.gtr=>some (.x .b (decide (a>b)))
  |.geq=>some (.x .b (decide (a>=b)))
  |_=>none)else none
def Rj(op:BinOp)(x y:ByteArray):Option V:=match op with|.eql=>some (.x .b (x.toList==y.toList))|.neq=>some (.x .b (!(x.toList==y.toList)))|.lss=>some (.x .b (Op.bytesLess x.toList y.toList))|.leq=>some (.x .b (Op.bytesLess x.toList y.toList||x.toList==y.toList))|.gtr=>some (.x .b (!(Op.bytesLess x.toList y.toList||x.toList==y.toList)))|.geq=>some (.x .b (!(Op.bytesLess x.toList y.toList)))|_=>none
def N6:List Operand->Bool
 |[_,.const (.int _ n)]=>decide (n>0)
 |_=>false
def RN(m:Bool)(k:IntKind):Int->List V->Option Int
 |x,[]=>some x
 |x,.x (.i k') y::r=>bif decide (k'=k)then RN m k (bif m then(if y>x then y else x)else(if y<x then y else x)) r else none
 |_,_=>none
def yX(h:H2):V->Option (V×List Nat)
 |.pt t v=>some (.x t v,[])
 |.op id t p=>(match fO h id with
  |some (.bx u c)=>bif decide (u=t)then(match pK c p with|some w=>some (w,[id])|none=>none)else none
  |some (.ib u v)=>bif decide (u=t)then(match pK (.x u v) p with|some w=>some (w,[id])|none=>none)else none
  |_=>none)
 |.ep id n t p=>(match fO h id with
  |some (.ar u s _)|some (.im u s _)=>bif decide (u=t)then(match pK (.x u (gt s.l n)) p with|some w=>some (w,[id])|none=>none)else none
  |_=>none)
 |_=>none
def yR(h:H2)(kind:Nat):V->Option V
 |.nl k=>bif(k==kind)&&mx k 3 then some (.kb true)else none
 |.pt _ _|.op _ _ _|.ep _ _ _ _=>bif kind==1 then some (.kb false)else none
 |.fn _ _ _=>bif kind==2 then some (.kb false)else none
 |v=>bif kind==0 then(match uc h v with|some ⟨_,s,_⟩=>some (.x .b s.fS)|none=>none)else none
def Lf:V->V
 |.kb c=>.kb (!c)
 |.x .b c=>.x .b (!c)
 |v=>v
def Gv(off n:Nat)(i:Nat):V->Option V
 |.op id t p=>(match rh t p with
  |some (.st u)=>(match CO u i with|some w=>bif(o8 u i==off)&&(bA w==n)then some (.op id t (p++[.fd i]))else none|none=>none)
  |_=>none)
 |.ep id m t p=>(match rh t p with
  |some (.st u)=>(match CO u i with|some w=>bif(o8 u i==off)&&(bA w==n)then some (.ep id m t (p++[.fd i]))else none|none=>none)
  |_=>none)
 |.pt (.st u) v=>(match Ar u v i with|some (.x w y)=>bif(o8 u i==off)&&(bA w==n)then some (.pt w y)else none|_=>none)
 |_=>none
def GN(h:H2)(g:Bool)(n:Nat)(w:V):Bool:=(tC w==g)&&(yh w==n)&&(g||n==1)&&iz h w
def Oq(h:H2):V->Option ((k:Ty)×(v:Ty)×Mp (El k) (El v)×List Nat)
 |.om id=>(match fO h id with|some (.mp k v m)=>some ⟨k,v,m,[id]⟩|_=>none)
 |_=>none
def xG(t:Ty):List Nat->List (Nat×Nat)->List V->V->Option V
 |[],[],[],c=>some c
 |i::is,(off,n)::ps,w::ws,c=>
  match t with
  |.st u=>(match CO u i with
   |some a=>bif(o8 u i==off)&&(bA a==n)then(match Nm a w with|some w=>(match oK c [.fd i] w with|some c=>bif eL c false t then xG t is ps ws c else none|none=>none)|none=>none)else none
   |none=>none)
  |.ar m u=>bif(i*bA u==off)&&(bA u==n)&&decide (i<m)then(match Nm u w with|some w=>(match oK c [.ix i] w with|some c=>bif eL c false t then xG t is ps ws c else none|none=>none)|none=>none)else none
  |_=>none
 |_,_,_,_=>none
def OZ:V->Bool
 |.tp _|.no|.gn|.ni|.co _ _=>false
 |v=>!tC v
def P6(o:OP)(vs:List V)(h:H2):Option (V×List Nat):=
 match o.o.k,vs with
 |.mv,[v]=>some (v,[])
 |.nilCheck,[v]=>(match v with|.pt _ _|.fn _ _ _|.ep _ _ _ _|.op _ _ _=>some (v,[])|_=>none)
 |.Ax op,[.x (.i k) a,.x (.i k') b]=>(match Rk (N6 o.o.args) op k k' a b with|some v=>some (v,[])|none=>none)
 |.Ax op,[.x .s a,.x .s b]=>(match Rj op a b with|some v=>some (v,[])|none=>none)
 |.uU neg,[x,y]=>(match t7 .b x,t7 .b y with|some a,some b=>some (.x .b (bif neg then !(a==b)else a==b),[])|_,_=>none)
 |.qY kind neg,[x]=>(match yR h kind x with|some v=>some (bif neg then Lf v else v,[])|none=>none)
 |.zx neg ks,[.x t a,y]=>(match t7 t y with|some b=>bif nA t&&decide (D_ t=some ks)then some (.x .b (bif neg then !(decide (a=b))else decide (a=b)),[])else none|none=>none)
 |.un .not,[.kb c]=>some (.kb (!c),[])
 |.un .not,[.x .b c]=>some (.x .b (!c),[])
 |.un .neg,[.x (.i k) n]=>some (.x (.i k) (wr k (0-n)),[])
 |.un .xor,[.x (.i k) n]=>some (.x (.i k) (U1 k n),[])
 |.vJ k,[.x (.i _) n]=>some (.x (.i k) (wr k n),[])
 |.th,[.x .s s]=>some (.x .s s,[])
 |.I8 f,vs=>bif vs.all OZ then some (.fn false f (dl vs),[])else none
 |.load g n,[p]=>(match yX h p with|some (w,l)=>bif GN h g n w then some (w,l)else none|none=>none)
 |.uj,[p]=>(match yX h p with|some (w,l)=>bif GN h false 1 w then some (w,l)else none|none=>none)
 |.fieldAddr off n,[p]=>(match o.fi with|[i]=>(match Gv off n i p with|some w=>some (w,[])|none=>none)|_=>none)
 |.field g off n,[.x (.st u) v]=>(match o.fi with|[i]=>(match Ar u v i with|some w=>bif(o8 u i==off)&&GN h g n w then some (w,[])else none|none=>none)|_=>none)
 |.field g off n,[.rc l]=>(match o.fi with|[i]=>(match sq l i with|some w=>bif(OE l i==off)&&GN h g n w then some (w,[])else none|none=>none)|_=>none)
 |.extract i,[.tp l]=>(match sq l i with|some w=>some (w,[])|none=>none)
 |.len true,[.x .s s]=>some (.x (.i .i64) (s.size:Int),[])
 |.len false,[.nl 0]=>some (.x (.i .i64) (0:Int),[])
 |.len false,[.sr id]=>(match fO h id with|some (.rw _ s _)=>some (.x (.i .i64) (s.l.length:Int),[])|_=>none)
 |.len false,[v]=>(match uc h v with|some ⟨_,s,_⟩=>some (.x (.i .i64) (s.l.length:Int),[])|none=>none)
 |.uP m,.x (.i k) x::r=>(match RN m k x r with|some y=>some (.x (.i k) y,[])|none=>none)
 |.build z ps,vs=>bif ub (nC o.t) z&&nA o.t&&eL (Pm o.t) false o.t then(match xG o.t o.fi ps vs (Pm o.t)with|some v=>some (v,[])|none=>none)else none
 |.lookup ka ks va z ok,[m,kv]=>(match Oq h m with
  |some ⟨kt,vt,mp,l⟩=>(match t7 kt kv with
   |some k=>bif(nA kt==ka)&&(nA vt==va)&&decide (D_ kt=some ks)&&ub (nC vt) z&&kL vt&&(va||bA vt==1)then
     some (bif ok then .tp (.co (.x vt (o6 mp (sA vt) k)) (.co (.x .b (Lm mp k)) .ni))else .x vt (o6 mp (sA vt) k),l)else none
   |none=>none)
  |none=>none)
 |_,_=>none
def kR{α:Type}(s:Sl α)(x r:List α):Sl α:=match x with|[]=>(match s with|.nil=>.nil|.mk _=>.mk r)|_::_=>.mk r
def Al{α:Type}:Sl α->Sl α->Option Unit
 |.nil,.nil=>some ()
 |.mk a,.mk b=>F_ a b
 |_,_=>none
def jG(s:S2)(o:O):S2:=⟨s.dH,(s.next,some o)::s.heap,s.next+1,s.next::s.wo,s.gh⟩
def eG(s:S2)(id:Nat)(o:Option O):S2:=⟨s.dH,(id,o)::s.heap,s.next,id::s.wo,s.gh⟩
def Ch(h:H2)(id:Nat):Option O:=match fO h id with|some (.ar t s v)|some (.im t s v)=>some (.im t s v)|some (.ib t v)=>some (.ib t v)|some (.bx t c)=>bif kL t&&mx (bA t) 300 then(match jm h c with|some (_,[])=>(match t7 t c with|some v=>some (.ib t v)|none=>none)|_=>none)else none|_=>none
def qB(h:H2):List Nat->S2->Option S2
 |[],s=>some s
 |id::r,s=>match fO h id with|some (.rw _ _ none)=>(match qB h r s with|some s=>some (eG s id none)|none=>none)|_=>(match Ch h id,qB h r s with|some o,some s=>some (eG s id (some o))|_,_=>none)
def CM(t:Ty):Bool:=kL t&&mx 0 (bA t)
def yA(h:H2)(t:Ty)(len:Nat):Nat->List Nat->List V->Option (List (El t)×List Nat)
 |m,[],[]=>some (az (len-m) (sA t),[])
 |m,i::is,v::vs=>
  match jm h v with
  |some (w,a)=>(match t7 t w with
   |some y=>bif jg m i&&mx i len then(match yA h t len (i+1) is vs with|some (l,b)=>some (az (i-m) (sA t)++y::l,a++b)|none=>none)else none
   |none=>none)
  |none=>none
 |_,_,_=>none
def jL:List V->Option (List Int)
 |[]=>some []
 |.x (.i _) n::r=>match jL r with|some l=>some (n::l)|none=>none
 |_=>none
def F9(h:H2):V->Option Int
 |.nl 0=>some 0
 |v=>match uc h v with|some ⟨_,v,_⟩=>some (v.l.length:Int)|none=>none
def OW{α:Type}(w:Sl α)(lo n:Nat)(z:α):Option (Sl α):=match w with|.nil=>none|.mk l=>some (.mk (MN l lo n (az n z)))
def ug{β:Type}(sz:Nat)(h:H2)(x:V)(l u:Int)(k:V->Option β):Option β:=
 match x with
 |.x (.sl t) v=>bif bA t==sz then(qE v.l l u).bind fun y=>k (.x (.sl t) (v.to y))else none
 |.so id=>(match fO h id with
  |some (.ar t v ver)=>bif bA t==sz then(qE v.l l u).bind fun y=>k (.sb id ver l.toNat t (v.to y))else none
  |some (.im t v ver)=>bif bA t==sz then(qE v.l l u).bind fun y=>k (.sb id ver l.toNat t (v.to y))else none
  |_=>none)
 |.sb id ver lo t v=>bif bA t==sz then(qE v.l l u).bind fun y=>k (.sb id ver (lo+l.toNat) t (v.to y))else none
 |.nl 0=>(qE ([]:List Unit) l u).bind fun _=>k (.nl 0)
 |_=>none
def Ri{β:Type}(t:Ty)(sz len:Nat)(z:List Value)(pl:List Nat)(vs:List V)(s:S2)(k:V->S2->List Nat->Option β):Option β:=
 bif(bA t==sz)&&ub ((az len (nC t)).flatten) z&&CM t then
  (match yA s.heap t len 0 pl vs with
  |some (l,a)=>(match qB s.heap a s with|some s'=>k (.so s.next) (jG s' (.ar t (.mk l) 0)) a|none=>none)
  |none=>none)else none
def Ha(ln:Option (Nat×Nat))(m:Nat):Bool:=match ln with|none=>true|some (m',_)=>kZ m' m
def Fi{β:Type}(id m:Nat)(t:Ty)(p:p8)(w:V)(s:S2)(k:S2->List Nat->Option β):Option β:=
 match fO s.heap id with
 |some (.rw u v ln)=>(match p,w with
  |[],.so id2=>(match fO s.heap id2 with
   |some (.ar u2 r _)=>(match gN (.sl u2) (.sl u) r with
    |some r=>bif decide (t=.sl u)&&!(id2==id)&&Ha ln m then k (eG (eG s id2 none) id (some (.rw u (.mk (v.l.set m r)) none))) [id,id2]else none
    |none=>none)
   |_=>none)
  |_,_=>none)
 |some (.ar u l ver)=>(match jm s.heap w with
  |some (w,a)=>bif decide (u=t)then(match rh u p with
   |some q=>(match t7 q w with
    |some y=>(match oK (.x u (gt l.l m)) p (.x q y)with
     |some c=>(match ik u c with
      |some y=>(match qB s.heap a s with|some s=>bif !a.contains id then k (eG s id (some (.ar u (.mk (l.l.set m y)) (ver+1)))) (id::a)else none|none=>none)
      |none=>none)
     |none=>none)
    |none=>none)
   |none=>none)else none
  |none=>none)
 |_=>none
def part{β:Type}(o:OP)(vs:List V)(s:S2)(k:V->S2->List Nat->Option β):Option β:=
 match o.o.k,vs with
 |.Ax .quo,[.x (.i q) a,.x (.i q') b]=>bif decide (q=q')then(Q4 q a b).bind fun x=>k (.x (.i q) x) s []else none
 |.Ax .rem,[.x (.i q) a,.x (.i q') b]=>bif decide (q=q')then(Qg q a b).bind fun x=>k (.x (.i q) x) s []else none
 |.Ax .shl,[.x (.i q) a,.x (.i _) b]=>(yp q a b).bind fun x=>k (.x (.i q) x) s []
 |.Ax .shr,[.x (.i q) a,.x (.i _) b]=>(Qa q a b).bind fun x=>k (.x (.i q) x) s []
 |.Ax .add,[.x .s a,.x .s b]=>(Re a b).bind fun x=>k (.x .s x) s []
 |.alloc z,[]=>bif ub (nC o.t) z&&eL (Pm o.t) false o.t then k (.op s.next o.t []) (jG s (.bx o.t (Pm o.t))) []else none
 |.box,[v]=>(match Nm o.t v with|some w=>k (.op s.next o.t []) (jG s (.bx o.t w)) []|none=>none)
 |.buildSlice sz len z pl,vs=>Ri o.t sz len z pl vs s k
 |.store n,[.op id t p,w]=>bif(yh w==n)then(match fO s.heap id with
  |some (.bx u c)=>bif decide (u=t)then(match rh t p with
   |some a=>(match Nm a w with
    |some w=>(match oK c p w with|some c=>bif eL c false t then k (.tp .ni) (eG s id (some (.bx t c))) [id]else none|none=>none)
    |none=>none)
   |none=>none)else none
  |_=>none)else none
 |.uj,[.ep id m u []]=>(match fO s.heap id with
  |some (.rw t v none)=>bif decide (u=.sl t)then k (.so s.next) (jG (eG s id (some (.rw t v (some (m,s.next))))) (.ar t (gt v.l m) 0)) [id]else none
  |_=>none)
 |.A3 szi,[.x (.i _) l,.x (.i _) c]=>(match o.t with
  |.sl t=>bif(bA t==szi)&&CM t then(zV (Sl.nil:Sl (El t)) l c).bind fun r=>k (.sr s.next) (jG s (.rw t (.mk r) none)) []else none
  |_=>none)
 |.store n,[.ep id m t p,w]=>bif(yh w==n)then Fi id m t p w s (fun s l=>k (.tp .ni) s l)else none
 |.makeSlice z,[.x (.i _) l,.x (.i _) c]=>bif ub (nC o.t) z&&CM o.t then(zV (sA o.t) l c).bind fun r=>k (.so s.next) (jG s (.ar o.t (.mk r) 0)) []else none
 |.slice true _ lo hi,.x .s x::r=>(match lo,hi,jL r with
  |false,false,some []=>(z8 x 0 x.size).bind fun y=>k (.x .s y) s []
  |true,false,some [l]=>(z8 x l x.size).bind fun y=>k (.x .s y) s []
  |false,true,some [u]=>(z8 x 0 u).bind fun y=>k (.x .s y) s []
  |true,true,some [l,u]=>(z8 x l u).bind fun y=>k (.x .s y) s []
  |_,_,_=>none)
 |.slice false sz lo hi,x::r=>
  (match lo,hi,jL r,F9 s.heap x with
  |false,false,some [],some n=>ug sz s.heap x 0 n fun v=>k v s []
  |true,false,some [l],some n=>ug sz s.heap x l n fun v=>k v s []
  |false,true,some [u],some _=>ug sz s.heap x 0 u fun v=>k v s []
  |true,true,some [l,u],some _=>ug sz s.heap x l u fun v=>k v s []
  |_,_,_,_=>none)
 |.indexAddr none sz,[x,.x (.i _) i]=>(match x with
  |.x (.sl t) v=>bif bA t==sz then(fk i v.l.length).bind fun m=>k (.pt t (gt v.l m)) s []else none
  |.so id=>(match uc s.heap (.so id)with|some ⟨t,v,_⟩=>bif bA t==sz then(fk i v.l.length).bind fun m=>k (.ep id m t []) s []else none|none=>none)
  |.sb id _ lo t v=>bif bA t==sz then(fk i v.l.length).bind fun m=>k (.ep id (lo+m) t []) s []else none
  |.sr id=>(match fO s.heap id with|some (.rw t v _)=>bif 1==sz then(fk i v.l.length).bind fun m=>k (.ep id m (.sl t) []) s []else none|_=>none)
  |_=>none)
 |.indexAddr (some n) sz,[x,.x (.i _) i]=>(match x with
  |.op id t p=>(match rh t p with|some (.ar n' u)=>bif(n'==n)&&(bA u==sz)then(fk i n).bind fun m=>k (.op id t (p++[.ix m])) s []else none|_=>none)
  |.ep id q t p=>(match rh t p with|some (.ar n' u)=>bif(n'==n)&&(bA u==sz)then(fk i n).bind fun m=>k (.ep id q t (p++[.ix m])) s []else none|_=>none)
  |.pt (.ar n' u) v=>bif(n'==n)&&(bA u==sz)then(fk i n).bind fun m=>k (.pt u (gt v.1 m)) s []else none
  |_=>none)
 |.pI,[.x .s x,.x (.i _) i]=>(U2 x i).bind fun c=>k (.x (.i .u8) c) s []
 |.index g n sz,[.x (.ar n' u) v,.x (.i _) i]=>bif(n'==n)&&(bA u==sz)&&(nA u==g)&&kL u&&(g||sz==1)then(fk i n).bind fun m=>k (.x u (gt v.1 m)) s []else none
 |.append sz,[a,x]=>
  (match KB o.t s.heap x with
  |some ⟨t,m,aA⟩=>bif(bA t==sz)&&CM t then(match a with
   |.nl 0=>(iI ([]++m.l)).bind fun r=>k (.so s.next) (jG s (.ar t (kR Sl.nil m.l r) 0)) aA
   |.x (.sl _) v=>bif Sl.fS v then((iI ([]++m.l)).bind fun r=>k (.so s.next) (jG s (.ar t (kR Sl.nil m.l r) 0)) aA)else none
   |.so id=>(match fO s.heap id with
    |some (.ar u v _)=>(match gN (.sl t) (.sl u) m with
     |some m=>(iI (v.l++m.l)).bind fun r=>k (.so s.next) (jG (eG s id none) (.ar u (kR v m.l r) 0)) (id::aA)
     |none=>none)
    |_=>none)
   |.sb id _ lo u v=>(match fO s.heap id,gN (.sl t) (.sl u) m with
    |some (.ar _ s0 _),some m=>bif jg s0.l.length (lo+(v.l.length+m.l.length))then((iI (v.l++m.l)).bind fun r=>k (.so s.next) (jG (eG s id none) (.ar u (kR v m.l r) 0)) (id::aA))else none
    |_,_=>none)
   |_=>none)else none
  |none=>none)
 |.copy sz,[a,x]=>
  (match KB o.t s.heap x with
  |some ⟨t,m,aA⟩=>bif bA t==sz then(match a with
   |.nl 0=>k (.x (.i .i64) (0:Int)) s aA
   |.so id=>(match fO s.heap id with
    |some (.ar u v ver)=>(match gN (.sl t) (.sl u) m with
     |some m=>k (.x (.i .i64) ((min m.l.length v.l.length:Nat):Int)) (eG s id (some (.ar u (v.to (MN v.l 0 v.l.length m.l)) (ver+1)))) (id::aA)
     |none=>none)
    |_=>none)
   |.sb id ver lo _ v=>(match fO s.heap id with
    |some (.ar u w ver')=>(match gN (.sl t) (.sl u) m with
     |some m=>bif ver'==ver then k (.x (.i .i64) ((min m.l.length v.l.length:Nat):Int)) (eG s id (some (.ar u (w.to (MN w.l lo v.l.length m.l)) (ver+1)))) (id::aA)else none
     |none=>none)
    |_=>none)
   |_=>none)else none
  |none=>none)
 |.clear zz,[a]=>(match a with
  |.sb id ver lo _ v=>(match fO s.heap id with
   |some (.ar u w ver')=>bif(ver'==ver)&&ub (nC u) zz&&CM u then(OW w lo v.l.length (sA u)).bind fun w=>k (.tp .ni) (eG s id (some (.ar u w (ver+1)))) [id]else none
   |_=>none)
  |_=>none)
 |.makeMap ka va,[]=>(match o.t with
  |.mp kt vt=>bif(nA kt==ka)&&(nA vt==va)&&kL vt&&(D_ kt).isSome then k (.om s.next) (jG s (.mp kt vt Mp.none)) []else none
  |_=>none)
 |.mapEntry ka ks va z,[.om id,kv]=>(match fO s.heap id with
  |some (.mp kt vt m)=>(match t7 kt kv with
   |some q=>bif(nA kt==ka)&&(nA vt==va)&&decide (D_ kt=some ks)&&ub (nC vt) z&&kL vt&&(va||bA vt==1)then
     k (.tp (.co (.x vt (mb m (sA vt) q).2.1) (.co (.x (.i .i64) (mb m (sA vt) q).2.2) .ni))) (eG s id (some (.mp kt vt (mb m (sA vt) q).1))) [id]else none
   |none=>none)
  |_=>none)
 |.entryStore va n,[.om id,.x (.i _) st,w]=>(match fO s.heap id with
  |some (.mp kt vt m)=>(match t7 vt w with
   |some y=>bif(nA vt==va)&&(bA vt==n)&&kL vt then(vv m st y).bind fun m=>k (.tp .ni) (eG s id (some (.mp kt vt m))) [id]else none
   |none=>none)
  |_=>none)
 |_,_=>none
@[reducible] def qH:List Ty->Type
 |[]=>Unit
 |a::r=>EX a r
where EX:Ty->List Ty->Type
 |a,[]=>El a
 |a,c::r=>El a×EX c r
def ut(u:Ty):V->Option (El u)
 |.x t v=>gN t u v
 |_=>none
def Ie{α β:Type}:Option α->Option β->Option (α×β)
 |some x,some y=>some (x,y)
 |_,_=>none
def E_:(a:Ty)->(r:List Ty)->List V->Option (qH.EX a r)
 |a,[],l=>(match l with|[v]=>ut a v|_=>none)
 |a,c::r,l=>(match l with|v::l=>Ie (ut a v) (E_ c r l)|[]=>none)
def v_:(cs:List Ty)->List V->Option (qH cs)
 |[],[]=>some ()
 |a::r,l=>E_ a r l
 |_,_=>none
def NE:(a:Ty)->(r:List Ty)->qH.EX a r->List V
 |a,[],v=>[.x a v]
 |a,c::r,v=>.x a v.1::NE c r v.2
def o9:(cs:List Ty)->qH cs->List V
 |[],_=>[]
 |a::r,v=>NE a r v
inductive Sh where
 | x (t : Ty)            -- data
 | pt (t : Ty)           -- a pointer to data
 | os (t : Ty)           -- a slice of its bv
 | rw (t : Ty)           -- a dl of aq of its bv
 | mp (k v : Ty)         -- a map of its bv
 | pb (t : Ty) (c : Sh)  -- a pointer to a box of its bv
 |st (c:Sh)
 |pr (a c:Sh)
 |nl (k:Nat)
 |fn (f:Nat) (l:Sh)
 |ni
 |gn
 deriving Inhabited,DecidableEq
def OT:Sh->List Ty
 |.x t|.pt t=>[t]
 |.os t=>[.sl t]
 |.rw t=>[.sl (.sl t)]
 |.mp k v=>[.mp k v]
 |.pb _ c|.st c|.fn _ c=>OT c
 |.pr a c=>OT a++OT c
 |_=>[]
def g_:List Sh->List Ty
 |[]=>[]
 |a::r=>OT a++g_ r
abbrev Wy:=List (List Sh×List Sh)
@[reducible] def vQ:Wy->Type
 |[]=>Empty
 |(r,o)::w=>GY r o w
where GY:List Sh->List Sh->Wy->Type
 |r,o,[]=>qH (g_ r++g_ o)
 |r,o,(r',o')::w=>qH (g_ r++g_ o)⊕GY r' o' w
def PY{β:Type}(k:List Sh->List Sh->List V->Option β):(r o:List Sh)->(w:Wy)->vQ.GY r o w->Option β
 |r,o,[],z=>k r o (o9 (g_ r++g_ o) z)
 |r,o,(r',o')::w,z=>match z with|.inl z=>k r o (o9 (g_ r++g_ o) z)|.inr z=>PY k r' o' w z
def RZ{β:Type}(k:List Sh->List Sh->List V->Option β):(w:Wy)->vQ w->Option β
 |[],z=>nomatch z
 |(r,o)::w,z=>PY k r o w z
structure lD where
 ps:List (Bool×Sh)
 al:Wy
 ro:Bool
 kh:List Bool
 fn:qH (g_ (ps.map (·.2)))->Option (vQ al)
abbrev ET:=List (Nat×lD)
def oU(h:H2):Sh->V->Option (List V×List Nat)
 |.x t,v=>match jm h v with|some (w,l)=>(match t7 t w with|some y=>some ([.x t y],l)|none=>none)|none=>none
 |.pt t,.pt u v=>match gN u t v with|some y=>some ([.x t y],[])|none=>none
 |.pt t,.op id u []=>(match fO h id with
  |some (.bx w c)=>bif decide (w=u)&&iz h c then(match jm h c with|some (c,l)=>(match t7 t c with|some y=>some ([.x t y],id::l)|none=>none)|none=>none)else none
  |some (.ib w v)=>bif decide (w=u)then(match gN w t v with|some y=>some ([.x t y],[id])|none=>none)else none
  |_=>none)
 |.pt t,.ep id n u []=>(match fO h id with
  |some (.ar w s _)|some (.im w s _)=>bif decide (w=u)then(match gN w t (gt s.l n)with|some y=>some ([.x t y],[id])|none=>none)else none
  |_=>none)
 |.nl k,.nl k'=>bif k==k' then some ([],[])else none
 |.fn f c,.fn _ f' l=>bif f==f' then oU h c l else none
 |.pr a c,.co x r=>match oU h a x,oU h c r with|some (l,i),some (m,j)=>some (l++m,i++j)|_,_=>none
 |.ni,.ni=>some ([],[])
 |_,_=>none
def QA(t:Ty){u:Ty}(v:El (.sl u)):Option (List V×List Nat):=match(v:Sl (El u))with|.nil=>some ([.x (.sl t) Sl.nil],[])|.mk _=>none
def ei(h:H2):Sh->Bool->V->Option (List V×List Nat)
 |.os t,false,.so id=>(match fO h id with|some (.ar u s _)=>(match gN (.sl u) (.sl t) s with|some s=>some ([.x (.sl t) s],[id])|none=>none)|_=>none)
 |.os t,false,.nl 0=>some ([.x (.sl t) Sl.nil],[])
 |.rw t,false,.sr id=>(match fO h id with|some (.rw u s none)=>(match gN (.sl (.sl u)) (.sl (.sl t)) s with|some s=>some ([.x (.sl (.sl t)) s],[id])|none=>none)|_=>none)
 |.rw t,false,.nl 0=>some ([.x (.sl (.sl t)) Sl.nil],[])
 |.pb t c,false,.op id u []=>(match fO h id with|some (.bx w v)=>bif decide (w=u)&&decide (u=t)then(match ei h c false v with|some (l,i)=>some (l,id::i)|none=>none)else none|_=>none)
 |.nl k,false,.nl k'=>bif k==k' then some ([],[])else none
 |.x t,false,v=>match t7 t v with|some y=>some ([.x t y],[])|none=>none
 |.st c,false,.rc l=>ei h c true l
 |.st c,false,.x (.st u) v=>ei h c true (Ig u v)
 |.pr a c,true,.co x r=>match(match a,x with|.os t,.x (.sl _) v=>QA t v|_,_=>ei h a false x),ei h c true r with|some (l,i),some (m,j)=>some (l++m,i++j)|_,_=>none
 |.ni,true,.ni=>some ([],[])
 |_,_,_=>none
def ri:Sh->Bool->List V->S2->Option (V×List V×S2)
 |.x t,false,.x u v::l,s=>bif decide (u=t)&&kL t then some (.x u v,l,{s with next:=s.next+bA t})else none
 |.os t,false,.x (.sl u) v::l,s=>bif decide (u=t)&&CM t then some (.so s.next,l,jG s (.ar u v 0))else none
 |.rw t,false,.x (.sl (.sl u)) v::l,s=>bif decide (u=t)&&CM t then some (.sr s.next,l,jG s (.rw u v none))else none
 |.pb t c,false,l,s=>
  match ri c false l {s with next:=s.next+1}with
  |some (w,l,s')=>bif eL w false t then some (.op s.next t [],l,eG s' s.next (some (.bx t w)))else none
  |none=>none
 |.nl k,false,l,s=>some (.nl k,l,{s with next:=s.next+1})
 |.st c,false,l,s=>match ri c true l s with|some (w,l,s)=>some (.rc w,l,s)|none=>none
 |.pr a c,true,l,s=>match ri a false l s with|some (x,l,s)=>(match ri c true l s with|some (r,l,s)=>some (.co x r,l,s)|none=>none)|none=>none
 |.ni,true,l,s=>some (.ni,l,s)
 |_,_,_,_=>none
def I7:List Sh->List V->S2->Option (List V×List V×S2)
 |[],l,s=>some ([],l,s)
 |a::r,l,s=>match ri a false l s with|some (x,l,s)=>(match I7 r l s with|some (xs,l,s)=>some (x::xs,l,s)|none=>none)|none=>none
def oV(h:H2):List (Bool×Sh)->List V->Option (List V×List Nat×List (V×List Nat))
 |[],[]=>some ([],[],[])
 |(b,c)::r,v::vs=>
  match oV h r vs with
  |some (m,j,q)=>
   bif b then(match ei h c false v with|some (l,i)=>some (l++m,j,(v,i)::q)|none=>none)
   else(match oU h c v with|some (l,i)=>some (l++m,i++j,q)|none=>none)
  |none=>none
 |_,_=>none
def Bi(h:H2)(f:Nat)(vs:List V):ET->Option (lD×List V×List Nat×List (V×List Nat))
 |[]=>none
 |(g,sp)::r=>bif g==f then(match oV h sp.ps vs with|some (l,i,q)=>some (sp,l,i,q)|none=>Bi h f vs r)else Bi h f vs r
def je:List Nat->S2->S2
 |[],s=>s
 |id::r,s=>eG (je r s) id none
def gg{β:Type}:List Sh->List (V×List Nat)->List V->S2->(S2->Option β)->Option β
 |[],[],[],s,k=>k s
 |.nl _::r,(_,[])::q,l,s,k=>gg r q l s k
 |.gn::r,(_,i)::q,l,s,k=>gg r q l (je i s) k
 |.os t::r,(.nl 0,[])::q,.x (.sl u) v::l,s,k=>(match gN (.sl u) (.sl t) v with|some v=>(Al v (Sl.nil:Sl (El t))).bind fun _=>gg r q l s k|none=>none)
 |.os t::r,(.so id,_)::q,.x (.sl u) v::l,s,k=>(match fO s.heap id,gN (.sl u) (.sl t) v with
  |some (.ar w old ver),some v=>(match gN (.sl t) (.sl w) v with
   |some v=>(Al v old).bind fun _=>gg r q l (eG s id (some (.ar w v (ver+1)))) k
   |none=>none)
  |_,_=>none)
 |.rw t::r,(.nl 0,[])::q,.x (.sl (.sl u)) v::l,s,k=>(match gN (.sl (.sl u)) (.sl (.sl t)) v with|some v=>(Al (v:Sl (Sl (El t))) (Sl.nil:Sl (Sl (El t)))).bind fun _=>gg r q l s k|none=>none)
 |.rw t::r,(.sr id,_)::q,.x (.sl (.sl u)) v::l,s,k=>(match fO s.heap id,gN (.sl (.sl u)) (.sl (.sl t)) v with
  |some (.rw w old _),some v=>(match gN (.sl (.sl t)) (.sl (.sl w)) v with
   |some v=>(Al (v:Sl (Sl (El w))) old).bind fun _=>gg r q l (eG s id (some (.rw w v none))) k
   |none=>none)
  |_,_=>none)
 |.pb t c::r,(.op id u [],i)::q,l,s,k=>(match fO s.heap id with
  |some _=>(match ri c false l s with
   |some (w,l,s)=>bif eL w false t&&decide (u=t)then gg r q l (eG (je i s) id (some (.bx t w))) k else none
   |none=>none)
  |none=>none)
 |_,_,_,_,_=>none
def Qf:List V->V
 |[v]=>v
 |l=>.tp (dl l)
def yP:List Nat->Bool
 |[]=>true
 |a::r=>!r.contains a&&yP r
def vU:V->Option (List V)
 |.ni=>some []
 |.co a r=>bif(yh a==1)&&!tC a then(match vU r with|some l=>some (a::l)|none=>none)else none
 |_=>none
def xV{β:Type}(tb:ET)(ro:Bool)(kh:List Bool)(f:V)(vs:List V)(s:S2)(k:V->S2->List Nat->Option β):Option β:=
 match f with
 |.fn _ fid caps=>
  match(match vU caps with|some cs=>Bi s.heap fid (vs++cs) tb|none=>none)with
  |some (sp,pay,aA,q)=>
   bif(!ro||sp.ro)&&decide (sp.kh=kh)&&yP (q.flatMap (·.2))&&(q.flatMap (·.2)).all (fun i=>!aA.contains i)then
    match v_ (g_ (sp.ps.map (·.2))) pay with
    |some p=>(sp.fn p).bind fun z=>RZ (fun rs os l=>
     match(bif ro then some s else qB s.heap aA s)with
     |some s0=>gg os q (l.drop (g_ rs).length) s0 fun s1=>
      (match I7 rs (l.take (g_ rs).length) s1 with
      |some (xs,_,s2)=>k (Qf xs) s2 (aA++q.flatMap (·.2))
      |none=>none)
     |none=>none) sp.al z
    |none=>none
   else none
  |none=>none
 |_=>none
structure Rg where
 kn:List (Nat×Bool)
 cd:List (Nat×Nat×Bool×V)
def QK(kn:List (Nat×Bool))(g:Nat):Option Bool:=cA kn g
def J_(s:S2)(q:Rg)(gc:Option (Nat×Bool)):Operand->Option V
 |.tmp t=>match cA q.cd t with|some (g,b,v)=>bif decide (gc=some (g,b))||decide (QK q.kn g=some b)then(bif iz s.heap v then some v else none)else none|none=>J9 s.dH s.heap (.tmp t)
 |o=>J9 s.dH s.heap o
def FT(s:S2)(q:Rg)(gc:Option (Nat×Bool)):List Operand->Option (List V)
 |[]=>some []
 |a::r=>match J_ s q gc a,FT s q gc r with|some x,some y=>some (x::y)|_,_=>none
inductive GV where
 |run
 |skip
 |RK (g:Nat) (b:Bool) (c:Bool)
def UU(e:List (Nat×V))(kn:List (Nat×Bool)):Option (Nat×Bool)->Option GV
 |none=>some .run
 |some (g,b)=>
  match QK kn g with
  |some c=>some (bif c==b then .run else .skip)
  |none=>(match cA e g with
   |some (.kb c)=>some (bif c==b then .run else .skip)
   |some (.x .b c)=>some (.RK g b c)
   |some .no=>some .skip
   |_=>none)
def KS(s:S2)(q:Rg)(gc:Option (Nat×Bool)):List Operand->Option V
 |[.tmp g,a,b]=>match QK q.kn g,cA s.dH g with|some c,_=>J_ s q gc (bif c then a else b)|none,some (.kb c)=>J_ s q gc (bif c then a else b)|none,some (.x .b c)=>(match J_ s q (some (g,true)) a,J_ s q (some (g,false)) b with|some x,some y=>UP c x y|_,_=>none)|_,_=>none
 |[.const (.bool c),a,b]=>J_ s q gc (bif c then a else b)
 |_=>none
def Ge:K->Bool
 |.pick=>true
 |_=>false
def NG(o:OP)(s:S2)(q:Rg)(gc:Option (Nat×Bool)):Option (V×List Nat):=
 bif Ge o.o.k then(match KS s q gc o.o.args with|some v=>some (v,[])|none=>none)
 else(match FT s q gc o.o.args with|some vs=>P6 o vs s.heap|none=>none)
def ue(s:S2)(d:Option Nat)(v:V):S2:=match d with|some d=>{s with dH:=(d,v)::s.dH}|none=>s
def OX(q:Rg)(d:Option Nat):Option Rg:=match d with|none=>some q|some d=>bif q.cd.any (fun e=>e.2.1==d)||q.kn.any (fun e=>e.1==d)then none else some ⟨q.kn,q.cd.filter (fun e=>!(e.1==d))⟩
abbrev Kc:=List (List Nat×List Nat)
def S_{β:Type}(tb:ET)(o:OP)(s:S2)(q:Rg)(gc:Option (Nat×Bool))(k:V->S2->List Nat->Option β):Option β:=
 match NG o s q gc with
 |some (v,l)=>k v s l
 |none=>
  match FT s q gc o.o.args with
  |some vs=>
   (match o.o.k,vs with
   |.call ro kh,f::vs=>xV tb ro kh f vs s k
   |_,vs=>part o vs s k)
  |none=>none
def Np(dr:Option Nat)(i:Nat)(s:S2):S2:=match dr with|some b=>{s with next:=b+iW*i}|none=>s
def Jj(dr:Option Nat)(i:Nat)(s:S2):Bool:=match dr with|some b=>jg s.next (b+iW*(i+1))|none=>true
def R0(d:Option Nat)(r:List OP):Bool:=
 match d with
 |some d=>r.any fun o=>match o.o.guard with|some (g,_)=>kZ g d|none=>false
 |none=>false
def nm{β:Type}(tb:ET)(dr:Option Nat):List OP->Nat->S2->Rg->Kc->(S2->Kc->Option β)->Option β
 |[],_,s,_,tr,k=>k s tr
 |o::r,i,s0,q,tr,k=>
  let s:=Np dr i s0
  let go:Rg->Option β:=fun q=>S_ tb o s q o.o.guard fun v s1 l=>
   bif Jj dr i s1 then(match OX q o.o.dst with
    |some q=>nm tb dr r (i+1) (ue s1 o.o.dst v) q (tr++[(l,s1.wo.take (s1.wo.length-s.wo.length))]) k
    |none=>none)else none
  let no:Rg->Option β:=fun q=>match OX q o.o.dst with|some q=>nm tb dr r (i+1) (ue s o.o.dst .no) q (tr++[([],[])]) k|none=>none
  match UU s.dH q.kn o.o.guard with
  |none=>none
  |some .run=>go q
  |some .skip=>no q
  |some (.RK g b c)=>
   match(bif R0 o.o.dst r then none else NG o s q (some (g,b)))with
   |some (v,l)=>
    (match OX q o.o.dst,o.o.dst with
    |some q,some d=>bif kZ g d then none else nm tb dr r (i+1) (ue s (some d) .gn) ⟨q.kn,(d,g,b,v)::q.cd⟩ (tr++[(l,[])]) k
    |_,_=>none)
   |none=>(match b with
    |true=>bif c then go ⟨(g,true)::q.kn,q.cd⟩else no ⟨(g,false)::q.kn,q.cd⟩
    |false=>bif c then no ⟨(g,true)::q.kn,q.cd⟩else go ⟨(g,false)::q.kn,q.cd⟩)
inductive JV where
 |x (t:Ty)
 |pt (t:Ty)
 |so (j:Nat)
 |sr (j:Nat)
 |om (j:Nat)
 |op (j:Nat) (t:Ty) (p:List Nat)
 |nl (k:Nat)
 |fn (z:Bool) (f:Nat) (l:JV)
 |rc (l:JV)
 |ni
 |co (a r:JV)
 |sm
 |gn
 deriving Inhabited
inductive JO where
 |ar (t:Ty)
 |bx (t:Ty) (c:JV)
 |mp (k v:Ty)
 |rw(t:Ty)
 deriving Inhabited
structure J where
 vs:List (Nat×JV):=[]
 gs:JV:=.sm
 os:List JO:=[]
 kl:List Nat:=[]
 deriving Inhabited
def JM:JV->List Ty
 |.x t|.pt t=>[t]
 |.fn _ _ l|.rc l=>JM l
 |.co a r=>JM a++JM r
 |_=>[]
def PH:List (Nat×JV)->List Ty
 |[]=>[]
 |(_,a)::r=>JM a++PH r
def UZ:JO->List Ty
 |.ar t=>[.sl t]
 |.bx _ c=>JM c
 |.mp k v=>[.mp k v]
 |.rw t=>[.sl (.sl t)]
def PI:List JO->List Ty
 |[]=>[]
 |a::r=>UZ a++PI r
def pZ(j:J):List Ty:=PH j.vs++(JM j.gs++PI j.os)
structure Bd where
 j:Nat
 id:Option Nat
def M2:List Bd->Nat->Option Bd
 |[],_=>none
 |b::r,j=>bif b.j==j then some b else M2 r j
def vM(m:List Bd)(b:Bd):Option (List Bd):=
 match M2 m b.j with
 |none=>bif(match b.id with|some i=>m.all (fun c=>match c.id with|some i'=>!(i'==i)|none=>true)|none=>true)then some (b::m)else none
 |some c=>(match b.id,c.id with
  |some i,some i'=>bif i==i' then some m else none
  |_,_=>none)
def Ds:p8->Option (List Nat)
 |[]=>some []
 |.fd i::p=>match Ds p with|some l=>some (i::l)|none=>none
 |.ix _::_=>none
def dA:JV->Bool->V->List Bd->Option (List V×List Bd)
 |.x t,false,v,m=>match t7 t v with|some y=>some ([.x t y],m)|none=>none
 |.pt t,false,.pt u v,m=>match gN u t v with|some y=>some ([.x t y],m)|none=>none
 |.so j,false,.so id,m=>match vM m ⟨j,some id⟩with|some m=>some ([],m)|none=>none
 |.so j,false,.nl 0,m=>match vM m ⟨j,none⟩with|some m=>some ([],m)|none=>none
 |.so j,false,.x (.sl _) v,m=>bif Sl.fS v then(match vM m ⟨j,none⟩with|some m=>some ([],m)|none=>none)else none
 |.sr j,false,.sr id,m=>match vM m ⟨j,some id⟩with|some m=>some ([],m)|none=>none
 |.om j,false,.om id,m=>match vM m ⟨j,some id⟩with|some m=>some ([],m)|none=>none
 |.op j t p,false,.op id u q,m=>bif decide (u=t)&&decide (Ds q=some p)then(match vM m ⟨j,some id⟩with|some m=>some ([],m)|none=>none)else none
 |.nl k,false,.nl k',m=>bif k==k' then some ([],m)else none
 |.fn z f l,false,.fn z' f' l',m=>bif(z==z')&&(f==f')then dA l true l' m else none
 |.rc l,false,.rc l',m=>dA l true l' m
 |.rc l,false,.x (.st t) v,m=>dA l true (Ig t v) m
 |.ni,true,.ni,m=>some ([],m)
 |.co a r,true,.co x y,m=>match dA a false x m with|some (l,m)=>(match dA r true y m with|some (l',m)=>some (l++l',m)|none=>none)|none=>none
 |_,_,_,_=>none
def Bt(s:S2):List (Nat×JV)->List Bd->Option (List V×List Bd)
 |[],m=>some ([],m)
 |(t,a)::r,m=>match J9 s.dH s.heap (.tmp t)with|some v=>(match dA a false v m with|some (l,m)=>(match Bt s r m with|some (l',m)=>some (l++l',m)|none=>none)|none=>none)|none=>none
def MX(h:H2)(j:Nat)(o:JO)(m:List Bd):Option (List V×List Bd):=
 match M2 m j with
 |some b=>(match o,b.id with
  |.ar t,none=>bif CM t then some ([.x (.sl t) Sl.nil],m)else none
  |.ar t,some id=>(match fO h id with|some (.ar u s _)=>(match gN (.sl u) (.sl t) s with|some s=>some ([.x (.sl t) s],m)|none=>none)|_=>none)
  |.rw t,some id=>(match fO h id with|some (.rw u s none)=>(match gN (.sl (.sl u)) (.sl (.sl t)) s with|some s=>some ([.x (.sl (.sl t)) s],m)|none=>none)|_=>none)
  |.bx t c,some id=>(match fO h id with|some (.bx u v)=>bif decide (u=t)then dA c false v m else none|_=>none)
  |.mp k v,some id=>(match fO h id with|some (.mp k' v' y)=>(match gN (.mp k' v') (.mp k v) y with|some y=>some ([.x (.mp k v) y],m)|none=>none)|_=>none)
  |_,_=>none)
 |none=>none
def Bu(h:H2):List JO->Nat->List Bd->Option (List V×List Bd)
 |[],_,m=>some ([],m)
 |o::r,j,m=>match MX h j o m with|some (l,m)=>(match Bu h r (j+1) m with|some (l',m)=>some (l++l',m)|none=>none)|none=>none
def rZ:V->V->Bool
 |.so i,.so j=>i==j
 |.sr i,.sr j=>i==j
 |.op i t [],.op j u []=>(i==j)&&decide (t=u)
 |.nl k,.nl l=>k==l
 |.gn,.gn=>true
 |_,_=>false
def yt:V->V->Bool
 |.ni,.ni=>true
 |.co a r,.co x y=>rZ a x&&yt r y
 |_,_=>false
def p7(h:H2):JV->V->V->List Bd->Option (List V×List Bd)
 |.sm,g0,g,m=>bif yt g0 g then some ([],m)else none
 |.ni,.ni,.ni,m=>some ([],m)
 |.co a r,.co x0 y0,.co x y,m=>match a with|.sm=>bif rZ x0 x then p7 h r y0 y m else none|.gn=>p7 h r y0 y m|a=>bif iz h x then(match dA a false x m with|some (l,m)=>(match p7 h r y0 y m with|some (l',m)=>some (l++l',m)|none=>none)|none=>none)else none
 |_,_,_,_=>none
def Av:List (Nat×JV)->S2->S2
 |[],s=>s
 |(t,.so _)::r,s=>(match cA s.dH t with
  |some (.sb id ver _ u x)=>(match fO s.heap id with
   |some (.ar _ _ v)=>bif kL u&&v==ver then Av r ⟨(t,.so s.next)::s.dH,(s.next,some (.ar u x 0))::(id,none)::s.heap,s.next+1,s.next::id::s.wo,s.gh⟩else Av r s
   |_=>Av r s)
  |_=>Av r s)
 |_::r,s=>Av r s
def Bw(j:J)(s0:S2)(s:S2):Option (List V):=
 match Bt s j.vs []with
 |some (l1,m)=>match p7 s.heap j.gs s0.gh s.gh m with
  |some (l2,m)=>(match Bu s.heap j.os 0 m with
   |some (l3,m)=>bif s.wo.all (fun i=>jg s0.next i||j.kl.contains i)&&m.all (fun b=>mx b.j j.os.length&&(match b.id with|some i=>jg s0.next i||j.kl.contains i|none=>true))then some (l1++(l2++l3))else none
   |none=>none)
  |none=>none
 |none=>none
def xE(j:J)(s0:S2)(s:S2):Option (List V):=match Av j.vs s with|⟨e,h,n,w,g⟩=>Bw j s0 ⟨e,h,n,w,g⟩
def iV(b:Nat):JV->Bool->List V->V->Option (V×List V)
 |.x t,false,.x u v::l,_=>bif decide (u=t)&&kL u then some (.x u v,l)else none
 |.pt t,false,.x u v::l,_=>bif decide (u=t)&&kL u then some (.pt u v,l)else none
 |.so j,false,l,_=>some (.so (b+j),l)
 |.sr j,false,l,_=>some (.sr (b+j),l)
 |.om j,false,l,_=>some (.om (b+j),l)
 |.op j t p,false,l,_=>some (.op (b+j) t (p.map .fd),l)
 |.nl k,false,l,_=>some (.nl k,l)
 |.fn z f c,false,l,_=>match iV b c true l .ni with|some (w,l)=>some (.fn z f w,l)|none=>none
 |.rc c,false,l,_=>match iV b c true l .ni with|some (w,l)=>some (.rc w,l)|none=>none
 |.ni,true,l,_=>some (.ni,l)
 |.co a r,true,l,.co x y=>match iV b a false l x with|some (v,l)=>(match iV b r true l y with|some (w,l)=>some (.co v w,l)|none=>none)|none=>none
 |.co a r,true,l,_=>match iV b a false l .gn with|some (v,l)=>(match iV b r true l .ni with|some (w,l)=>some (.co v w,l)|none=>none)|none=>none
 |.sm,_,l,v=>some (v,l)
 |.gn,false,l,_=>some (.gn,l)
 |_,_,_,_=>none
def He(b:Nat):List (Nat×JV)->List V->Option (List (Nat×V)×List V)
 |[],l=>some ([],l)
 |(t,a)::r,l=>match iV b a false l .gn with|some (v,l)=>(match He b r l with|some (e,l)=>some ((t,v)::e,l)|none=>none)|none=>none
def FB(b:Nat):JO->List V->Option (O×List V)
 |.ar t,.x (.sl u) v::l=>bif decide (u=t)then some (.ar u v 0,l)else none
 |.rw t,.x (.sl (.sl u)) v::l=>bif decide (u=t)&&CM t then some (.rw u v none,l)else none
 |.bx t c,l=>match iV b c false l .gn with|some (w,l)=>bif eL w false t then some (.bx t w,l)else none|none=>none
 |.mp k v,.x (.mp k' v') m::l=>bif decide (k'=k)&&decide (v'=v)then some (.mp k' v' m,l)else none
 |_,_=>none
def Df(b:Nat):List JO->Nat->List V->Option (H2×List V)
 |[],_,l=>some ([],l)
 |o::r,j,l=>match FB b o l with|some (o,l)=>(match Df b r (j+1) l with|some (h,l)=>some ((b+j,some o)::h,l)|none=>none)|none=>none
def uJ(j:J)(ds:List Nat)(s0:S2)(l:List V):Option S2:=
 match He s0.next j.vs l with
 |some (e,l)=>(match iV s0.next j.gs true l s0.gh with
  |some (g,l)=>(match Df s0.next j.os 0 l with
   |some (h,_)=>some ⟨e++ds.map (fun t=>(t,V.gn))++s0.dH,h++j.kl.map (fun i=>(i,none))++s0.heap,s0.next+j.os.length,h.map (·.1)++j.kl++s0.wo,g⟩
   |none=>none)
  |none=>none)
 |none=>none
abbrev Ex:=List (sn×J)
@[reducible] def EU:Ex->Type
 |[]=>Empty
 |(_,j)::r=>Nd j r
where Nd:J->Ex->Type
 |j,[]=>qH (pZ j)
 |j,(_,j')::r=>qH (pZ j)⊕Nd j' r
def LW(s0:S2)(o:sn)(s:S2):(o':sn)->(j:J)->(r:Ex)->Option (EU.Nd j r)
 |o',j,[]=>bif decide (o=o')then(match xE j s0 s with|some l=>v_ (pZ j) l|none=>none)else none
 |o',j,(o2,j2)::r=>bif decide (o=o')then(match xE j s0 s with|some l=>(match v_ (pZ j) l with|some p=>some (.inl p)|none=>none)|none=>none)
  else(match LW s0 o s o2 j2 r with|some x=>some (.inr x)|none=>none)
def Ji(s0:S2)(o:sn)(s:S2):(e:Ex)->Option (EU e)
 |[]=>none
 |(o',j)::r=>LW s0 o s o' j r
def Ql{β:Type}(ds:List Nat)(s0:S2)(k:sn->S2->Option β):(o:sn)->(j:J)->(r:Ex)->EU.Nd j r->Option β
 |o,j,[],p=>match uJ j ds s0 (o9 (pZ j) p)with|some s=>k o s|none=>none
 |o,j,(o2,j2)::r,x=>match x with|.inl p=>(match uJ j ds s0 (o9 (pZ j) p)with|some s=>k o s|none=>none)|.inr y=>Ql ds s0 k o2 j2 r y
def KU{β:Type}(ds:List Nat)(s0:S2)(k:sn->S2->Option β):(e:Ex)->EU e->Option β
 |[],x=>nomatch x
 |(o,j)::r,x=>Ql ds s0 k o j r x
inductive C2 where
 |skip
 |N3 (ops:List OP) (dr:Option (List (Nat×Nat))) (jn:Option J)
 |seq (a b:C2) (e:Ex)
 |cond (c:Operand) (a b:C2)
 |block (id:Nat) (a:C2)
 |loop (j:J) (e:Ex) (a:C2)
 |exit (id:Nat)
 |ret
 |gx
 deriving Inhabited
def mW:C2->List Nat
 |.N3 ops _ _=>ops.filterMap (·.o.dst)
 |.seq a b _|.cond _ a b=>mW a++mW b
 |.block _ a|.loop _ _ a=>mW a
 |_=>[]
def LR:K->Bool
 |.lookup _ _ _ _ _=>true
 |_=>false
def Po(ops:List OP)(tr:Kc)(i j:Nat):Bool:=
 match ops[i]?,tr[i]?with
 |some o,some ([id],[])=>LR o.o.k&&((tr.take j).drop (i+1)).all (fun x=>!x.2.contains id)
 |_,_=>false
def Q3(ops:List OP)(tr:Kc)(dyn:List (Nat×Nat)):Bool:=
 dyn.all fun p=>bif jg 1000 p.2 then(match tr[p.1]?,tr[p.2-1000]?with|some a,some b=>mj a b||Po ops tr p.1 (p.2-1000)|_,_=>true)
  else(match tr[p.1]?,tr[p.2]?with|some a,some b=>mj a b|_,_=>true)
def Rw(s:S2)(id:Nat):Option S2:=
 match fO s.heap id with
 |some (.rw t v (some (m,id2)))=>(match fO s.heap id2 with
  |some (.ar u r _)=>(match gN (.sl u) (.sl t) r with
   |some r=>some (eG (eG s id2 none) id (some (.rw t (.mk (v.l.set m r)) none)))
   |none=>none)
  |_=>none)
 |_=>some s
def CH:List Nat->S2->Option S2
 |[],s=>some s
 |id::r,s=>match Rw s id with|some s=>CH r s|none=>none
def Rx(s s':S2):Option S2:=CH (s'.wo.take (s'.wo.length-s.wo.length)) s'
def HO{β:Type}(tb:ET)(ops:List OP)(dr:Option (List (Nat×Nat)))(s:S2)(k:S2->Option β):Option β:=match dr with|none=>nm tb none ops 0 s ⟨[],[]⟩ [] fun s' _=>(Rx s s').bind k|some dyn=>nm tb (some s.next) ops 0 s ⟨[],[]⟩ [] fun s' tr=>bif Q3 ops tr dyn then(Rx s {s' with next:=s.next+iW*ops.length}).bind k else none
def xC{β:Type}(tb:ET):C2->S2->(sn->S2->Option β)->Option β
 |.skip,s,k=>k .normal s
 |.N3 ops dr none,s,k=>HO tb ops dr s fun s=>k .normal s
 |.N3 ops dr (some j),s,k=>(HO tb ops dr {s with wo:=[]} fun s'=>match xE j s s' with|some l=>v_ (pZ j) l|none=>none).bind fun p=>match uJ j (ops.filterMap (·.o.dst)) s (o9 (pZ j) p)with|some s=>k .normal s|none=>none
 |.seq a b [],s,k=>xC tb a s fun o s=>match o with|.normal=>xC tb b s k|o=>k o s
 |.seq a b (e::r),s,k=>(xC tb a {s with wo:=[]} fun o s'=>Ji s o s' (e::r)).bind fun x=>KU (mW a) s (fun o s=>match o with|.normal=>xC tb b s k|o=>k o s) (e::r) x
 |.cond c a b,s,k=>(match J9 s.dH s.heap c with
  |some (.kb t)=>bif t then xC tb a s k else xC tb b s k
  |some (.x .b t)=>bif t then xC tb a s k else xC tb b s k
  |_=>none)
 |.block id a,s,k=>xC tb a s fun o s=>match o with|.exit i=>k (bif i==id then .normal else .exit i) s|o=>k o s
 |.loop j e a,s,k=>
  bif e.all (fun x=>j.kl.all fun i=>x.2.kl.contains i)then(match xE j s {s with wo:=[]}with
  |some l=>(match v_ (pZ j) l with
   |some p0=>(bE (fun p=>match uJ j (mW a) s (o9 (pZ j) p)with
     |some s1=>xC tb a {s1 with wo:=[]} fun o s'=>(match o with
      |.normal=>(match xE j s s' with|some l=>(match v_ (pZ j) l with|some q=>some (Sum.inl q)|none=>none)|none=>none)
      |o=>(match Ji s o s' e with|some x=>some (Sum.inr x)|none=>none))
     |none=>none) p0).bind fun x=>KU (mW a) s k e x
   |none=>none)
  |none=>none)else none
 |.exit id,s,k=>k (.exit id) s
 |.ret,s,k=>k .ret s
 |.gx,_,_=>none
def eT(P:Program):Nat->TypeId->Ty
 |0,_=>.o 9
 |n+1,t=>match P.underlying t with|some (.int k)=>.i k|some .bool=>.b|some .string=>.s|some (.float k)=>.f k|some (.slice e)=>.sl (eT P n e)|some (.map k v)=>.mp (eT P n k) (eT P n v)|some (.struct fs)=>.st (SQ (fs.toList.map fun f=>eT P n f.type))|some (.array m e)=>.ar m (eT P n e)|some (.pointer _)=>.o 1|some (.func ..)=>.o 2|_=>.o 4
where SQ:List Ty->Ty
 |[]=>.un
 |[t]=>t
 |t::r=>.pr t (SQ r)
def JG:Nat:=12
def Q0(P:Program)(t:TypeId):Ty:=match P.underlying t with|some (.slice e)=>eT P JG e|some (.array _ e)=>eT P JG e|_=>.o 9
def PA(P:Program):Op->Ty×List Nat
 |.alloc e=>(eT P JG e,[])
 |.box t _=>(eT P JG t,[])
 |.build t parts=>(eT P JG t,parts.toList.map (·.1))
 |.buildSlice t _ parts=>(Q0 P t,parts.toList.map (·.1))
 |.fieldAddr _ _ f=>(.o 9,[f])
 |.field _ _ f=>(.o 9,[f])
 |.makeSlice t _ _=>(Q0 P t,[])
 |.makeMap t _=>(eT P JG t,[])
 |.call c=>(match c.callee,c.argTypes.toList with|.builtin _,t::_=>Q0 P t|_,_=>.o 9,[])
 |_=>(.o 9,[])
def Qs(P:Program)(df:AB)(nt:Nat)(all:Array Oper)(o:Oper):OP:=⟨gE P df nt all o,(PA P o.op).1,(PA P o.op).2⟩
structure An where
 j:Option J:=none
 e:Ex:=[]
 deriving Inhabited
def pO(P:Program)(df:AB)(nt:Nat)(an:List (Nat×An)):Code->Nat->C2×Nat
 |.skip,n=>(.skip,n)
 |.region _ ops draw,n=>
  (if draw then(if yM (M_ ops.toList []) ops.toList 0&&yq (M_ ops.toList []) (ops.toList.map (gE P df nt ops)) 0&&decide (ops.toList.length<=1000)
   then .N3 (ops.toList.map (Qs P df nt ops)) (some (tg (M_ ops.toList []) (ops.toList.map (gE P df nt ops)) 0)) ((cA an n).bind (·.j))else .gx)
   else .N3 (ops.toList.map (Qs P df nt ops)) none ((cA an n).bind (·.j)),n+1)
 |.seq a b,n=>
  let x:=pO P df nt an a (n+1);let y:=pO P df nt an b x.2
  (.seq x.1 y.1 (match cA an n with|some w=>w.e|none=>[]),y.2)
 |.cond c a b,n=>let x:=pO P df nt an a n;let y:=pO P df nt an b x.2;(.cond c x.1 y.1,y.2)
 |.block id a,n=>let x:=pO P df nt an a n;(.block id x.1,x.2)
 |.loop a,n=>
  let x:=pO P df nt an a (n+1)
  (match cA an n with|some ⟨some j,e⟩=>.loop j e x.1|_=>.gx,x.2)
 |.scope a,n=>pO P df nt an a n
 |.label _,n=>(.skip,n)
 |.exit id,n=>(.exit id,n)
 |.ret,n=>(.ret,n)
 |_,n=>(.gx,n)
structure F2 where
 np:Nat
 kN:List RV
 body:C2
def Bs(P:Program)(df:AB)(f np:Nat)(an:List (Nat×An)):Option F2:=
 match P.funcs[f]?with
 |none=>none
 |some g=>
  match g.body with
  |none=>none
  |some code=>
   if(g.name== "runtime.NumGoroutine")=false/\np<=g.ntmps/\g.ntmps<1000000000 then
    match AQ P g.results.toList with|some kN=>some ⟨np,kN,(pO P df g.ntmps an code 0).1⟩|none=>none
   else none
def CW:Sh->List V->Option (V×List V)
 |.ni,l=>some (.ni,l)
 |.pr (.pt t) c,.x u v::l=>bif decide (u=t)&&kL t then(match CW c l with|some (w,l)=>some (.co (.pt u v) w,l)|none=>none)else none
 |_,_=>none
def tf:List (Bool×Sh)->Nat->List V->S2->Option (List (Nat×V)×S2)
 |[],_,[],s=>some ([],s)
 |(false,.x t)::r,i,.x u v::l,s=>bif decide (u=t)&&kL t then(match tf r (i+1) l s with|some (e,s)=>some ((i,.x u v)::e,s)|none=>none)else none
 |(false,.pt t)::r,i,.x u v::l,s=>bif decide (u=t)&&kL t then(match tf r (i+1) l s with|some (e,s)=>some ((i,.pt u v)::e,s)|none=>none)else none
 |(false,.nl k)::r,i,l,s=>(match tf r (i+1) l s with|some (e,s)=>some ((i,.nl k)::e,s)|none=>none)
 |(false,.fn f c)::r,i,l,s=>(match CW c l with|some (w,l)=>(match tf r (i+1) l s with|some (e,s)=>some ((i,.fn true f w)::e,s)|none=>none)|none=>none)
 |(true,c)::r,i,l,s=>(match ri c false l s with
  |some (w,l,s)=>(match tf r (i+1) l s with|some (e,s)=>some ((i,w)::e,{s with gh:=.co w s.gh})|none=>none)
  |none=>none)
 |_,_,_,_=>none
def QZ(ps:List (Bool×Sh))(l:List V):Option S2:=
 match tf ps 0 l ⟨[],[],0,[],.ni⟩with
 |some (e,s)=>some {s with dH:=e}
 |none=>none
def N0(s:S2):RV->Option V
 |.tmp t=>J9 s.dH s.heap (.tmp t)
 |.cell t g n=>match J9 s.dH s.heap (.tmp t)with|some p=>(match yX s.heap p with|some (w,_)=>bif GN s.heap g n w then some w else none|none=>none)|none=>none
def N1(h:H2):Sh->V->Option (List V×List Nat)
 |.x t,v=>match jm h v with|some (w,l)=>(match t7 t w with|some y=>some ([.x t y],l)|none=>none)|none=>none
 |.os t,.sb id _ _ u r=>(match fO h id with|some (.ar _ _ _)=>(match gN (.sl u) (.sl t) r with|some s=>some ([.x (.sl t) s],[id])|none=>none)|_=>none)
 |c,v=>ei h c false v
def T_(h:H2):Sh->V->Option (List V×List Nat)
 |.gn,_=>some ([],[])
 |c,v=>bif iz h v then ei h c false v else none
def AT(h:H2):List Sh->List V->Option (List V×List Nat)
 |[],[]=>some ([],[])
 |c::r,v::vs=>match N1 h c v,AT h r vs with|some (l,i),some (m,j)=>some (l++m,i++j)|_,_=>none
 |_,_=>none
def AS(h:H2):List Sh->List V->Option (List V×List Nat)
 |[],[]=>some ([],[])
 |c::r,v::vs=>match T_ h c v,AS h r vs with|some (l,i),some (m,j)=>some (l++m,i++j)|_,_=>none
 |_,_=>none
def Ot{α β:Type}(f:α->Option β):List α->Option (List β)
 |[]=>some []
 |a::r=>match f a,Ot f r with|some x,some y=>some (x::y)|_,_=>none
def Ju(kN:List RV)(rs os:List Sh)(s:S2):Option (List V):=
 match Ot (N0 s) kN with
 |some vs=>match AT s.heap rs vs,AS s.heap os (AI s.gh)with|some (l,i),some (m,j)=>bif yP (i++j)then some (l++m)else none|_,_=>none
 |none=>none
def Jv(kN:List RV)(s:S2):(r o:List Sh)->(w:Wy)->Option (vQ.GY r o w)
 |r,o,[]=>match Ju kN r o s with|some l=>v_ (g_ r++g_ o) l|none=>none
 |r,o,(r',o')::w=>match Ju kN r o s with|some l=>(match v_ (g_ r++g_ o) l with|some z=>some (.inl z)|none=>none)|none=>(match Jv kN s r' o' w with|some z=>some (.inr z)|none=>none)
def OI(kN:List RV)(s:S2):(w:Wy)->Option (vQ w)
 |[]=>none
 |(r,o)::w=>Jv kN s r o w
def SE(tb:ET)(F:Option F2)(ps:List (Bool×Sh))(al:Wy)(p:qH (g_ (ps.map (·.2)))):Option (vQ al):=
 match F with
 |some F=>
  match QZ ps (o9 _ p)with
  |some s=>xC tb F.body s fun o s=>match o with|.exit _=>none|_=>OI F.kN s al
  |none=>none
 |none=>none
theorem gT{α β:Type}{f:α->List β}{n:Nat}(h:∀a,(f a).length=n)(l:List α):(l.flatMap f).length=l.length*n:=by induction l with|nil=>simp|cons a l ih=>simp[bk,h,ih,bP];omega
theorem bJ:∀(t:Ty)(v:El t),(aS t v).length=bA t:=by intro t;induction t with|pr a c iha ihc=>intro v;simp[aS,bA,iha,ihc]|st t ih=>intro v;simp[aS,bA,ih]|ar n t ih=>intro v;rw[aS,gT ih,v.2];rfl|_=>intro v;rfl
theorem zp{α β:Type}[Inhabited α]{f:α->List β}{n:Nat}(h:∀a,(f a).length=n):∀(l:List α)(k:Nat),k<l.length->((l.flatMap f).drop (k*n)).take n=f (gt l k):=by
 intro l;induction l with
 |nil=>intro k hk;simp at hk
 |cons a l ih=>
  intro k hk;cases k with
  |zero=>simp[gt,h]
  |succ k=>
   have e:(k+1)*n=(f a).length+k*n:=by rw[h,bP];omega
   rw[bk,e,<-dz,eF (au _),fM,bl,ih k (by simpa using hk)];rfl
theorem Mj{α β:Type}{f:α->List β}{n:Nat}(h:∀a,(f a).length=n):∀(l:List α)(k:Nat)(x:α),k<l.length->(l.set k x).flatMap f=aV (l.flatMap f) (k*n) (f x):=by
 intro l;induction l with
 |nil=>intro k x hk;simp at hk
 |cons a l ih=>
  intro k x hk;cases k with
  |zero=>
   simp only[List.set_cons_zero,bk,aV,Nat.zero_mul,List.take_zero,bl,Nat.zero_add,h];have:(f a++l.flatMap f).drop n=l.flatMap f:=by rw[<-h a,eF (au _),fM,bl]
   rw[this]
  |succ k=>
   have e:(k+1)*n=(f a).length+k*n:=by rw[h,bP];omega
   simp only[List.set_cons_succ,bk,aV,e,List.take_length_add_append,cP];rw[<-dz,eF (au _),fM,bl,ih k x (by simpa using hk)];simp[aV]
theorem dw{t u:Ty}{v:El t}{y:El u}(h:gN t u v=some y):∃e:t=u,y=e▸v:=by
 unfold gN at h;split at h
 .rename_i e;exact⟨e,(aa h).symm⟩
 .simp at h
theorem wQ{t u:Ty}{v:El t}{y:El u}(h:gN t u v=some y):aS u y=aS t v/\t=u:=by obtain⟨rfl,rfl⟩:=dw h;exact⟨rfl,rfl⟩
theorem qV:∀(t:Ty)(v:El t)(i:Nat)(w:V),Ar t v i=some w->∃u y,w=.x u y/\CO t i=some u/\o8 t i+bA u<=bA t/\((aS t v).drop (o8 t i)).take (bA u)=aS u y:=by
 intro t;induction t with
 |pr a c iha ihc=>intro v i w h;cases i with|zero=>obtain rfl:=aa h;refine⟨a,v.1,rfl,rfl,by simp[o8,bA],?_⟩;simp[o8,aS,bJ]|succ i=>obtain⟨u,y,rfl,h1,h2,h3⟩:=ihc v.2 i w h;refine⟨u,y,rfl,h1,by simp only[o8,bA];omega,?_⟩;simp only[o8,aS];rw[<-dz,<-bJ a v.1,eF (au _),fM,bl,h3]
 |_=>intro v i w h;cases i with|zero=>obtain rfl:=aa h;exact⟨_,v,rfl,rfl,by simp[o8],by simp[o8,dn,bJ]⟩|succ i=>simp[Ar]at h
theorem QP:∀(t:Ty)(i:Nat)(u:Ty),CO t i=some u->o8 t i+bA u<=bA t:=by
 intro t;induction t with
 |pr a c iha ihc=>intro i u h;cases i with|zero=>obtain rfl:=aa h;simp[o8,bA]|succ i=>have:=ihc i u h;simp only[o8,bA];omega
 |_=>intro i u h;cases i with|zero=>obtain rfl:=aa h;simp[o8]|succ i=>simp[CO]at h
theorem tH{α:Type}{a b p:List α}{off:Nat}:aV (a++b) (a.length+off) p=a++aV b off p:=by simp only[aV,List.take_length_add_append,cP,aJ];rw[<-dz,eF (au _),fM,bl]
theorem tG{α:Type}{a b p:List α}{off:Nat}(h:off+p.length<=a.length):aV (a++b) off p=aV a off p++b:=by simp only[aV,aJ];rw[List.take_append_of_le_length (by omega),eF h]
theorem mL{α:Type}{b p:List α}(h:p.length=b.length):aV b 0 p=p:=by simp[aV,h]
theorem uE{α:Type}{b p:List α}{off:Nat}(h:off+p.length<=b.length):(aV b off p).length=b.length:=by simp only[aV,av,List.length_take,List.length_drop];omega
theorem uD{α β:Type}{f:α->β}{b p:List α}{off:Nat}:(aV b off p).map f=aV (b.map f) off (p.map f):=by simp[aV]
theorem qq{α:Type}{b c p:List α}{o1 o2 n:Nat}(hc:(b.drop o1).take n=c)(h1:o1+n<=b.length)(h2:o2+p.length<=n):aV b o1 (aV c o2 p)=aV b (o1+o2) p:=by
 have hcl:c.length=n:=by rw[<-hc];simp;omega
 have e:b=b.take o1++(c++b.drop (o1+n)):=by rw[<-hc,<-dz,jh,jh]
 have hl:(b.take o1).length=o1:=by simp;omega
 have hs:(aV c o2 p).length=n:=by rw[uE (by omega),hcl]
 have r2:aV b (o1+o2) p=b.take o1++(aV c o2 p++b.drop (o1+n)):=by
  conv=>lhs;rw[e]
  have:=tH (a:=b.take o1) (b:=c++b.drop (o1+n)) (p:=p) (off:=o2);rw[hl]at this;rw[this,tG (by omega)]
 rw[r2];show b.take o1++aV c o2 p++b.drop (o1+(aV c o2 p).length)=_;rw[hs,aJ]
theorem JH:∀(t:Ty)(l r:List Value)(x:El t),uV t l=some (x,r)->l.all eu=true->∃p,l=p++r/\(aS t x)=p.map D.lit:=by
 intro t;induction t with
 |pr a c iha ihc=>
  intro l r x h hp;simp only[uV]at h;split at h
  .rename_i y l1 h1;split at h
   .rename_i z l2 h2;obtain⟨rfl,rfl⟩:=ad (aa h);obtain⟨p,rfl,e1⟩:=iha _ _ _ h1 hp;obtain⟨q,rfl,e2⟩:=ihc _ _ _ h2 (by rw[List.all_append,ai]at hp;exact hp.2);exact⟨p++q,by simp,by simp[aS,e1,e2]⟩
   .simp at h
  .simp at h
 |st t ih=>intro l r x h hp;exact ih l r x h hp
 |ar n t ih=>
  intro l r x h hp;simp only[uV]at h
  have key:∀(m:Nat)(l r:List Value)(x:Arr m (El t)),OO (uV t) m l=some (x,r)->l.all eu=true->∃p,l=p++r/\x.1.flatMap (aS t)=p.map D.lit:=by
   intro m;induction m with
   |zero=>intro l r x h hp;obtain⟨rfl,rfl⟩:=ad (aa h);exact⟨[],rfl,rfl⟩
   |succ m ihn=>
    intro l r x h hp;simp only[OO]at h;split at h
    .rename_i y l1 h1;split at h
     .rename_i v l2 h2;obtain⟨rfl,rfl⟩:=ad (aa h);obtain⟨p,rfl,e1⟩:=ih _ _ _ h1 hp;obtain⟨q,rfl,e2⟩:=ihn _ _ _ h2 (by rw[List.all_append,ai]at hp;exact hp.2);exact⟨p++q,by simp,by simp[bk,e1,e2]⟩
     .simp at h
    .simp at h
  exact key n l r x h hp
 |i k=>
  intro l r x h hp;simp only[uV]at h;unfold SL at h;split at h
  .split at h
   .rename_i e;subst e;obtain⟨rfl,rfl⟩:=ad (aa h);exact⟨[_],rfl,rfl⟩
   .simp at h
  .simp at h
 |b=>
  intro l r x h hp;simp only[uV]at h;unfold SM at h;split at h
  .obtain ⟨rfl,rfl⟩:=ad (aa h);exact⟨[_],rfl,rfl⟩
  .simp at h
 |s=>
  intro l r x h hp;simp only[uV]at h;unfold SJ at h;split at h
  .obtain ⟨rfl,rfl⟩:=ad (aa h);exact⟨[_],rfl,rfl⟩
  .simp at h
 |f k=>
  intro l r x h hp;simp only[uV]at h;unfold PD at h;split at h
  .split at h
   .rename_i e;subst e;obtain⟨rfl,rfl⟩:=ad (aa h);exact⟨[_],rfl,rfl⟩
   .simp at h
  .simp at h
 |sl t ih=>
  intro l r x h hp;simp only[uV]at h;unfold SK at h;split at h
  .obtain ⟨rfl,rfl⟩:=ad (aa h);exact⟨[_],rfl,rfl⟩
  .simp at h
 |_=>intro l r x h hp;simp[uV]at h
def CG(h:H2)(id ver:Nat):Bool:=match fO h id with|some (.ar _ _ v)|some (.im _ _ v)=>v==ver|_=>false
def QL(id:Nat)(c:C):Prop:=∀i∈eV c,i=id
def fm(h:H2):V->List C->Prop
 |.x t v,cs=>kL t=true/\cs=(aS t v).map .d
 |.kb c,cs=>cs=[.d (.lit (.bool c))]
 |.nl k,cs=>cs=[DN k]
 |.so id,cs=>∃c,cs=[c]/\(∀c',AL id (fO h id)=some c'->c=c')/\QL id c
 |.sr id,cs=>∃c,cs=[c]/\(∀c',EZ id (fO h id)=some c'->c=c')/\QL id c
 |.sb id ver lo t r,cs=>∃c,cs=[c]/\(CG h id ver=true->c=yr id lo t r)/\QL id c
 |.op id t p,cs=>cs=[.op id (mX t p)]
 |.ep id n t p,cs=>cs=[.ep id n (mX t p)]
 |.pt t v,cs=>kL t=true/\cs=[.d (.pt (aS t v))]
 |.fn true f l,cs=>∃ds,qG l=some ds/\cs=[.d (.fn f ds)]
 |.fn false f l,cs=>∃xs,fm h l xs/\cs=[.o5 f xs]
 |.om id,cs=>cs=[.om id]
 |.rc l,cs=>fm h l cs
 |.fl l,cs=>l.all eu=true/\cs=fz l
 |.ni,cs=>cs=[]
 |.co a r,cs=>∃x y,cs=x++y/\fm h a x/\fm h r y
 |.tp _,_|.no,_|.gn,_=>False
def sI(h:H2)(v:V)(x:TV):Prop:=∃cs,fm h v cs/\(tC v=true->x=.agg cs)/\(tC v=false->∃c,cs=[c]/\x=.c c)
def BJ(h:H2):V->List TV->Prop
 |.ni,xs=>xs=[]
 |.co a r,xs=>∃x ys,xs=x::ys/\sI h a x/\BJ h r ys
 |_,_=>False
def ge(h:H2):V->TV->Prop
 |.tp l,x=>∃xs,x=.iT xs/\BJ h l xs
 |.no,x=>x=.iT []
 |.gn,_=>False
 |v,x=>sI h v x
def UX(t u:Ty)(s:Sl (El t))(lo:Nat)(r:Sl (El u)):Prop:=bA t=bA u/\match s,r with|.nil,.nil=>True|.mk l,.mk m=>lo+m.length<=l.length/\((l.map (aS t)).drop lo).take m.length=m.map (aS u)|_,_=>False
def fg(n:Nat)(h:H2):V->Prop
 |.so id|.sr id|.om id=>id<n
 |.sb id ver lo t r=>id<n/\∀u s v,(fO h id=some (.ar u s v)\/fO h id=some (.im u s v))->ver<=v/\(v=ver->UX u t s lo r)
 |.op id t p=>id<n/\IZ t p
 |.ep id m t p=>id<n/\IZ t p/\(∀u s v,(fO h id=some (.ar u s v)\/fO h id=some (.im u s v))->m<s.l.length)/\∀u s v,fO h id=some (.rw u s v)->m<s.l.length
 |.fn _ _ l|.rc l|.tp l=>fg n h l
 |.co a r=>fg n h a/\fg n h r
 |_=>True
def vu(h:H2):O->Option Ob->Prop
 |.ar t s _,b=>kL t=true/\0<bA t/\(∀l,s=.mk l->b=some (.aM (bA t) (l.map (aS t))))
 |.im t s _,b=>kL t=true/\0<bA t/\(∀l,s=.mk l->b=some (.pJ (bA t) (l.map (aS t))))
 |.bx t c,b=>∃cs,b=some (.box cs)/\fm h c cs/\eL c false t=true
 |.ib t v,b=>kL t=true/\b=some (.oF (aS t v))
 |.mp k v m,b=>kL v=true/\(∃ks,D_ k=some ks)/\b=E1 (nA k) (nA v) (fun x=>(aS k x).map fun|.lit y=>y|_=>.nilFunc) (aS v) m
 |.rw t s ln,b=>kL t=true/\0<bA t/\(∀l,(s:Sl (Sl (El t)))=.mk l->b=some (.nst (bA t) (eX t l ln)))
def CN(n:Nat)(h:H2):O->Prop
 |.bx _ c=>fg n h c
 |.rw _ s (some (m,id))=>m<s.l.length/\id<n/\∀u r v,(fO h id=some (.ar u r v)\/fO h id=some (.im u r v))->r.fS=(gt s.l m).fS/\r.l.length=(gt s.l m).l.length
 |_=>True
structure HR(n:Nat)(h1:bF)(h2:H2):Prop where
 ob:∀id o,fO h2 id=some o->id<n/\vu h2 o (aB h1 id)/\CN n h2 o
abbrev Nr(t:Ty)(s:Sl (El t)):(t:Ty)×Sl (El t):=⟨t,s⟩
abbrev Ve(t:Ty)(s:El t):(t:Ty)×El t:=⟨t,s⟩
def Pg(t u:Ty)(s:Sl (El t))(s':Sl (El u))(v v':Nat):Prop:=v<=v'/\t=u/\s.fS=s'.fS/\s.l.length=s'.l.length/\(v=v'->Nr t s=Nr u s')
def sE:O->O->Prop
 |.ar t s v,.ar u s' v'|.ar t s v,.im u s' v'=>Pg t u s s' v v'
 |.im t s v,.im u s' v'=>v=v'/\Nr t s=Nr u s'
 |.bx t _,.bx u _=>t=u
 |.bx _ _,.ib _ _=>True
 |.ib t v,.ib u w=>Ve t v=Ve u w
 |.mp _ _ _,.mp _ _ _=>True
 |.rw t s _,.rw u s' _=>t=u/\s.fS=s'.fS/\s.l.length=s'.l.length
 |_,_=>False
def um:O->Bool
 |.bx _ _|.ib _ _=>true
 |_=>false
structure jy(n:Nat)(h h':H2):Prop where
 ob:∀id o',id<n->fO h' id=some o'->(∃o,fO h id=some o/\sE o o')\/um o'=true
theorem Pg.trans{t u w:Ty}{s:Sl (El t)}{s':Sl (El u)}{s2:Sl (El w)}{a b c:Nat}(h1:Pg t u s s' a b)(h2:Pg u w s' s2 b c):Pg t w s s2 a c:=by obtain⟨a1,rfl,a3,a4,a5⟩:=h1;obtain⟨b1,rfl,b3,b4,b5⟩:=h2;refine⟨Nat.le_trans a1 b1,rfl,a3.trans b3,a4.trans b4,fun e=>?_⟩;have e1:a=b:=Nat.le_antisymm a1 (e▸b1);exact(a5 e1).trans (b5 (e1▸e))
theorem Pg.Ss{t u:Ty}{s:Sl (El t)}{s':Sl (El u)}{a b:Nat}(h:a=b)(e:Nr t s=Nr u s'):Pg t u s s' a b:=by subst h;obtain⟨rfl,e⟩:=jz e;cases e;exact⟨au _,rfl,rfl,rfl,fun _=>rfl⟩
theorem sE.refl(o:O):sE o o:=by cases o<;>simp[sE,Pg]
theorem sE.trans{a b c:O}(h1:sE a b)(h2:sE b c):sE a c:=by
 cases a<;>cases b<;>simp only[sE]at h1<;>first|exact h1.elim|skip
 all_goals(cases c<;>simp only[sE]at h2|-<;>first|exact h2.elim|skip)
 .exact h1.trans h2
 .exact h1.trans h2
 .exact h1.trans (Pg.Ss h2.1 h2.2)
 .exact ⟨h1.1.trans h2.1,h1.2.trans h2.2⟩
 .exact h1.trans h2
 .exact h1.trans h2
 .exact ⟨h1.1.trans h2.1,h1.2.1.trans h2.2.1,h1.2.2.trans h2.2.2⟩
theorem jy.refl(n:Nat)(h:H2):jy n h h:=⟨fun _ o _ h=>.inl ⟨o,h,sE.refl o⟩⟩
theorem jy.trans{n n':Nat}{a b c:H2}(hn:n<=n')(h1:jy n a b)(h2:jy n' b c):jy n a c:=
 ⟨fun id o' hi ho=>by
  rcases h2.ob id o' (by omega) ho with⟨o1,h3,h4⟩|q
  .rcases h1.ob id o1 hi h3 with⟨o2,h5,h6⟩|q
   .exact .inl ⟨o2,h5,h6.trans h4⟩
   .exact .inr (by cases o1<;>simp[um]at q<;>cases o'<;>simp[sE]at h4<;>rfl)
  .exact .inr q⟩
theorem BR{sz id:Nat}{α:Type}{e:α->List D}{s:Sl α}:QL id (mB sz e id s):=by intro i hi;cases s with|nil=>simp[mB,eV]at hi|mk l=>simpa[mB,eV]using hi
theorem KE{id lo:Nat}{t:Ty}{s:Sl (El t)}:QL id (yr id lo t s):=by intro i hi;cases s with|nil=>simp[yr,eV]at hi|mk l=>simpa[yr,eV]using hi
section
variable{n n':Nat}{h h':H2}
theorem Fs{t:Ty}{s s':Sl (El t)}{id:Nat}(h1:s.fS=s'.fS)(h2:s.l.length=s'.l.length):mB (bA t) (aS t) id s=mB (bA t) (aS t) id s':=by cases s<;>cases s'<;>simp_all[Sl.fS,mB]
theorem Kx(hs:jy n h h'){id:Nat}(hi:id<n){c:C}(hc:AL id (fO h' id)=some c):AL id (fO h id)=some c:=by
 cases ho:fO h' id with
 |none=>rw[ho]at hc;simp[AL]at hc
 |some o'=>
  rw[ho]at hc;obtain⟨o,h1,h2⟩:=(hs.ob id o' hi ho).resolve_right fun e=>by cases o'<;>simp[um]at e<;>simp[AL]at hc
  rw[h1];cases o'<;>simp only[AL]at hc<;>first|cases hc;done|skip
  all_goals(cases o<;>simp only[sE]at h2<;>first|exact h2.elim|skip)
  .obtain ⟨_,rfl,h3,h4,_⟩:=h2;rw[<-hc];simp only[AL];rw[Fs h3 h4]
  .obtain ⟨_,rfl,h3,h4,_⟩:=h2;rw[<-hc];simp only[AL];rw[Fs h3 h4]
  .obtain ⟨_,h3⟩:=h2;obtain⟨rfl,h3⟩:=jz h3;cases h3;rw[<-hc];rfl
  all_goals simp at hc
theorem Kt(hs:jy n h h'){id:Nat}(hi:id<n){c:C}(hc:EZ id (fO h' id)=some c):EZ id (fO h id)=some c:=by
 cases ho:fO h' id with
 |none=>rw[ho]at hc;simp[EZ]at hc
 |some o'=>
  rw[ho]at hc;obtain⟨o,h1,h2⟩:=(hs.ob id o' hi ho).resolve_right fun e=>by cases o'<;>simp[um]at e<;>simp[EZ]at hc
  rw[h1];cases o'<;>simp only[EZ]at hc<;>first|cases hc;done|skip
  all_goals(cases o<;>simp only[sE]at h2<;>first|exact h2.elim|skip)
  .obtain ⟨rfl,h3,h4⟩:=h2;rw[<-hc];simp only[EZ];exact congrArg some (Fs (t:=.sl _) h3 h4)
  all_goals simp at hc
theorem Hc(hs:jy n h h'){id:Nat}(hi:id<n){u:Ty}{s:Sl (Sl (El u))}{ln:Option (Nat×Nat)}(ho:fO h' id=some (.rw u s ln)):∃s0 ln0,fO h id=some (.rw u s0 ln0)/\s0.fS=s.fS/\s0.l.length=s.l.length:=by
 obtain⟨o,h1,h2⟩:=(hs.ob id _ hi ho).resolve_right fun e=>by simp[um]at e
 cases o<;>simp only[sE]at h2<;>first|exact h2.elim|skip
 obtain⟨rfl,h3,h4⟩:=h2;exact⟨_,_,h1,h3,h4⟩
theorem KA(hs:jy n h h'){id:Nat}(hi:id<n){u:Ty}{s:Sl (El u)}{v:Nat}(ho:fO h' id=some (.ar u s v)\/fO h' id=some (.im u s v)):
  ∃s0 v0,(fO h id=some (.ar u s0 v0)\/fO h id=some (.im u s0 v0))/\s0.fS=s.fS/\s0.l.length=s.l.length:=by
 rcases ho with ho|ho
 all_goals
  obtain⟨o,h1,h2⟩:=(hs.ob id _ hi ho).resolve_right fun e=>by simp[um]at e
  cases o<;>simp only[sE]at h2<;>first|exact h2.elim|skip
 .obtain ⟨_,rfl,h3,h4,_⟩:=h2;exact⟨_,_,.inl h1,h3,h4⟩
 .obtain ⟨_,rfl,h3,h4,_⟩:=h2;exact⟨_,_,.inl h1,h3,h4⟩
 .obtain ⟨rfl,h3⟩:=h2;obtain⟨rfl,h3⟩:=jz h3;cases h3;exact⟨_,_,.inr h1,rfl,rfl⟩
theorem tJ(hs:jy n h h'){id:Nat}(hi:id<n){u:Ty}{s:Sl (El u)}{v:Nat}(ho:fO h' id=some (.ar u s v)\/fO h' id=some (.im u s v)):
  ∃s0 v0,(fO h id=some (.ar u s0 v0)\/fO h id=some (.im u s0 v0))/\v0<=v/\s0.l.length=s.l.length/\(v0=v->s0=s):=by
 rcases ho with ho|ho
 all_goals
  obtain⟨o,h1,h2⟩:=(hs.ob id _ hi ho).resolve_right fun e=>by simp[um]at e
  cases o<;>simp only[sE]at h2<;>first|exact h2.elim|skip
 .obtain ⟨h3,rfl,_,h4,h5⟩:=h2;exact⟨_,_,.inl h1,h3,h4,fun e=>by have:=h5 e;simpa using this⟩
 .obtain ⟨h3,rfl,_,h4,h5⟩:=h2;exact⟨_,_,.inl h1,h3,h4,fun e=>by have:=h5 e;simpa using this⟩
 .obtain ⟨rfl,h3⟩:=h2;obtain⟨rfl,h3⟩:=jz h3;cases h3;exact⟨_,_,.inr h1,au _,rfl,fun _=>rfl⟩
theorem lK{id ver:Nat}(ha:CG h id ver=true):∃u s,fO h id=some (.ar u s ver)\/fO h id=some (.im u s ver):=by
 unfold CG at ha;split at ha
 .rename_i u s v ho;obtain rfl:v=ver:=by simpa using ha
  exact⟨u,s,.inl ho⟩
 .rename_i u s v ho;obtain rfl:v=ver:=by simpa using ha
  exact⟨u,s,.inr ho⟩
 .simp at ha
theorem gS(hn:n<=n')(hs:jy n h h'):∀{v:V},fg n h v->fg n' h' v:=by
 intro v;induction v with
 |so id=>intro hv;simp only[fg]at hv|-;omega
 |sr id=>intro hv;simp only[fg]at hv|-;omega
 |om id=>intro hv;simp only[fg]at hv|-;omega
 |sb id ver lo t r=>
  rintro⟨h1,h2⟩;refine⟨by omega,fun u s v ho=>?_⟩;obtain⟨s0,v0,h3,h4,h5,h6⟩:=tJ hs h1 ho;obtain⟨h7,h8⟩:=h2 u s0 v0 h3;refine⟨by omega,fun e=>?_⟩;have e2:v0=ver:=by omega
  have:=h6 (by omega);subst this;exact h8 e2
 |op id t p=>rintro⟨h1,h2⟩;exact⟨by omega,h2⟩
 |ep id m t p=>
  rintro⟨h1,h2,h3,h6⟩;refine⟨by omega,h2,fun u s v ho=>?_,fun u s v ho=>?_⟩
  .obtain ⟨s0,v0,h4,_,h5,_⟩:=tJ hs h1 ho;have:=h3 u s0 v0 h4;omega
  .obtain ⟨s0,v0,h4,_,h5⟩:=Hc hs h1 ho;have:=h6 u s0 v0 h4;omega
 |fn z f l ih=>intro hv;exact ih hv
 |rc l ih=>intro hv;exact ih hv
 |tp l ih=>intro hv;exact ih hv
 |co a r iha ihr=>rintro⟨h1,h2⟩;exact⟨iha h1,ihr h2⟩
 |_=>intro _;trivial
theorem lJ(hs:jy n h h'):∀{v:V}{cs:List C},fg n h v->fm h v cs->fm h' v cs:=by
 intro v;induction v with
 |so id=>rintro cs hi ⟨c,rfl,hc,hid⟩;exact⟨c,rfl,fun c' hc'=>hc c' (Kx hs hi hc'),hid⟩
 |sr id=>rintro cs hi ⟨c,rfl,hc,hid⟩;exact⟨c,rfl,fun c' hc'=>hc c' (Kt hs hi hc'),hid⟩
 |sb id ver lo t r=>
  rintro cs ⟨hi,h2⟩ ⟨c,rfl,hc,hid⟩;refine⟨c,rfl,fun ha=>hc ?_,hid⟩;obtain⟨u,s,ho⟩:=lK ha;obtain⟨s0,v0,h3,h4,_,_⟩:=tJ hs hi ho;obtain⟨h7,_⟩:=h2 u s0 v0 h3;have:v0=ver:=by omega
  subst this;unfold CG;rcases h3 with h3|h3<;>rw[h3]<;>simp
 |fn z f l ih=>intro cs hv hc;cases z with|true=>exact hc|false=>obtain⟨xs,h1,h2⟩:=hc;exact⟨xs,ih hv h1,h2⟩
 |rc l ih=>intro cs hv hc;exact ih hv hc
 |co a r iha ihr=>rintro cs ⟨h1,h2⟩ ⟨x,y,rfl,h3,h4⟩;exact⟨x,y,rfl,iha h1 h3,ihr h2 h4⟩
 |_=>intro cs _ hc;exact hc
theorem v8(hs:jy n h h'){v:V}{x:TV}(hv:fg n h v)(hx:sI h v x):sI h' v x:=by obtain⟨cs,h1,h2⟩:=hx;exact⟨cs,lJ hs hv h1,h2⟩
theorem Ic(hs:jy n h h'):∀{v:V}{xs:List TV},fg n h v->BJ h v xs->BJ h' v xs:=by intro v;induction v with|co a r iha ihr=>rintro xs ⟨h1,h2⟩ ⟨x,ys,rfl,h3,h4⟩;exact⟨x,ys,rfl,v8 hs h1 h3,ihr h2 h4⟩|ni=>intro xs _ h;exact h|_=>intro xs _ h;exact h.elim
theorem u9(hs:jy n h h'){v:V}{x:TV}(hv:fg n h v)(hx:ge h v x):ge h' v x:=by cases v with|tp l=>obtain⟨xs,h1,h2⟩:=hx;exact⟨xs,h1,Ic hs hv h2⟩|no=>exact hx|gn=>exact hx|_=>exact v8 hs hv hx
theorem pE(hs:jy n h h'){o:O}{b:Option Ob}(ho:CN n h o)(hb:vu h o b):vu h' o b:=by cases o with|bx t c=>obtain⟨cs,h1,h2,h3⟩:=hb;exact⟨cs,h1,lJ hs ho h2,h3⟩|_=>exact hb
theorem oA(hn:n<=n')(hs:jy n h h'){o:O}(ho:CN n h o):CN n' h' o:=by
 cases o with
 |bx t c=>exact gS hn hs ho
 |rw t s ln=>cases ln with|none=>trivial|some q=>obtain⟨m,id⟩:=q;obtain⟨h1,h2,h3⟩:=ho;refine⟨h1,Nat.lt_of_lt_of_le h2 hn,fun u r v hu=>?_⟩;obtain⟨s0,v0,h4,h5,h6⟩:=KA hs h2 hu;obtain⟨h7,h8⟩:=h3 u s0 v0 h4;exact⟨h5▸h7,h6▸h8⟩
 |_=>trivial
end
theorem iD{h:H2}:∀{v:V}{cs:List C},fm h v cs->cs.length=yh v:=by
 intro v;induction v with
 |x t v=>rintro cs ⟨_,rfl⟩;simp[yh,bJ]
 |so id=>rintro cs ⟨c,rfl,_⟩;rfl
 |sr id=>rintro cs ⟨c,rfl,_⟩;rfl
 |sb id ver lo t r=>rintro cs ⟨c,rfl,_⟩;rfl
 |pt t v=>rintro cs ⟨_,rfl⟩;rfl
 |fn z f l ih=>intro cs hc;cases z with|true=>obtain⟨ds,_,rfl⟩:=hc;rfl|false=>obtain⟨ds,_,rfl⟩:=hc;rfl
 |rc l ih=>intro cs hc;exact ih hc
 |fl l=>rintro cs ⟨_,rfl⟩;simp[fz,yh]
 |ni=>rintro cs rfl;rfl
 |co a r iha ihr=>rintro cs ⟨x,y,rfl,h1,h2⟩;simp[yh,iha h1,ihr h2]
 |tp l=>intro cs hc;exact hc.elim
 |no=>intro cs hc;exact hc.elim
 |gn=>intro cs hc;exact hc.elim
 |_=>rintro cs rfl;rfl
theorem gW:∀(v:V)(ln:Bool)(t:Ty),eL v ln t=true->yh v=bA t:=by
 intro v;induction v with
 |rc l ih=>
  intro ln t hf;cases ln with
  |true=>cases t<;>simp[eL]at hf
  |false=>cases t with|st t=>exact ih true t hf|_=>simp[eL]at hf
 |co a r iha ihr=>
  intro ln t hf;cases ln with
  |false=>simp[eL]at hf
  |true=>
   cases t with
   |pr t u=>simp only[eL,ai]at hf;simp[yh,bA,iha _ _ hf.1,ihr _ _ hf.2]
   |_=>cases r with|ni=>have hf':eL a false _=true:=hf;simp[yh,iha _ _ hf']|_=>simp[eL]at hf
 |x u v=>intro ln t hf;cases ln with|false=>simp only[eL,decide_eq_true_eq]at hf;subst hf;rfl|true=>cases t<;>simp[eL]at hf
 |nl k=>intro ln t hf;cases ln<;>cases t<;>first|rfl|(simp[eL]at hf;done)|skip
 |_=>intro ln t hf;cases ln<;>cases t<;>first|rfl|(simp[eL]at hf;done)
section
variable{h:H2}
theorem pP{v:V}{u:Ty}{y:El u}{cs:List C}(hc:ik u v=some y)(hv:fm h v cs):cs=(aS u y).map .d:=by
 cases v with
 |x t v=>obtain⟨rfl,rfl⟩:=dw hc;exact hv.2
 |kb c=>obtain⟨rfl,rfl⟩:=dw (t:=.b) hc;exact hv
 |nl k=>
  cases k with
  |zero=>
   cases u<;>simp only[ik]at hc<;>first|cases hc;done|skip
   obtain rfl:=aa hc;exact hv
  |succ k=>simp[ik]at hc
 |fl l=>
  obtain⟨h1,rfl⟩:=hv;simp only[ik]at hc;cases ha:nA u
  .rw [ha]at hc;simp at hc
  rw[ha,cond_true]at hc;split at hc
  .rename_i x hx;obtain rfl:=aa hc;obtain⟨p,rfl,e⟩:=JH u _ _ _ hx h1;rw[e];simp[fz]
  .simp at hc
 |_=>simp[ik]at hc
theorem iZ:∀(v:V)(ln:Bool)(u:Ty)(y:El u)(cs:List C),kV v ln u=some y->fm h v cs->cs=(aS u y).map .d:=by
 intro v;induction v with
 |rc l ih=>
  intro ln u y cs hc hv;cases ln with
  |true=>cases u<;>simp[kV]at hc
  |false=>cases u with|st u=>exact ih true u y cs hc hv|_=>simp[kV,ik]at hc
 |co a r iha ihr=>
  intro ln u y cs hc hv;obtain⟨x1,x2,rfl,h1,h2⟩:=hv;cases ln with
  |false=>cases u<;>simp[kV,ik]at hc
  |true=>
   cases u with
   |pr t u=>
    simp only[kV]at hc;split at hc
    .rename_i p q hp hq;obtain rfl:=aa hc;rw[iha _ _ _ _ hp h1,ihr _ _ _ _ hq h2];simp[aS]
    .simp at hc
   |_=>cases r with|ni=>have hc':kV a false _=some y:=hc;obtain rfl:x2=[]:=h2;rw[bC];exact iha _ _ _ _ hc' h1|_=>simp[kV]at hc
 |_=>
  intro ln u y cs hc hv;cases ln with
  |true=>cases u<;>simp[kV]at hc
  |false=>first|exact pP hc hv|(simp[kV]at hc)
theorem EH{v:V}{u:Ty}{y:El u}(hc:ik u v=some y):tC v=nA u:=by
 cases v with
 |x t v=>obtain⟨rfl,_⟩:=dw hc;rfl
 |kb c=>obtain⟨rfl,_⟩:=dw (t:=.b) hc;rfl
 |nl k=>
  cases k with
  |zero=>cases u<;>simp only[ik]at hc<;>first|rfl|cases hc
  |succ k=>simp[ik]at hc
 |fl l=>
  simp only[ik]at hc;cases ha:nA u
  .rw [ha]at hc;simp at hc
  .rfl
 |_=>simp[ik]at hc
theorem wN{v:V}{u:Ty}{y:El u}(hc:t7 u v=some y):tC v=nA u:=by
 cases v with
 |rc l=>cases u with|st u=>rfl|_=>simp[t7,kV,ik]at hc
 |co a r=>cases u<;>simp[t7,kV,ik]at hc
 |ni=>cases u<;>simp[t7,kV]at hc
 |_=>exact EH hc
theorem A0:∀(l:V)(t:Ty)(i:Nat)(w:V)(cs:List C),eL l true t=true->fm h l cs->sq l i=some w->
  ∃u cw,CO t i=some u/\eL w false u=true/\fm h w cw/\o8 t i+bA u<=cs.length/\(cs.drop (o8 t i)).take (bA u)=cw:=by
 intro l;induction l with
 |co a r iha ihr=>
  intro t i w cs hf hv hw;obtain⟨x,y,rfl,h1,h2⟩:=hv;have one:∀t,eL a false t=true->r=.ni->CO t 0=some t->o8 t 0=0->i=0->∃u cw,CO t i=some u/\eL w false u=true/\fm h w cw/\o8 t i+bA u<=(x++y).length/\((x++y).drop (o8 t i)).take (bA u)=cw:=by intro t hf hr h3 h4 hi;subst hi;obtain rfl:=aa hw;have hs:=gW _ _ _ hf;have hl:=iD h1;refine⟨t,x,h3,hf,h1,by rw[h4];simp;omega,?_⟩;rw[h4,cT,<-hs,<-hl,List.take_left]
  cases t with
  |pr t u=>simp only[eL,ai]at hf;have hs:=gW _ _ _ hf.1;have hl:=iD h1;cases i with|zero=>obtain rfl:=aa hw;refine⟨t,x,rfl,hf.1,h1,by simp[o8];omega,?_⟩;simp only[o8,cT];rw[<-hs,<-hl,List.take_left]|succ i=>obtain⟨u',cw,q1,q2,q3,q4,q5⟩:=ihr u i w y hf.2 h2 hw;refine⟨u',cw,q1,q2,q3,by simp only[o8,av];omega,?_⟩;simp only[o8];rw[<-dz,<-hs,<-hl,List.drop_left,q5]
  |_=>
   cases r with
   |ni=>have hf':eL a false _=true:=hf;cases i with|zero=>exact one _ hf' rfl rfl rfl rfl|succ i=>simp[sq]at hw
   |_=>simp[eL]at hf
 |_=>intro t i w cs hf hv hw;simp[sq]at hw
theorem AU:∀(l:V)(t:Ty)(i:Nat)(w:V)(cs cw:List C)(u:Ty),eL l true t=true->fm h l cs->CO t i=some u->fm h w cw->cw.length=bA u->(∃w0,sq l i=some w0)->fm h (KN l i w) (aV cs (o8 t i) cw):=by
 intro l;induction l with
 |co a r iha ihr=>
  intro t i w cs cw u hf hv hu hw hlen hn;obtain⟨x,y,rfl,h1,h2⟩:=hv;cases t with
  |pr t u'=>simp only[eL,ai]at hf;have hs:=gW _ _ _ hf.1;have hl:=iD h1;cases i with|zero=>obtain rfl:=aa hu;refine⟨cw,y,?_,hw,h2⟩;simp only[o8];rw[tG (by omega),mL (by omega)]|succ i=>have:=ihr u' i w y cw u hf.2 h2 hu hw hlen hn;refine⟨x,_,?_,h1,this⟩;simp only[o8];rw[<-hs,<-hl,tH]
  |_=>
   cases r with
   |ni=>cases i with|zero=>obtain rfl:=aa hu;have hf':eL a false _=true:=hf;have hs:=gW _ _ _ hf';have hl:=iD h1;obtain rfl:y=[]:=h2;refine⟨cw,[],?_,hw,rfl⟩;simp only[o8,bC];rw[mL (by omega)]|succ i=>obtain⟨w0,hn⟩:=hn;simp[sq]at hn
   |_=>simp[eL]at hf
 |_=>intro t i w cs cw u hf hv hu hw hlen hn;obtain⟨w0,hn⟩:=hn;simp[sq]at hn
theorem BM:∀(t:Ty)(v:El t),kL t=true->fm h (Ig t v) ((aS t v).map .d):=by intro t;induction t with|pr a c iha ihc=>intro v hd;simp only[kL,ai]at hd;exact⟨(aS a v.1).map .d,(aS c v.2).map .d,by simp[aS],⟨hd.1,rfl⟩,ihc v.2 hd.2⟩|_=>intro v hd;exact⟨_,[],(bC _).symm,⟨hd,rfl⟩,rfl⟩
theorem NI:∀(t:Ty)(v:El t),eL (Ig t v) true t=true:=by intro t;induction t with|pr a c iha ihc=>intro v;simp[Ig,eL,ihc]|_=>intro v;simp[Ig,eL]
theorem NH:∀(t:Ty)(v:El t)(i:Nat)(w:V),Ar t v i=some w->sq (Ig t v) i=some w:=by
 intro t;induction t with
 |pr a c iha ihc=>intro v i w hw;cases i with|zero=>exact hw|succ i=>exact ihc v.2 i w hw
 |_=>intro v i w hw;cases i with|zero=>exact hw|succ i=>simp[Ar]at hw
theorem zC:∀(t:Ty)(i:Nat)(u:Ty),kL t=true->CO t i=some u->kL u=true:=by
 intro t;induction t with
 |pr a c iha ihc=>intro i u hd hu;simp only[kL,ai]at hd;cases i with|zero=>obtain rfl:=aa hu;exact hd.1|succ i=>exact ihc i u hd.2 hu
 |_=>intro i u hd hu;cases i with|zero=>obtain rfl:=aa hu;exact hd|succ i=>simp[CO]at hu
theorem wq:∀(p:p8)(t u:Ty),rh t p=some u->IZ t p->mX t p+bA u<=bA t:=by
 intro p;induction p with
 |nil=>
  intro t u hu _;have e2:rh t []=some t:=by cases t<;>rfl
  have e:mX t []=0:=by cases t<;>rfl
  obtain rfl:t=u:=by rw[e2]at hu;exact aa hu
  omega
 |cons q p ih=>
  intro t u hu hp;cases q with
  |fd i=>cases t with|st t=>obtain⟨a,ha,hp⟩:=hp;simp only[rh,ha]at hu;have:=ih a u hu hp;have:=QP t i a ha;simp only[mX,ha,bA];omega|_=>exact hp.elim
  |ix k=>cases t with|ar n t=>obtain⟨hk,hp⟩:=hp;have:=ih t u hu hp;have h2:(k+1)*bA t<=n*bA t:=aI _ hk;rw[bP]at h2;simp only[mX,bA];omega|_=>exact hp.elim
theorem wE:∀(p:p8)(c:V)(t:Ty)(w:V)(cs:List C),eL c false t=true->fm h c cs->IZ t p->pK c p=some w->
  ∃u cw,rh t p=some u/\eL w false u=true/\fm h w cw/\mX t p+bA u<=cs.length/\(cs.drop (mX t p)).take (bA u)=cw:=by
 intro p;induction p with
 |nil=>
  intro c t w cs hf hv _ hw;obtain rfl:c=w:=by simpa[pK]using hw
  have hs:=gW _ _ _ hf;have hl:=iD hv;refine⟨t,cs,by cases t<;>rfl,hf,hv,?_,?_⟩
  .cases t<;>simp[mX]<;>omega
  .have e:mX t []=0:=by cases t<;>rfl
   rw[e,cT,dn (by omega)]
 |cons q p ih=>
  intro c t w cs hf hv hp hw
  have sub:∀(o n:Nat)(c2:V)(u:Ty)(c3:List C),eL c2 false u=true->fm h c2 c3->(cs.drop o).take (bA u)=c3->o+bA u<=cs.length->IZ u p->pK c2 p=some w->rh t (q::p)=rh u p->mX t (q::p)=o+mX u p->
    ∃u cw,rh t (q::p)=some u/\eL w false u=true/\fm h w cw/\mX t (q::p)+bA u<=cs.length/\(cs.drop (mX t (q::p))).take (bA u)=cw:=by
   intro o n c2 u c3 hf2 hv2 h3 h4 h5 h6 h7 h8;obtain⟨u',cw,q1,q2,q3,q4,q5⟩:=ih c2 u w c3 hf2 hv2 h5 h6;have hl:=iD hv2;rw[gW _ _ _ hf2]at hl;refine⟨u',cw,h7.trans q1,q2,q3,by rw[h8];omega,?_⟩;rw[h8,<-q5,<-h3,<-dz];rw[List.drop_take,List.take_take];congr 1;omega
  cases q with
  |fd i=>
   cases t with
   |st t=>
    obtain⟨u,hu,hp⟩:=hp;have e7:rh (.st t) (.fd i::p)=rh u p:=by simp only[rh,hu]
    have e8:mX (.st t) (.fd i::p)=o8 t i+mX u p:=by simp only[mX,hu]
    cases c with
    |x t' v=>
     simp only[eL,decide_eq_true_eq]at hf;subst hf;obtain⟨hd,rfl⟩:=hv;simp only[pK]at hw;split at hw
     .rename_i y hy;obtain⟨u',y',rfl,h1,h2,h3⟩:=qV _ _ _ _ hy;obtain rfl:u=u':=by rw[hu]at h1;exact aa h1
      refine sub (o8 t i) 0 (.x u y') u ((aS u y').map .d) (by simp[eL]) ⟨zC t _ _ hd hu,rfl⟩ ?_ ?_ hp hw e7 e8
      .rw [<-h3,h_,gz];rfl
      .simp [bJ,bA];exact h2
     .simp at hw
    |rc l=>
     simp only[pK]at hw;split at hw
     .rename_i y hy;obtain⟨u',cw,q1,q2,q3,q4,q5⟩:=A0 l t i y cs hf hv hy;obtain rfl:u=u':=by rw[hu]at q1;exact aa q1
      exact sub (o8 t i) 0 y u cw q2 q3 q5 q4 hp hw e7 e8
     .simp at hw
    |_=>simp[pK]at hw
   |_=>exact hp.elim
  |ix k=>
   cases t with
   |ar n t=>
    obtain⟨hk,hp⟩:=hp;cases c with
    |x t' v=>
     simp only[eL,decide_eq_true_eq]at hf;subst hf;obtain⟨hd,rfl⟩:=hv;simp only[pK]at hw;have hk':k<v.1.length:=by rw[v.2];exact hk
     have hg:=zp (bJ t) v.1 k hk';refine sub (k*bA t) 0 (.x t (gt v.1 k)) t ((aS t (gt v.1 k)).map .d) (by simp[eL]) ⟨hd,rfl⟩ ?_ ?_ hp hw rfl rfl
     .rw [<-hg,h_,gz];rfl
     .simp only[aO,bJ,bA];have:(k+1)*bA t<=n*bA t:=aI _ hk;rw[bP]at this;omega
    |_=>simp[pK]at hw
   |_=>exact hp.elim
theorem Iv:∀(t:Ty)(v:El t)(i:Nat)(w:V)(v':El t),Iw t v i w=some v'->∃u z,CO t i=some u/\ik u w=some z/\aS t v'=aV (aS t v) (o8 t i) (aS u z):=by
 intro t;induction t with
 |pr a c iha ihc=>
  intro v i w v' hs;cases i with
  |zero=>
   simp only[Iw]at hs;split at hs
   .rename_i y hy;obtain rfl:=aa hs;refine⟨a,y,rfl,hy,?_⟩;simp only[aS,o8];rw[tG (by simp[bJ]),mL (by simp[bJ])]
   .simp at hs
  |succ i=>
   simp only[Iw]at hs;split at hs
   .rename_i y hy;obtain rfl:=aa hs;obtain⟨u,z,h1,h2,h3⟩:=ihc _ _ _ _ hy;refine⟨u,z,h1,h2,?_⟩;simp only[aS,o8,h3];have:=tH (a:=aS a v.1) (b:=aS c v.2) (off:=o8 c i) (p:=aS u z);rw[bJ]at this;rw[this]
   .simp at hs
 |_=>intro v i w v' hs;cases i with|zero=>have hs':ik _ w=some v':=hs;exact⟨_,v',rfl,hs',by simp only[o8];rw[mL (by simp[bJ])]⟩|succ i=>simp[Iw]at hs
theorem wd:∀(p:p8)(c:V)(t:Ty)(w c':V)(cs cw:List C)(u:Ty),eL c false t=true->fm h c cs->IZ t p->oK c p w=some c'->rh t p=some u->fm h w cw->cw.length=bA u->
  fm h c' (aV cs (mX t p) cw):=by
 intro p;induction p with
 |nil=>
  intro c t w c' cs cw u hf hv _ hs hu hw hlen;obtain rfl:w=c':=by simpa[oK]using hs
  have e:mX t []=0:=by cases t<;>rfl
  have e2:rh t []=some t:=by cases t<;>rfl
  obtain rfl:t=u:=by rw[e2]at hu;exact aa hu
  have:=iD hv;rw[gW _ _ _ hf]at this;rw[e,mL (by omega)];exact hw
 |cons q p ih=>
  intro c t w c' cs cw u hf hv hp hs hu hw hlen;cases q with
  |fd i=>
   cases t with
   |st t=>
    obtain⟨a,ha,hp⟩:=hp;have hu':rh a p=some u:=by simpa only[rh,ha]using hu
    have e8:mX (.st t) (.fd i::p)=o8 t i+mX a p:=by simp only[mX,ha]
    cases c with
    |x t' v=>
     simp only[eL,decide_eq_true_eq]at hf;subst hf;obtain⟨hd,rfl⟩:=hv;simp only[oK]at hs;split at hs
     .rename_i y hy;split at hs
      .rename_i y1 hy1;obtain⟨a',z,rfl,h1,h2,h3⟩:=qV _ _ _ _ hy;obtain rfl:a=a':=by rw[ha]at h1;exact aa h1
       have hz:fm h (.x a z) ((aS a z).map .d):=⟨zC t _ _ hd ha,rfl⟩
       have h4:=ih (.x a z) a w y1 ((aS a z).map .d) cw u (by simp[eL]) hz hp hy1 hu' hw hlen;have hle:mX a p+cw.length<=bA a:=by have:=wq p a u hu' hp;omega
       have h5:((aS (.st t) v).map C.d|>.drop (o8 t i)).take (bA a)=(aS a z).map .d:=by rw[<-h3,h_,gz];rfl
       have h6:aV ((aS (.st t) v).map C.d) (o8 t i+mX a p) cw=aV ((aS (.st t) v).map C.d) (o8 t i) (aV ((aS a z).map .d) (mX a p) cw):=(qq h5 (by simp[bJ,bA];exact h2) hle).symm;rw[e8,h6];split at hs
       .rename_i v' hv';obtain rfl:=aa hs;obtain⟨a2,z2,k1,k2,k3⟩:=Iv _ _ _ _ _ hv';obtain rfl:a=a2:=by rw[ha]at k1;exact aa k1
        refine⟨hd,?_⟩;have:=pP k2 h4;rw[this];show _=(aS t v').map C.d;rw[k3,uD];rfl
       .obtain rfl:=aa hs;refine AU (Ig t v) t i y1 _ _ a (NI t v) (BM t v hd) ha h4 ?_ ⟨_,NH t v i _ hy⟩;rw[uE (by simp[bJ];exact hle)];simp[bJ]
      .simp at hs
     .simp at hs
    |rc l=>
     simp only[oK]at hs;split at hs
     .rename_i y hy;split at hs
      .rename_i y1 hy1;obtain rfl:=aa hs;obtain⟨a',cw2,q1,q2,q3,q4,q5⟩:=A0 l t i y cs hf hv hy;obtain rfl:a=a':=by rw[ha]at q1;exact aa q1
       have h4:=ih y a w y1 cw2 cw u q2 q3 hp hy1 hu' hw hlen;have hl:=iD q3;rw[gW _ _ _ q2]at hl;have hle:mX a p+cw.length<=bA a:=by have:=wq p a u hu' hp;omega
       rw[e8,<-qq q5 q4 hle];exact AU l t i y1 cs _ a hf hv ha h4 (by rw[uE (by omega),hl]) ⟨_,hy⟩
      .simp at hs
     .simp at hs
    |_=>simp[oK]at hs
   |_=>exact hp.elim
  |ix k=>
   cases t with
   |ar n t=>
    obtain⟨hk,hp⟩:=hp;have hu':rh t p=some u:=hu;cases c with
    |x t' v=>
     simp only[eL,decide_eq_true_eq]at hf;subst hf;obtain⟨hd,rfl⟩:=hv;simp only[oK]at hs;split at hs
     .rename_i y1 hy1;split at hs
      .rename_i z hz;obtain rfl:=aa hs;have hk':k<v.1.length:=by rw[v.2];exact hk
       have hg:=zp (bJ t) v.1 k hk';have h4:=ih (.x t (gt v.1 k)) t w y1 ((aS t (gt v.1 k)).map .d) cw u (by simp[eL]) ⟨hd,rfl⟩ hp hy1 hu' hw hlen;have h7:=pP hz h4;have hle:mX t p+cw.length<=bA t:=by have:=wq p t u hu' hp;omega
       have h5:((aS (.ar n t) v).map C.d|>.drop (k*bA t)).take (bA t)=(aS t (gt v.1 k)).map .d:=by rw[<-hg,h_,gz];rfl
       have h8:k*bA t+bA t<=((aS (.ar n t) v).map C.d).length:=by simp only[aO,bJ,bA];have:(k+1)*bA t<=n*bA t:=aI _ hk;rw[bP]at this;omega
       refine⟨hd,?_⟩;show aV _ (k*bA t+mX t p) cw=_;rw[<-qq h5 h8 hle,h7,<-uD];show _=((v.1.set k z).flatMap (aS t)).map C.d;rw[Mj (bJ t) v.1 k z hk'];rfl
      .simp at hs
     .simp at hs
    |_=>simp[oK]at hs
   |_=>exact hp.elim
theorem xP{n:Nat}:∀(l:V)(i:Nat)(w:V),fg n h l->sq l i=some w->fg n h w:=by
 intro l;induction l with
 |co a r iha ihr=>intro i w hk hw;cases i with|zero=>obtain rfl:=aa hw;exact hk.1|succ i=>exact ihr i w hk.2 hw
 |_=>intro i w hk hw;simp[sq]at hw
theorem Hg{n:Nat}:∀(l:V)(i:Nat)(w:V),fg n h l->fg n h w->fg n h (KN l i w):=by
 intro l;induction l with
 |co a r iha ihr=>intro i w hk hw;cases i with|zero=>exact⟨hw,hk.2⟩|succ i=>exact⟨hk.1,ihr i w hk.2 hw⟩
 |_=>intro i w hk hw;exact hk
theorem HI{n:Nat}{t:Ty}{v:El t}{i:Nat}{w:V}(hw:Ar t v i=some w):fg n h w:=by obtain⟨u,y,rfl,_⟩:=qV _ _ _ _ hw;trivial
theorem Fb{n:Nat}:∀(t:Ty)(v:El t),fg n h (Ig t v):=by intro t;induction t with|pr a c iha ihc=>intro v;exact⟨trivial,ihc v.2⟩|_=>intro v;exact⟨trivial,trivial⟩
theorem Cf{n:Nat}:∀(p:p8)(c w:V),fg n h c->pK c p=some w->fg n h w:=by
 intro p;induction p with
 |nil=>intro c w hk hw;obtain rfl:c=w:=by simpa[pK]using hw
       exact hk
 |cons q p ih=>
  intro c w hk hw;cases q with
  |fd i=>
   cases c with
   |x t v=>
    cases t with
    |st t=>
     simp only[pK]at hw;split at hw
     .rename_i y hy;exact ih y w (HI hy) hw
     .simp at hw
    |_=>simp[pK]at hw
   |rc l=>
    simp only[pK]at hw;split at hw
    .rename_i y hy;exact ih y w (xP l _ _ hk hy) hw
    .simp at hw
   |_=>simp[pK]at hw
  |ix k=>
   cases c with
   |x t v=>cases t with|ar m t=>exact ih (.x t (gt v.1 k)) w trivial hw|_=>simp[pK]at hw
   |_=>simp[pK]at hw
theorem Hb{n:Nat}:∀(p:p8)(c w c':V),fg n h c->fg n h w->oK c p w=some c'->fg n h c':=by
 intro p;induction p with
 |nil=>intro c w c' _ hw hs;obtain rfl:w=c':=by simpa[oK]using hs
       exact hw
 |cons q p ih=>
  intro c w c' hk hw hs;cases q with
  |fd i=>
   cases c with
   |x t v=>
    cases t with
    |st t=>
     simp only[oK]at hs;split at hs
     .rename_i y hy;split at hs
      .rename_i y1 hy1;split at hs
       .obtain rfl:=aa hs;trivial
       .obtain rfl:=aa hs;exact Hg _ _ _ (Fb t v) (ih y w y1 (HI hy) hw hy1)
      .simp at hs
     .simp at hs
    |_=>simp[oK]at hs
   |rc l=>
    simp only[oK]at hs;split at hs
    .rename_i y hy;split at hs
     .rename_i y1 hy1;obtain rfl:=aa hs;exact Hg l _ _ hk (ih y w y1 (xP l _ _ hk hy) hw hy1)
     .simp at hs
    .simp at hs
   |_=>simp[oK]at hs
  |ix k=>
   cases c with
   |x t v=>
    cases t with
    |ar m t=>
     simp only[oK]at hs;split at hs
     .split at hs
      .obtain rfl:=aa hs;trivial
      .simp at hs
     .simp at hs
    |_=>simp[oK]at hs
   |_=>simp[oK]at hs
end
section
variable{h:H2}{n:Nat}{h1:bF}
theorem dY{v:V}{c:C}(ha:tC v=false)(hc:fm h v [c]):sI h v (.c c):=⟨[c],hc,fun e=>(by rw[ha]at e;cases e),fun _=>⟨c,rfl,rfl⟩⟩
theorem yd{v:V}{cs:List C}(ha:tC v=true)(hc:fm h v cs):sI h v (.agg cs):=⟨cs,hc,fun _=>rfl,fun e=>(by rw[ha]at e;cases e)⟩
theorem js{v:V}{x:TV}(hx:sI h v x)(ha:tC v=false):∃c,x=.c c/\fm h v [c]:=by obtain⟨cs,h1,_,h2⟩:=hx;obtain⟨c,rfl,rfl⟩:=h2 ha;exact⟨c,rfl,h1⟩
theorem qK{v:V}{x:TV}(hx:sI h v x):∃cs,fm h v cs/\cellsOf x=some cs:=by obtain⟨cs,h1,h2,h3⟩:=hx;refine⟨cs,h1,?_⟩;cases ha:tC v with|true=>rw[h2 ha];rfl|false=>obtain⟨c,rfl,rfl⟩:=h3 ha;rfl
theorem kA{k:IntKind}{a:Int}{x:TV}(hx:ge h (.x (.i k) a) x):x=tI k a:=by obtain⟨c,rfl,_,hc⟩:=js (v:=.x (.i k) a) hx rfl;obtain rfl:=(cz hc).1;rfl
theorem G9{a:Bool}{x:TV}(hx:ge h (.x .b a) x):x=tB a:=by obtain⟨c,rfl,_,hc⟩:=js (v:=.x .b a) hx rfl;obtain rfl:=(cz hc).1;rfl
theorem w7{a:ByteArray}{x:TV}(hx:ge h (.x .s a) x):x=.c (.d (dS a)):=by obtain⟨c,rfl,_,hc⟩:=js (v:=.x .s a) hx rfl;obtain rfl:=(cz hc).1;rfl
theorem x_{t:Ty}{s:Sl (El t)}{x:TV}(hx:ge h (.x (.sl t) s) x):x=.c (.d (wa (bA t) (aS t) s)):=by obtain⟨c,rfl,_,hc⟩:=js (v:=.x (.sl t) s) hx rfl;obtain rfl:=(cz hc).1;rfl
theorem v7{a:Bool}{x:TV}(hx:ge h (.kb a) x):x=tB a:=by obtain⟨c,rfl,hc⟩:=js (v:=.kb a) hx rfl;obtain rfl:=(cz hc).1;rfl
theorem vZ{k:Nat}{x:TV}(hx:ge h (.nl k) x):x=.c (DN k):=by obtain⟨c,rfl,hc⟩:=js (v:=.nl k) hx rfl;obtain rfl:=(cz hc).1;rfl
theorem yb{t:Ty}{a:El t}{x:TV}(hx:ge h (.pt t a) x):kL t=true/\x=.c (.d (.pt (aS t a))):=by obtain⟨c,rfl,hd,hc⟩:=js (v:=.pt t a) hx rfl;obtain rfl:=(cz hc).1;exact⟨hd,rfl⟩
theorem vY{id:Nat}{t:Ty}{p:p8}{x:TV}(hx:ge h (.op id t p) x):x=.c (.op id (mX t p)):=by obtain⟨c,rfl,hc⟩:=js (v:=.op id t p) hx rfl;obtain rfl:=(cz hc).1;rfl
theorem sH{id m:Nat}{t:Ty}{p:p8}{x:TV}(hx:ge h (.ep id m t p) x):x=.c (.ep id m (mX t p)):=by obtain⟨c,rfl,hc⟩:=js (v:=.ep id m t p) hx rfl;obtain rfl:=(cz hc).1;rfl
theorem E8{id:Nat}{x:TV}(hx:ge h (.om id) x):x=.c (.om id):=by obtain⟨c,rfl,hc⟩:=js (v:=.om id) hx rfl;obtain rfl:=(cz hc).1;rfl
theorem sG{id:Nat}{c:C}{x:TV}(hx:ge h (.so id) x)(hc:AL id (fO h id)=some c):x=.c c:=by obtain⟨c',rfl,c2,h2,h3⟩:=js (v:=.so id) hx rfl;obtain rfl:=(cz h2).1;rw[h3.1 c hc]
theorem Km{id:Nat}{c:C}{x:TV}(hx:ge h (.sr id) x)(hc:EZ id (fO h id)=some c):x=.c c:=by obtain⟨c',rfl,c2,h2,h3⟩:=js (v:=.sr id) hx rfl;obtain rfl:=(cz h2).1;rw[h3.1 c hc]
theorem sL{id:Nat}{t:Ty}{s:Sl (Sl (El t))}{ln:Option (Nat×Nat)}(ho:fO h id=some (.rw t s ln)):EZ id (fO h id)=some (mB 1 (aS (.sl t)) id s):=by rw[ho];rfl
theorem qo{id ver lo:Nat}{t:Ty}{r:Sl (El t)}{x:TV}(hx:ge h (.sb id ver lo t r) x)(ha:iz h (.sb id ver lo t r)=true):x=.c (yr id lo t r):=by obtain⟨c',rfl,c2,h2,h3⟩:=js (v:=.sb id ver lo t r) hx rfl;obtain rfl:=(cz h2).1;rw[h3.1 (Bool.and_eq_true_iff.1 ha).2]
theorem E9{z:Bool}{f:Nat}{l:V}{x:TV}(hx:ge h (.fn z f l) x):(z=true/\∃ds,qG l=some ds/\x=.c (.d (.fn f ds)))\/(z=false/\∃cs,fm h l cs/\x=.c (.o5 f cs)):=by obtain⟨c',rfl,hc⟩:=js (v:=.fn z f l) hx rfl;cases z with|true=>obtain⟨ds,h2,h3⟩:=hc;exact .inl ⟨rfl,ds,h2,by rw[(cz h3).1]⟩|false=>obtain⟨ds,h2,h3⟩:=hc;exact .inr ⟨rfl,ds,h2,by rw[(cz h3).1]⟩
theorem P5{l:V}{x:TV}(hx:ge h (.tp l) x):∃xs,x=.iT xs/\BJ h l xs:=hx
def N8:V->Prop
 |.tp _|.no|.gn=>False
 |_=>True
theorem oX{v:V}{x:TV}(hv:N8 v)(hx:ge h v x):sI h v x:=by cases v<;>first|exact hx|exact hv.elim
theorem ct{v:V}{x:TV}(hx:sI h v x):ge h v x:=by cases v<;>first|exact hx|(obtain⟨cs,hc,_⟩:=hx;exact hc.elim)
theorem PG{v:V}{u:Ty}{y:El u}(hc:t7 u v=some y):N8 v:=by cases v<;>first|trivial|(simp[t7,kV,ik]at hc)
theorem vI{v:V}{u:Ty}{y:El u}{x:TV}(hx:ge h v x)(hc:t7 u v=some y):(nA u=true->x=.agg ((aS u y).map .d))/\(nA u=false->∃d,aS u y=[d]/\x=.c (.d d)):=by
 obtain⟨cs,h2,h3,h4⟩:=oX (PG hc) hx;have h5:=iZ v false u y cs hc h2;have ha:=wN hc;constructor
 .intro hu;rw[h3 (ha.trans hu),h5]
 .intro hu;obtain⟨c,rfl,rfl⟩:=h4 (ha.trans hu);cases he:aS u y with
  |nil=>rw[he]at h5;simp at h5
  |cons d ds=>
   rw[he]at h5;simp only[List.map_cons,List.cons.injEq]at h5;obtain⟨rfl,h6⟩:=h5;have:ds=[]:=by simpa using h6.symm
   subst this;exact⟨d,rfl,rfl⟩
theorem PF{v:V}{x:TV}{a:Bool}(hx:ge h v x)(hc:t7 .b v=some a):x=tB a:=by obtain⟨d,h1,rfl⟩:=(vI hx hc).2 rfl;obtain rfl:=(cz h1).1;rfl
def mT(h:H2):List V->List TV->Prop
 |[],[]=>True
 |v::vs,x::xs=>ge h v x/\mT h vs xs
 |_,_=>False
theorem lX{xs:List TV}(hx:mT h [] xs):xs=[]:=by cases xs<;>first|rfl|exact hx.elim
theorem gU{v:V}{vs:List V}{xs:List TV}(hx:mT h (v::vs) xs):∃x ys,xs=x::ys/\ge h v x/\mT h vs ys:=by cases xs with|nil=>exact hx.elim|cons x ys=>exact⟨x,ys,rfl,hx.1,hx.2⟩
theorem iS{v:V}{xs:List TV}(hx:mT h [v] xs):∃x,xs=[x]/\ge h v x:=by obtain⟨x,ys,rfl,h1,h2⟩:=gU hx;obtain rfl:=lX h2;exact⟨x,rfl,h1⟩
theorem jj{v w:V}{xs:List TV}(hx:mT h [v,w] xs):∃x y,xs=[x,y]/\ge h v x/\ge h w y:=by obtain⟨x,ys,rfl,h1,h2⟩:=gU hx;obtain⟨y,rfl,h3⟩:=iS h2;exact⟨x,y,rfl,h1,h3⟩
theorem P4{v w z:V}{xs:List TV}(hx:mT h [v,w,z] xs):∃x y u,xs=[x,y,u]/\ge h v x/\ge h w y/\ge h z u:=by obtain⟨x,ys,rfl,h1,h2⟩:=gU hx;obtain⟨y,u,rfl,h3⟩:=jj h2;exact⟨x,y,u,rfl,h1,h3⟩
theorem Kl:∀{vs:List V}{xs:List TV},mT h vs xs->(∀v∈vs,N8 v/\tC v=false)->∃cs,fm h (dl vs) cs/\xs=cs.map TV.c:=by intro vs;induction vs with|nil=>intro xs hx _;obtain rfl:=lX hx;exact⟨[],rfl,rfl⟩|cons v vs ih=>intro xs hx hv;obtain⟨x,ys,rfl,h1,h2⟩:=gU hx;obtain⟨hp,ha⟩:=hv v (by simp);obtain⟨c,rfl,h3⟩:=js (oX hp h1) ha;obtain⟨cs,h4,rfl⟩:=ih h2 fun w hw=>hv w (by simp[hw]);exact⟨c::cs,⟨[c],cs,rfl,h3,h4⟩,rfl⟩
theorem uG{id:Nat}{q:(t:Ty)×Sl (El t)×List Nat}(hs:uc h (.so id)=some q):∃ver,(fO h id=some (.ar q.1 q.2.1 ver)\/fO h id=some (.im q.1 q.2.1 ver))/\q.2.2=[id]:=by
 simp only[uc]at hs;split at hs
 .rename_i t s v ho;obtain rfl:=aa hs;exact⟨v,.inl ho,rfl⟩
 .rename_i t s v ho;obtain rfl:=aa hs;exact⟨v,.inr ho,rfl⟩
 .simp at hs
theorem mA{id ver:Nat}{t:Ty}{s:Sl (El t)}(ho:fO h id=some (.ar t s ver)\/fO h id=some (.im t s ver)):AL id (fO h id)=some (mB (bA t) (aS t) id s):=by rcases ho with ho|ho<;>rw[ho]<;>rfl
theorem QJ{id lo nx:Nat}{t:Ty}{r:Sl (El t)}{c:Call}{H:bF}:cQ c (.len false) [some (.c (yr id lo t r))] H nx=some (tI .i64 r.l.length,[],[],nx):=by cases r with|nil=>rfl|mk l=>simp[cQ,uq,yr,Sl.l,lv]
theorem QH{v:V}{x:TV}{q:(t:Ty)×Sl (El t)×List Nat}{c:Call}{H:bF}{nx:Nat}(hx:ge h v x)(ha:iz h v=true)(hs:uc h v=some q):
  cQ c (.len false) [some x] H nx=some (tI .i64 q.2.1.l.length,[],[],nx):=by
 cases v with
 |x t s=>cases t with|sl t=>obtain rfl:=aa hs;rw[x_ hx];exact QI|_=>simp[uc]at hs
 |so id=>obtain⟨ver,ho,_⟩:=uG hs;rw[sG hx (mA ho)];exact Pw
 |sb id ver lo t r=>obtain rfl:=aa hs;rw[qo hx ha];exact QJ
 |_=>simp[uc]at hs
theorem LQ{id lo nx:Nat}{t:Ty}{r:Sl (El t)}{c:Call}{H:bF}{neg:Bool}:cQ c (.qY 0 neg) [some (.c (yr id lo t r))] H nx=some (tB (if neg then !r.fS else r.fS),[],[],nx):=by cases r<;>rfl
theorem Qy{v:V}{x:TV}{q:(t:Ty)×Sl (El t)×List Nat}{c:Call}{H:bF}{nx:Nat}{neg:Bool}(hx:ge h v x)(ha:iz h v=true)(hs:uc h v=some q):
  cQ c (.qY 0 neg) [some x] H nx=some (tB (if neg then !q.2.1.fS else q.2.1.fS),[],[],nx):=by
 cases v with
 |x t s=>cases t with|sl t=>obtain rfl:=aa hs;rw[x_ hx];exact Qz|_=>simp[uc]at hs
 |so id=>obtain⟨ver,ho,_⟩:=uG hs;rw[sG hx (mA ho)];exact Su
 |sb id ver lo t r=>obtain rfl:=aa hs;rw[qo hx ha];exact LQ
 |_=>simp[uc]at hs
theorem oI{g:Bool}{m:Nat}{w:V}(hc:GN h g m w=true):tC w=g/\yh w=m/\(g=false->m=1)/\iz h w=true:=by
 simp only[GN,ai,beq_iff_eq,Bool.or_eq_true]at hc;obtain⟨⟨⟨h1,h2⟩,h3⟩,h4⟩:=hc;refine⟨h1,h2,fun e=>?_,h4⟩;rcases h3 with h3|h3
 .rw [e]at h3;cases h3
 .exact h3
theorem pG{g:Bool}{m off:Nat}{cs cw:List C}{w:V}(hc:GN h g m w=true)(hw:fm h w cw)(hle:off+m<=cs.length)(he:(cs.drop off).take m=cw):∃x,D5 g m (cs.drop off)=some x/\ge h w x:=by
 obtain⟨ha,hs,hm,_⟩:=oI hc;cases g with
 |true=>refine⟨.agg cw,?_,ct (yd ha hw)⟩;simp only[D5,if_true];rw[if_pos (by simp;omega),he]
 |false=>obtain rfl:=hm rfl;cases hd:cs.drop off with|nil=>have:=congrArg List.length hd;simp at this;omega|cons c r=>rw[hd]at he;subst he;exact⟨.c c,rfl,ct (dY ha hw)⟩
theorem B9{g:Bool}{m:Nat}{ds:List D}:Py g m ds=D5 g m (ds.map .d):=by
 unfold Py D5;cases g
 .cases ds<;>simp
 .simp
theorem ww{p w:V}{l:List Nat}{g:Bool}{m nx:Nat}{c:Call}{x:TV}(hr:HR n h1 h)(hl:yX h p=some (w,l))(hc:GN h g m w=true)(hx:ge h p x)(hok:fg n h p):
  ∃y,cQ c (.load g m) [some x] h1 nx=some (y,[],l,nx)/\ge h w y/\fg n h w:=by
 cases p with
 |pt t v=>obtain⟨rfl,rfl⟩:=ad (aa hl);obtain⟨hd,rfl⟩:=yb hx;obtain⟨_,hs,_,_⟩:=oI hc;have hs':bA t=m:=hs;obtain⟨y,h2,h3⟩:=pG (cs:=(aS t v).map .d) (off:=0) hc (show fm h (.x t v) ((aS t v).map .d)from⟨hd,rfl⟩) (by simp[bJ];omega) (by rw[cT,dn (by simp[bJ];omega)]);refine⟨y,?_,h3,trivial⟩;rw[cT,<-B9]at h2;simp only[cQ,ig,h2]
 |op id t p=>
  obtain rfl:=vY hx;simp only[yX]at hl;split at hl
  .rename_i u cc ho;obtain⟨_,hb,hko⟩:=hr.ob id _ ho;obtain⟨cs,h2,h3,h4⟩:=hb;by_cases hu:u=t
   .subst hu;simp only[decide_true,cond_true]at hl;split at hl
    .rename_i w' hw;obtain⟨rfl,rfl⟩:=ad (aa hl);obtain⟨a,cw,q1,q2,q3,q4,q5⟩:=wE p cc u w' cs h4 h3 hok.2 hw;obtain⟨_,hs,_,_⟩:=oI hc;rw[gW _ _ _ q2]at hs;subst hs;obtain⟨y,h5,h6⟩:=pG hc q3 q4 q5;refine⟨y,?_,h6,Cf p cc w' hko hw⟩;simp only[cQ,ig,h2,h5]
    .simp at hl
   .simp [hu]at hl
  .rename_i u v ho;obtain⟨_,hb,hko⟩:=hr.ob id _ ho;obtain⟨hd,h2⟩:=hb;by_cases hu:u=t
   .subst hu;simp only[decide_true,cond_true]at hl;split at hl
    .rename_i w' hw;obtain⟨rfl,rfl⟩:=ad (aa hl);obtain⟨a,cw,q1,q2,q3,q4,q5⟩:=wE (h:=h) p (.x u v) u w' ((aS u v).map .d) (by simp[eL]) ⟨hd,rfl⟩ hok.2 hw;obtain⟨_,hs,_,_⟩:=oI hc;rw[gW _ _ _ q2]at hs;subst hs;obtain⟨y,h5,h6⟩:=pG hc q3 q4 q5;refine⟨y,?_,h6,Cf p (.x u v) w' trivial hw⟩;rw[<-gz,<-B9]at h5;simp only[cQ,ig,h2,h5]
    .simp at hl
   .simp [hu]at hl
  .simp at hl
 |ep id k t p=>
  obtain rfl:=sH hx;obtain⟨_,hp,hk,_⟩:=hok
  have main:∀(u:Ty)(s:Sl (El u))(ver:Nat),(fO h id=some (.ar u s ver)\/fO h id=some (.im u s ver))->(bif decide (u=t)then(match pK (.x u (gt s.l k)) p with|some w=>some (w,[id])|none=>none)else none)=some (w,l)->
    ∃y,cQ c (.load g m) [some (.c (.ep id k (mX t p)))] h1 nx=some (y,[],l,nx)/\ge h w y/\fg n h w:=by
   intro u s ver ho hl;have hlt:=hk u s ver ho;by_cases hu:u=t
   .subst hu;simp only[decide_true,cond_true]at hl;split at hl
    .rename_i w' hw;obtain⟨rfl,rfl⟩:=ad (aa hl);cases s with
     |nil=>simp[Sl.l]at hlt
     |mk ls=>
     have hrow:(ls.map (aS u))[k]?=some (aS u (gt ls k)):=rI hlt;have hd:kL u=true:=by rcases ho with ho|ho<;>exact(hr.ob id _ ho).2.1.1
     obtain⟨a,cw,q1,q2,q3,q4,q5⟩:=wE (h:=h) p (.x u (gt ls k)) u w' ((aS u (gt ls k)).map .d) (by simp[eL]) ⟨hd,rfl⟩ hp hw;obtain⟨_,hs,_,_⟩:=oI hc;rw[gW _ _ _ q2]at hs;subst hs;obtain⟨y,h5,h6⟩:=pG hc q3 q4 q5;refine⟨y,?_,h6,Cf p (.x u (gt ls k)) w' trivial hw⟩;rw[<-gz,<-B9]at h5;rcases ho with ho|ho
     .have h2:=(hr.ob id _ ho).2.1.2.2 ls rfl;simp only[cQ,ig,h2,hrow,h5]
     .have h2:=(hr.ob id _ ho).2.1.2.2 ls rfl;simp only[cQ,ig,h2,hrow,h5]
    .simp at hl
   .simp [hu]at hl
  simp only[yX]at hl;split at hl
  .rename_i u s ver ho;exact main u s ver (.inl ho) hl
  .rename_i u s ver ho;exact main u s ver (.inr ho) hl
  .simp at hl
 |_=>simp[yX]at hl
end
end Go.Ev
