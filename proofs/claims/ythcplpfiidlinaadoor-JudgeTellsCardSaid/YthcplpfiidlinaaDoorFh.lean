/- Typed data by codes: the types, the values that a frame holds, its objects, and how they are laid into the abstract machine's. Conditions: none, these are definitions. -/
import Derived.Test.YthcplpfiidlinaaDoorEvY
noncomputable section
open Bool renaming and_eq_true->ai
open List renaming append_assoc->aH,append_nil->bR,drop_append_of_le_length->eA,drop_drop->dO,drop_length->dp,drop_zero->ck,flatMap_cons->bf,length_append->ap,length_map->aV,length_replicate->dD,map_drop->gm,map_take->gX,nil_append->bw,replicate->aA,take_of_length_le->eI
open List.cons renaming inj->cq
open Nat renaming add_assoc->db,add_mul->b_,beq->kV,ble->i_,le_refl->aw,mul_le_mul_right->aO
open Option.some renaming inj->aa
open Prod.mk renaming inj->ad
open Sigma.mk renaming inj->jq
namespace Go.Ev
inductive Ty where
 |i (k:IntKind)
 |b
 |s
 |f (k:FloatKind)
 |sl (t:Ty)
 |mp (k v:Ty)
 |un
 |pr (a c:Ty)
 |st (t:Ty)
 |ar (n:Nat) (t:Ty)
 |o (k:Nat)
 deriving Inhabited,DecidableEq
def Arr(n:Nat)(α:Type):Type:={l:List α//l.length=n}
def Arr.set{n:Nat}{α:Type}(v:Arr n α)(k:Nat)(x:α):Arr n α:=⟨v.1.set k x,by rw[List.length_set];exact v.2⟩
instance{n:Nat}{α:Type}[Inhabited α]:Inhabited (Arr n α):=⟨⟨aA n default,dD⟩⟩
instance{n:Nat}{α:Type}[DecidableEq α]:DecidableEq (Arr n α):=inferInstanceAs (DecidableEq {l:List α//l.length=n})
@[reducible] def El:Ty->Type
 |.i _=>Int
 |.b=>Bool
 |.s=>ByteArray
 |.f _=>Nat
 |.sl t=>Sl (El t)
 |.mp k v=>Mp (El k) (El v)
 |.un=>Unit
 |.pr a c=>El a×El c
 |.st t=>El t
 |.ar n t=>Arr n (El t)
 |.o _=>Unit
instance Hi:(t:Ty)->Inhabited (El t)
 |.i _=>⟨(0:Int)⟩
 |.b=>⟨false⟩
 |.s=>⟨(default:ByteArray)⟩
 |.f _=>⟨(0:Nat)⟩
 |.sl _=>⟨Sl.nil⟩
 |.mp _ _=>⟨Mp.none⟩
 |.un=>⟨()⟩
 |.pr a c=>⟨((Hi a).default,(Hi c).default)⟩
 |.st t=>Hi t
 |.ar n t=>⟨⟨aA n (Hi t).default,dD⟩⟩
 |.o _=>⟨()⟩
def sX:(t:Ty)->El t
 |.i _=>(0:Int)
 |.b=>false
 |.s=>(ByteArray.empty)
 |.f _=>(0:Nat)
 |.sl _=>Sl.nil
 |.mp _ _=>Mp.none
 |.un=>()
 |.pr a c=>(sX a,sX c)
 |.st t=>sX t
 |.ar n t=>⟨aA n (sX t),dD⟩
 |.o _=>()
def gH(t u:Ty)(v:El t):Option (El u):=if h:t=u then some (h▸v)else none
def ce:Ty->Nat
 |.un=>0
 |.pr a c=>ce a+ce c
 |.st t=>ce t
 |.ar n t=>n*ce t
 |_=>1
def kL:Ty->Bool
 |.o _|.mp _ _=>false
 |.pr a c=>kL a&&kL c
 |.st t|.ar _ t|.sl t=>kL t
 |_=>true
def nB:Ty->Bool
 |.st _|.ar _ _=>true
 |_=>false
def a_:(t:Ty)->El t->List D
 |.i k,x=>[.lit (.int k x)]
 |.b,x=>[.lit (.bool x)]
 |.s,x=>[.lit (.string x)]
 |.f k,x=>[.lit (.float k x)]
 |.sl t,x=>[wt (ce t) (a_ t) x]
 |.mp _ _,_=>[.lit .nilFunc]
 |.un,_=>[]
 |.pr a c,x=>a_ a x.1++a_ c x.2
 |.st t,x=>a_ t x
 |.ar _ t,x=>x.1.flatMap (a_ t)
 |.o _,_=>[.lit .nilFunc]
inductive Pe where
 |fd (i:Nat)
 |ix (n:Nat)
abbrev qw:=List Pe
inductive V where
 |x (t:Ty) (v:El t)
 |kb (c:Bool)
 |nl (k:Nat)
 |so (id:Nat)
 |sr (id:Nat)
 |sb (id ver lo:Nat) (t:Ty) (r:Sl (El t))
 |op (id:Nat) (t:Ty) (p:qw)
 |ep (id n:Nat) (t:Ty) (p:qw)
 |pt (t:Ty) (v:El t)
 |fn (z:Bool) (f:Nat) (caps:V)
 |om (id:Nat)
 |rc (l:V)
 |tp (l:V)
 |ni
 |co (a r:V)
 |fl (l:List Value)
 |no
 |gn
inductive O where
 |ar (t:Ty) (s:Sl (El t)) (ver:Nat)
 |im (t:Ty) (s:Sl (El t)) (ver:Nat)
 |bx (t:Ty) (c:V)
 |ib (t:Ty) (v:El t)
 |mp (k v:Ty) (m:Mp (El k) (El v))
 |rw(t:Ty) (s:Sl (Sl (El t))) (ln:Option (Nat×Nat))
abbrev H2:=List (Nat×Option O)
def fO(h:H2)(id:Nat):Option O:=(cz h id).join
def Ao:(t:Ty)->El t->Nat->Option V
 |.pr a _,v,0=>some (.x a v.1)
 |.pr _ c,v,n+1=>Ao c v.2 n
 |t,v,0=>some (.x t v)
 |_,_,_=>none
def CF:Ty->Nat->Option Ty
 |.pr a _,0=>some a
 |.pr _ c,n+1=>CF c n
 |t,0=>some t
 |_,_=>none
def pu:Ty->Nat->Nat
 |.pr _ _,0=>0
 |.pr a c,n+1=>ce a+pu c n
 |_,_=>0
def HF:(t:Ty)->El t->V
 |.pr a c,v=>.co (.x a v.1) (HF c v.2)
 |t,v=>.co (.x t v) .ni
def QR(k:IntKind):List Value->Option (Int×List Value)
 |.int k' n::r=>if k'=k then some (n,r)else none
 |_=>none
def QS:List Value->Option (Bool×List Value)
 |.bool c::r=>some (c,r)
 |_=>none
def QP:List Value->Option (ByteArray×List Value)
 |.string c::r=>some (c,r)
 |_=>none
def N5(k:FloatKind):List Value->Option (Nat×List Value)
 |.float k' n::r=>if k'=k then some (n,r)else none
 |_=>none
def QQ{α:Type}:List Value->Option (Sl α×List Value)
 |.slice none 0 0::r=>some (Sl.nil,r)
 |_=>none
def Nm{α:Type}(f:List Value->Option (α×List Value)):(m:Nat)->List Value->Option (Arr m α×List Value)
 |0,l=>some (⟨[],rfl⟩,l)
 |m+1,l=>match f l with|some (x,l)=>(match Nm f m l with|some (v,l)=>some (⟨x::v.1,by rw[List.length_cons,v.2]⟩,l)|none=>none)|none=>none
def vf:(t:Ty)->List Value->Option (El t×List Value)
 |.i k=>QR k
 |.b=>QS
 |.s=>QP
 |.f k=>N5 k
 |.sl _=>QQ
 |.pr a c=>fun l=>match vf a l with|some (x,l)=>(match vf c l with|some (y,l)=>some ((x,y),l)|none=>none)|none=>none
 |.st t=>vf t
 |.ar n t=>Nm (vf t) n
 |.mp _ _|.un|.o _=>fun _=>none
def ic(u:Ty):V->Option (El u)
 |.x t v=>gH t u v
 |.kb c=>gH .b u c
 |.nl 0=>(match u with|.sl _=>some Sl.nil|_=>none)
 |.fl l=>bif nB u then(match vf u l with|some (x,[])=>some x|_=>none)else none
 |_=>none
def HM:(t:Ty)->El t->Nat->V->Option (El t)
 |.pr a _,v,0,w=>match ic a w with|some y=>some (y,v.2)|none=>none
 |.pr _ c,v,n+1,w=>match HM c v.2 n w with|some y=>some (v.1,y)|none=>none
 |t,_,0,w=>ic t w
 |_,_,_,_=>none
def sS:V->Nat->Option V
 |.co a _,0=>some a
 |.co _ r,n+1=>sS r n
 |_,_=>none
def JU:V->Nat->V->V
 |.co _ r,0,w=>.co w r
 |.co a r,n+1,w=>.co a (JU r n w)
 |l,_,_=>l
def qf:V->qw->Option V
 |v,[]=>some v
 |.x (.st t) v,.fd i::p=>match Ao t v i with|some w=>qf w p|none=>none
 |.x (.ar _ t) v,.ix k::p=>qf (.x t (gt v.1 k)) p
 |.rc l,.fd i::p=>match sS l i with|some w=>qf w p|none=>none
 |_,_=>none
def o6:V->qw->V->Option V
 |_,[],w=>some w
 |.x (.st t) v,.fd i::p,w=>
  match Ao t v i with
  |some y=>match o6 y p w with|some y'=>(match HM t v i y' with|some v'=>some (.x (.st t) v')|none=>some (.rc (JU (HF t v) i y')))|none=>none
  |none=>none
 |.x (.ar n t) v,.ix k::p,w=>match o6 (.x t (gt v.1 k)) p w with|some y=>(match ic t y with|some y'=>some (.x (.ar n t) (v.set k y'))|none=>none)|none=>none
 |.rc l,.fd i::p,w=>match sS l i with|some y=>(match o6 y p w with|some y'=>some (.rc (JU l i y'))|none=>none)|none=>none
 |_,_,_=>none
def rM:Ty->qw->Option Ty
 |t,[]=>some t
 |.st t,.fd i::p=>match CF t i with|some u=>rM u p|none=>none
 |.ar _ t,.ix _::p=>rM t p
 |_,_=>none
def mW:Ty->qw->Nat
 |.st t,.fd i::p=>pu t i+(match CF t i with|some u=>mW u p|none=>0)
 |.ar _ t,.ix k::p=>k*ce t+mW t p
 |_,_=>0
def Im:Ty->qw->Prop
 |.st t,.fd i::p=>∃u,CF t i=some u/\Im u p
 |.ar n t,.ix k::p=>k<n/\Im t p
 |_,[]=>True
 |_,_=>False
def BB:Ty->V×V
 |.pr a c=>(.no,.co (BB a).1 (BB c).2)
 |.st t=>(bif kL t then .x (.st t) (sX t)else .rc (BB t).2,.co (bif kL t then .x (.st t) (sX t)else .rc (BB t).2) .ni)
 |.o k=>(.nl k,.co (.nl k) .ni)
 |.mp _ _=>(.nl 3,.co (.nl 3) .ni)
 |.sl t=>(bif kL t then .x (.sl t) Sl.nil else .nl 0,.co (bif kL t then .x (.sl t) Sl.nil else .nl 0) .ni)
 |.ar n t=>(bif kL t then .x (.ar n t) (sX (.ar n t))else .no,.co (bif kL t then .x (.ar n t) (sX (.ar n t))else .no) .ni)
 |.un=>(.x .un (),.co (.x .un ()) .ni)
 |.i k=>(.x (.i k) (0:Int),.co (.x (.i k) (0:Int)) .ni)
 |.b=>(.x .b false,.co (.x .b false) .ni)
 |.s=>(.x .s ByteArray.empty,.co (.x .s ByteArray.empty) .ni)
 |.f k=>(.x (.f k) (0:Nat),.co (.x (.f k) (0:Nat)) .ni)
abbrev NQ(t:Ty):V:=(BB t).1
def DJ(k:Nat):C:=.d (.lit (match k with|0=>.slice none 0 0|1=>.pointer none|2=>.nilFunc|3=>.map none|_=>.nilIface))
def AG(id:Nat):Option O->Option C
 |some (.ar t s _)=>some (mx (ce t) (a_ t) id s)
 |some (.im t s _)=>some (mx (ce t) (a_ t) id s)
 |_=>none
def pn(t:Ty):Sl (El t)->kX
 |.nil=>.nil
 |.mk l=>.bG (l.map (a_ t))
def Ib{α:Type}(id:Nat):Sl α->kX
 |.nil=>.nil
 |.mk l=>.cF id l.length
def eR(t:Ty)(l:List (Sl (El t))):Option (Nat×Nat)->List kX
 |none=>l.map (pn t)
 |some (m,id)=>(l.map (pn t)).set m (Ib id (gt l m))
def EM(id:Nat):Option O->Option C
 |some (.rw t s _)=>some (mx 1 (a_ (.sl t)) id (s:Sl (Sl (El t))))
 |_=>none
def yD(id lo:Nat)(t:Ty):Sl (El t)->C
 |.nil=>.d (.lit (.slice none 0 0))
 |.mk l=>.fh (ce t) id lo (l.map (a_ t)).length
def rf:V->Option (List D)
 |.pt t v=>if kL t then some [.pt (a_ t v)]else none
 |.ni=>some []
 |.co a r=>match rf a,rf r with|some x,some y=>some (x++y)|_,_=>none
 |_=>none
def tW:V->Bool
 |.x t _=>nB t
 |.rc _|.fl _=>true
 |_=>false
deriving instance DecidableEq for Mp
instance zF:(t:Ty)->DecidableEq (El t)
 |.i _=>inferInstanceAs (DecidableEq Int)
 |.b=>inferInstanceAs (DecidableEq Bool)
 |.s=>inferInstanceAs (DecidableEq ByteArray)
 |.f _=>inferInstanceAs (DecidableEq Nat)
 |.sl t=>@instDecidableEqSl (El t) (zF t)
 |.mp k v=>@instDecidableEqMp (El k) (El v) (zF k) (zF v)
 |.un=>inferInstanceAs (DecidableEq Unit)
 |.pr a c=>@instDecidableEqProd (El a) (El c) (zF a) (zF c)
 |.st t=>zF t
 |.ar n t=>@instDecidableEqArr n (El t) (zF t)
 |.o _=>inferInstanceAs (DecidableEq Unit)
structure S2 where
 dH:List (Nat×V)
 heap:H2
 next:Nat
 wo:List Nat
 gh:V
structure OP where
 o:oE
 t:Ty
 fi:List Nat
def Ct:V->Bool
 |.pt t _=>kL t
 |.ni=>true
 |.co a r=>Ct a&&Ct r
 |_=>false
def ir(h:H2):V->Bool
 |.x t _=>kL t
 |.pt t _=>kL t
 |.kb _|.nl _=>true
 |.op id _ _|.ep id _ _ _|.om id=>(match fO h id with|some _=>true|none=>false)
 |.so id=>(match fO h id with|some (.ar _ _ _)|some (.im _ _ _)=>true|_=>false)
 |.sr id=>(match fO h id with|some (.rw _ _ _)=>true|_=>false)
 |.sb id ver _ t _=>kL t&&(match fO h id with|some (.ar _ _ v)|some (.im _ _ v)=>v==ver|_=>false)
 |.fn true _ l=>Ct l
 |.fn false _ l=>ir h l
 |.rc l|.tp l=>ir h l
 |.fl l=>l.all fB
 |.ni=>true
 |.co a r=>ir h a&&ir h r
 |.no|.gn=>false
def Q8:Value->Option V
 |.bool c=>some (.kb c)
 |.int k n=>some (.x (.i k) n)
 |.float k n=>some (.x (.f k) n)
 |.string s=>some (.x .s s)
 |.pointer none=>some (.nl 1)
 |.slice none 0 0=>some (.nl 0)
 |.nilFunc=>some (.nl 2)
 |.map none=>some (.nl 3)
 |.nilIface=>some (.nl 4)
 |.agg cs=>if cs.toList.all fB then some (.fl cs.toList)else none
 |_=>none
def M8:Nat->Option V:=fun g => if g = 0 then some (.pt (.ar 32 (.i .u8)) (⟨[0, 1, 28, 2, 29, 14, 24, 3, 30, 22, 20, 15, 25, 17, 4, 8, 31, 27, 13, 23, 21, 19, 16, 7, 26, 12, 18, 6, 11, 5, 10, 9], rfl⟩ : Arr 32 Int)) else none
def Jl(e:List (Nat×V))(h:H2):Operand->Option V
 |.tmp t=>match cz e t with|some v=>bif ir h v then some v else none|none=>none
 |.const c=>Q8 c
 |.global g=>M8 g
 |.func f=>some (.fn true f .ni)
def yr:V->Nat
 |.x t _=>ce t
 |.rc l=>yr l
 |.co a r=>yr a+yr r
 |.ni=>0
 |.fl l=>l.length
 |_=>1
def Na:V->Nat->Nat
 |.co a r,n+1=>yr a+Na r n
 |_,_=>0
def cU:List V->V
 |[]=>.ni
 |v::r=>.co v (cU r)
def AD:V->List V
 |.co a r=>a::AD r
 |_=>[]
def kQ:V->Bool->(u:Ty)->Option (El u)
 |.rc l,false,.st u=>kQ l true u
 |.co a r,true,.pr t u=>match kQ a false t,kQ r true u with|some x,some y=>some (x,y)|_,_=>none
 |.co a .ni,true,u=>kQ a false u
 |.ni,_,_=>none
 |v,false,u=>ic u v
 |_,_,_=>none
abbrev ul(u:Ty)(v:V):Option (El u):=kQ v false u
def eG:V->Bool->Ty->Bool
 |.x u _,false,t=>decide (u=t)
 |.rc l,false,.st t=>eG l true t
 |.co a r,true,.pr t u=>eG a false t&&eG r true u
 |.co a .ni,true,t=>eG a false t
 |.kb _,false,.b=>true
 |.nl 0,false,.sl _|.so _,false,.sl _|.sr _,false,.sl _|.sb _ _ _ _ _,false,.sl _=>true
 |.nl 3,false,.mp _ _|.om _,false,.mp _ _=>true
 |.nl _,false,.o _|.op _ _ _,false,.o _|.ep _ _ _ _,false,.o _|.pt _ _,false,.o _|.fn _ _ _,false,.o _=>true
 |_,_,_=>false
def L3(t:Ty)(v:V):Option V:=match(bif kL t then ic t v else none)with|some y=>some (.x t y)|none=>bif eG v false t then some v else none
def ur(h:H2):V->Option ((t:Ty)×Sl (El t)×List Nat)
 |.x (.sl t) s=>some ⟨t,s,[]⟩
 |.so id=>(match fO h id with|some (.ar t s _)|some (.im t s _)=>some ⟨t,s,[id]⟩|_=>none)
 |.sb id _ _ t r=>some ⟨t,r,[id]⟩
 |_=>none
def JH(t:Ty)(h:H2):V->Option ((t:Ty)×Sl (El t)×List Nat)
 |.nl 0=>some ⟨t,Sl.nil,[]⟩
 |v=>ur h v
def jg(h:H2):V->Option (V×List Nat)
 |.so id=>match ur h (.so id)with|some ⟨t,s,l⟩=>some (.x (.sl t) s,l)|none=>none
 |.sr id=>match fO h id with|some (.rw t s none)=>some (.x (.sl (.sl t)) s,[id])|_=>none
 |.sb id ver lo t r=>match ur h (.sb id ver lo t r)with|some ⟨t,s,l⟩=>some (.x (.sl t) s,l)|none=>none
 |.rc l=>match jg h l with|some (w,l)=>some (.rc w,l)|none=>none
 |.co a r=>match jg h a,jg h r with|some (x,l),some (y,m)=>some (.co x y,l++m)|_,_=>none
 |.x t v=>some (.x t v,[])
 |.kb c=>some (.kb c,[])
 |.nl k=>some (.nl k,[])
 |.fl l=>some (.fl l,[])
 |.ni=>some (.ni,[])
 |.fn true f l=>some (.fn true f l,[])
 |.pt t v=>some (.pt t v,[])
 |_=>none
def Tv(c:Bool):V->V->Option V
 |.kb a,.kb b=>some (.x .b (bif c then a else b))
 |.x t a,w=>match ul t w with|some b=>some (.x t (bif c then a else b))|none=>none
 |w,.x t b=>match ul t w with|some a=>some (.x t (bif c then a else b))|none=>none
 |_,_=>none
def Q_:Value->Value->Bool
 |.bool a,.bool b=>a==b
 |.int k a,.int k' b=>decide (k=k')&&a==b
 |.float k a,.float k' b=>decide (k=k')&&a==b
 |.string a,.string b=>decide (a=b)
 |.pointer none,.pointer none|.slice none 0 0,.slice none 0 0|.nilFunc,.nilFunc|.map none,.map none|.nilIface,.nilIface=>true
 |_,_=>false
def uq:List Value->List Value->Bool
 |[],[]=>true
 |a::r,b::s=>Q_ a b&&uq r s
 |_,_=>false
def nE:Ty->List Value
 |.i k=>[.int k 0]
 |.b=>[.bool false]
 |.s=>[.string ByteArray.empty]
 |.f k=>[.float k 0]
 |.sl _=>[.slice none 0 0]
 |.mp _ _=>[.map none]
 |.un=>[]
 |.pr a c=>nE a++nE c
 |.st t=>nE t
 |.ar n t=>(aA n (nE t)).flatten
 |.o k=>[match k with|0=>.slice none 0 0|1=>.pointer none|2=>.nilFunc|3=>.map none|_=>.nilIface]
def DY:Ty->Option (List Kd)
 |.i k=>some [.i k]
 |.b=>some [.b]
 |.s=>some [.s]
 |.pr a c=>match DY a,DY c with|some x,some y=>some (x++y)|_,_=>none
 |.st t=>DY t
 |.ar n t=>match DY t with|some x=>some ((aA n x).flatten)|none=>none
 |_=>none
def PO(z:Bool)(op:BinOp)(k k':IntKind)(a b:Int):Option V:=
 match op with
 |.shl=>bif z then some (.x (.i k) (PR k a b))else none
 |.shr=>bif z then some (.x (.i k) (Je k a b))else none
 |op=>bif decide (k=k')then(match op with
  |.add=>some (.x (.i k) (wr k (a+b)))
  |.sub=>some (.x (.i k) (wr k (a-b)))
  |.mul=>some (.x (.i k) (wr k (a*b)))
  |.quo=>bif z then some (.x (.i k) (wr k (a.tdiv b)))else none
  |.rem=>bif z then some (.x (.i k) (a.tmod b))else none
  |.and=>some (.x (.i k) (Jf k a b))
  |.or=>some (.x (.i k) (Qb k a b))
  |.xor=>some (.x (.i k) (PQ k a b))
  |.andNot=>some (.x (.i k) (sH k a b))
  |.eql=>some (.x .b (a==b))
  |.neq=>some (.x .b (a !=b))
  |.lss=>some (.x .b (decide (a<b)))
  |.leq=>some (.x .b (decide (a<=b)))
  |.gtr=>some (.x .b (decide (a>b)))
  |.geq=>some (.x .b (decide (a>=b)))
  |_=>none)else none
def PN(op:BinOp)(x y:ByteArray):Option V:=match op with|.eql=>some (.x .b (x.toList==y.toList))|.neq=>some (.x .b (!(x.toList==y.toList)))|.lss=>some (.x .b (Op.bytesLess x.toList y.toList))|.leq=>some (.x .b (Op.bytesLess x.toList y.toList||x.toList==y.toList))|.gtr=>some (.x .b (!(Op.bytesLess x.toList y.toList||x.toList==y.toList)))|.geq=>some (.x .b (!(Op.bytesLess x.toList y.toList)))|_=>none
def MH:List Operand->Bool
 |[_,.const (.int _ n)]=>decide (n>0)
 |_=>false
def P_(m:Bool)(k:IntKind):Int->List V->Option Int
 |x,[]=>some x
 |x,.x (.i k') y::r=>bif decide (k'=k)then P_ m k (bif m then(if y>x then y else x)else(if y<x then y else x)) r else none
 |_,_=>none
def zd(h:H2):V->Option (V×List Nat)
 |.pt t v=>some (.x t v,[])
 |.op id t p=>(match fO h id with
  |some (.bx u c)=>bif decide (u=t)then(match qf c p with|some w=>some (w,[id])|none=>none)else none
  |some (.ib u v)=>bif decide (u=t)then(match qf (.x u v) p with|some w=>some (w,[id])|none=>none)else none
  |_=>none)
 |.ep id n t p=>(match fO h id with
  |some (.ar u s _)|some (.im u s _)=>bif decide (u=t)then(match qf (.x u (gt s.l n)) p with|some w=>some (w,[id])|none=>none)else none
  |_=>none)
 |_=>none
def yZ(h:H2)(kind:Nat):V->Option V
 |.nl k=>bif(k==kind)&&Nat.blt k 3 then some (.kb true)else none
 |.pt _ _|.op _ _ _|.ep _ _ _ _=>bif kind==1 then some (.kb false)else none
 |.fn _ _ _=>bif kind==2 then some (.kb false)else none
 |v=>bif kind==0 then(match ur h v with|some ⟨_,s,_⟩=>some (.x .b s.fM)|none=>none)else none
def Kg:V->V
 |.kb c=>.kb (!c)
 |.x .b c=>.x .b (!c)
 |v=>v
def Gd(off n:Nat)(i:Nat):V->Option V
 |.op id t p=>(match rM t p with
  |some (.st u)=>(match CF u i with|some w=>bif(pu u i==off)&&(ce w==n)then some (.op id t (p++[.fd i]))else none|none=>none)
  |_=>none)
 |.ep id m t p=>(match rM t p with
  |some (.st u)=>(match CF u i with|some w=>bif(pu u i==off)&&(ce w==n)then some (.ep id m t (p++[.fd i]))else none|none=>none)
  |_=>none)
 |.pt (.st u) v=>(match Ao u v i with|some (.x w y)=>bif(pu u i==off)&&(ce w==n)then some (.pt w y)else none|_=>none)
 |_=>none
def Gv(h:H2)(g:Bool)(n:Nat)(w:V):Bool:=(tW w==g)&&(yr w==n)&&(g||n==1)&&ir h w
def MX(h:H2):V->Option ((k:Ty)×(v:Ty)×Mp (El k) (El v)×List Nat)
 |.om id=>(match fO h id with|some (.mp k v m)=>some ⟨k,v,m,[id]⟩|_=>none)
 |_=>none
def xQ(t:Ty):List Nat->List (Nat×Nat)->List V->V->Option V
 |[],[],[],c=>some c
 |i::is,(off,n)::ps,w::ws,c=>
  match t with
  |.st u=>(match CF u i with
   |some a=>bif(pu u i==off)&&(ce a==n)then(match L3 a w with|some w=>(match o6 c [.fd i] w with|some c=>bif eG c false t then xQ t is ps ws c else none|none=>none)|none=>none)else none
   |none=>none)
  |.ar m u=>bif(i*ce u==off)&&(ce u==n)&&decide (i<m)then(match L3 u w with|some w=>(match o6 c [.ix i] w with|some c=>bif eG c false t then xQ t is ps ws c else none|none=>none)|none=>none)else none
  |_=>none
 |_,_,_,_=>none
def Nw:V->Bool
 |.tp _|.no|.gn|.ni|.co _ _=>false
 |v=>!tW v
def OA(o:OP)(vs:List V)(h:H2):Option (V×List Nat):=
 match o.o.k,vs with
 |.mv,[v]=>some (v,[])
 |.nilCheck,[v]=>(match v with|.pt _ _|.fn _ _ _|.ep _ _ _ _|.op _ _ _=>some (v,[])|_=>none)
 |.Au op,[.x (.i k) a,.x (.i k') b]=>(match PO (MH o.o.args) op k k' a b with|some v=>some (v,[])|none=>none)
 |.Au op,[.x .s a,.x .s b]=>(match PN op a b with|some v=>some (v,[])|none=>none)
 |.ve neg,[x,y]=>(match ul .b x,ul .b y with|some a,some b=>some (.x .b (bif neg then !(a==b)else a==b),[])|_,_=>none)
 |.rF kind neg,[x]=>(match yZ h kind x with|some v=>some (bif neg then Kg v else v,[])|none=>none)
 |.zD neg ks,[.x t a,y]=>(match ul t y with|some b=>bif nB t&&decide (DY t=some ks)then some (.x .b (bif neg then !(decide (a=b))else decide (a=b)),[])else none|none=>none)
 |.un .not,[.kb c]=>some (.kb (!c),[])
 |.un .not,[.x .b c]=>some (.x .b (!c),[])
 |.un .neg,[.x (.i k) n]=>some (.x (.i k) (wr k (0-n)),[])
 |.un .xor,[.x (.i k) n]=>some (.x (.i k) (TH k n),[])
 |.vY k,[.x (.i _) n]=>some (.x (.i k) (wr k n),[])
 |.tP,[.x .s s]=>some (.x .s s,[])
 |.It f,vs=>bif vs.all Nw then some (.fn false f (cU vs),[])else none
 |.load g n,[p]=>(match zd h p with|some (w,l)=>bif Gv h g n w then some (w,l)else none|none=>none)
 |.uD,[p]=>(match zd h p with|some (w,l)=>bif Gv h false 1 w then some (w,l)else none|none=>none)
 |.fieldAddr off n,[p]=>(match o.fi with|[i]=>(match Gd off n i p with|some w=>some (w,[])|none=>none)|_=>none)
 |.field g off n,[.x (.st u) v]=>(match o.fi with|[i]=>(match Ao u v i with|some w=>bif(pu u i==off)&&Gv h g n w then some (w,[])else none|none=>none)|_=>none)
 |.field g off n,[.rc l]=>(match o.fi with|[i]=>(match sS l i with|some w=>bif(Na l i==off)&&Gv h g n w then some (w,[])else none|none=>none)|_=>none)
 |.extract i,[.tp l]=>(match sS l i with|some w=>some (w,[])|none=>none)
 |.len true,[.x .s s]=>some (.x (.i .i64) (s.size:Int),[])
 |.len false,[.nl 0]=>some (.x (.i .i64) (0:Int),[])
 |.len false,[.sr id]=>(match fO h id with|some (.rw _ s _)=>some (.x (.i .i64) (s.l.length:Int),[])|_=>none)
 |.len false,[v]=>(match ur h v with|some ⟨_,s,_⟩=>some (.x (.i .i64) (s.l.length:Int),[])|none=>none)
 |.u9 m,.x (.i k) x::r=>(match P_ m k x r with|some y=>some (.x (.i k) y,[])|none=>none)
 |.build z ps,vs=>bif uq (nE o.t) z&&nB o.t&&eG (NQ o.t) false o.t then(match xQ o.t o.fi ps vs (NQ o.t)with|some v=>some (v,[])|none=>none)else none
 |.lookup ka ks va z ok,[m,kv]=>(match MX h m with
  |some ⟨kt,vt,mp,l⟩=>(match ul kt kv with
   |some k=>bif(nB kt==ka)&&(nB vt==va)&&decide (DY kt=some ks)&&uq (nE vt) z&&kL vt&&(va||ce vt==1)then
     some (bif ok then .tp (.co (.x vt (pp mp (sX vt) k)) (.co (.x .b (Km mp k)) .ni))else .x vt (pp mp (sX vt) k),l)else none
   |none=>none)
  |none=>none)
 |_,_=>none
def rI{α:Type}(s:Sl α)(x r:List α):Sl α:=match x with|[]=>(match s with|.nil=>.nil|.mk _=>.mk r)|_::_=>.mk r
def Iz{α:Type}:Sl α->Sl α->Option Unit
 |.nil,.nil=>some ()
 |.mk a,.mk b=>Pc a b
 |_,_=>none
def jy(s:S2)(o:O):S2:=⟨s.dH,(s.next,some o)::s.heap,s.next+1,s.next::s.wo,s.gh⟩
def eB(s:S2)(id:Nat)(o:Option O):S2:=⟨s.dH,(id,o)::s.heap,s.next,id::s.wo,s.gh⟩
def B_(h:H2)(id:Nat):Option O:=match fO h id with|some (.ar t s v)|some (.im t s v)=>some (.im t s v)|some (.ib t v)=>some (.ib t v)|some (.bx t c)=>bif kL t&&Nat.blt (ce t) 300 then(match jg h c with|some (_,[])=>(match ul t c with|some v=>some (.ib t v)|none=>none)|_=>none)else none|_=>none
def rb(h:H2):List Nat->S2->Option S2
 |[],s=>some s
 |id::r,s=>match fO h id with|some (.rw _ _ none)=>(match rb h r s with|some s=>some (eB s id none)|none=>none)|_=>(match B_ h id,rb h r s with|some o,some s=>some (eB s id (some o))|_,_=>none)
def CB(t:Ty):Bool:=kL t&&Nat.blt 0 (ce t)
def yJ(h:H2)(t:Ty)(len:Nat):Nat->List Nat->List V->Option (List (El t)×List Nat)
 |m,[],[]=>some (aA (len-m) (sX t),[])
 |m,i::is,v::vs=>
  match jg h v with
  |some (w,a)=>(match ul t w with
   |some y=>bif i_ m i&&Nat.blt i len then(match yJ h t len (i+1) is vs with|some (l,b)=>some (aA (i-m) (sX t)++y::l,a++b)|none=>none)else none
   |none=>none)
  |none=>none
 |_,_,_=>none
def gD:List V->Option (List Int)
 |[]=>some []
 |.x (.i _) n::r=>match gD r with|some l=>some (n::l)|none=>none
 |_=>none
def FW(h:H2):V->Option Int
 |.nl 0=>some 0
 |v=>match ur h v with|some ⟨_,v,_⟩=>some (v.l.length:Int)|none=>none
def Nt{α:Type}(w:Sl α)(lo n:Nat)(z:α):Option (Sl α):=match w with|.nil=>none|.mk l=>some (.mk (Ly l lo n (aA n z)))
def ux{β:Type}(sz:Nat)(h:H2)(x:V)(l u:Int)(k:V->Option β):Option β:=
 match x with
 |.x (.sl t) v=>bif ce t==sz then(uy v.l l u).bind fun y=>k (.x (.sl t) (v.to y))else none
 |.so id=>(match fO h id with
  |some (.ar t v ver)=>bif ce t==sz then(uy v.l l u).bind fun y=>k (.sb id ver l.toNat t (v.to y))else none
  |some (.im t v ver)=>bif ce t==sz then(uy v.l l u).bind fun y=>k (.sb id ver l.toNat t (v.to y))else none
  |_=>none)
 |.sb id ver lo t v=>bif ce t==sz then(uy v.l l u).bind fun y=>k (.sb id ver (lo+l.toNat) t (v.to y))else none
 |.nl 0=>(uy ([]:List Unit) l u).bind fun _=>k (.nl 0)
 |_=>none
def PM{β:Type}(t:Ty)(sz len:Nat)(z:List Value)(pl:List Nat)(vs:List V)(s:S2)(k:V->S2->List Nat->Option β):Option β:=
 bif(ce t==sz)&&uq ((aA len (nE t)).flatten) z&&CB t then
  (match yJ s.heap t len 0 pl vs with
  |some (l,a)=>(match rb s.heap a s with|some s'=>k (.so s.next) (jy s' (.ar t (.mk l) 0)) a|none=>none)
  |none=>none)else none
def GP(ln:Option (Nat×Nat))(m:Nat):Bool:=match ln with|none=>true|some (m',_)=>kV m' m
def E4{β:Type}(id m:Nat)(t:Ty)(p:qw)(w:V)(s:S2)(k:S2->List Nat->Option β):Option β:=
 match fO s.heap id with
 |some (.rw u v ln)=>(match p,w with
  |[],.so id2=>(match fO s.heap id2 with
   |some (.ar u2 r _)=>(match gH (.sl u2) (.sl u) r with
    |some r=>bif decide (t=.sl u)&&!(id2==id)&&GP ln m then k (eB (eB s id2 none) id (some (.rw u (.mk (v.l.set m r)) none))) [id,id2]else none
    |none=>none)
   |_=>none)
  |_,_=>none)
 |some (.ar u l ver)=>(match jg s.heap w with
  |some (w,a)=>bif decide (u=t)then(match rM u p with
   |some q=>(match ul q w with
    |some y=>(match o6 (.x u (gt l.l m)) p (.x q y)with
     |some c=>(match ic u c with
      |some y=>(match rb s.heap a s with|some s=>bif !a.contains id then k (eB s id (some (.ar u (.mk (l.l.set m y)) (ver+1)))) (id::a)else none|none=>none)
      |none=>none)
     |none=>none)
    |none=>none)
   |none=>none)else none
  |none=>none)
 |_=>none
def part{β:Type}(o:OP)(vs:List V)(s:S2)(k:V->S2->List Nat->Option β):Option β:=
 match o.o.k,vs with
 |.Au .quo,[.x (.i q) a,.x (.i q') b]=>bif decide (q=q')then(PB q a b).bind fun x=>k (.x (.i q) x) s []else none
 |.Au .rem,[.x (.i q) a,.x (.i q') b]=>bif decide (q=q')then(OK q a b).bind fun x=>k (.x (.i q) x) s []else none
 |.Au .shl,[.x (.i q) a,.x (.i _) b]=>(yB q a b).bind fun x=>k (.x (.i q) x) s []
 |.Au .shr,[.x (.i q) a,.x (.i _) b]=>(OE q a b).bind fun x=>k (.x (.i q) x) s []
 |.Au .add,[.x .s a,.x .s b]=>(PJ a b).bind fun x=>k (.x .s x) s []
 |.alloc z,[]=>bif uq (nE o.t) z&&eG (NQ o.t) false o.t then k (.op s.next o.t []) (jy s (.bx o.t (NQ o.t))) []else none
 |.box,[v]=>(match L3 o.t v with|some w=>k (.op s.next o.t []) (jy s (.bx o.t w)) []|none=>none)
 |.buildSlice sz len z pl,vs=>PM o.t sz len z pl vs s k
 |.store n,[.op id t p,w]=>bif(yr w==n)then(match fO s.heap id with
  |some (.bx u c)=>bif decide (u=t)then(match rM t p with
   |some a=>(match L3 a w with
    |some w=>(match o6 c p w with|some c=>bif eG c false t then k (.tp .ni) (eB s id (some (.bx t c))) [id]else none|none=>none)
    |none=>none)
   |none=>none)else none
  |_=>none)else none
 |.uD,[.ep id m u []]=>(match fO s.heap id with
  |some (.rw t v none)=>bif decide (u=.sl t)then k (.so s.next) (jy (eB s id (some (.rw t v (some (m,s.next))))) (.ar t (gt v.l m) 0)) [id]else none
  |_=>none)
 |.A0 szi,[.x (.i _) l,.x (.i _) c]=>(match o.t with
  |.sl t=>bif(ce t==szi)&&CB t then(CE (Sl.nil:Sl (El t)) l c).bind fun r=>k (.sr s.next) (jy s (.rw t (.mk r) none)) []else none
  |_=>none)
 |.store n,[.ep id m t p,w]=>bif(yr w==n)then E4 id m t p w s (fun s l=>k (.tp .ni) s l)else none
 |.makeSlice z,[.x (.i _) l,.x (.i _) c]=>bif uq (nE o.t) z&&CB o.t then(CE (sX o.t) l c).bind fun r=>k (.so s.next) (jy s (.ar o.t (.mk r) 0)) []else none
 |.slice true _ lo hi,.x .s x::r=>(match lo,hi,gD r with
  |false,false,some []=>(z8 x 0 x.size).bind fun y=>k (.x .s y) s []
  |true,false,some [l]=>(z8 x l x.size).bind fun y=>k (.x .s y) s []
  |false,true,some [u]=>(z8 x 0 u).bind fun y=>k (.x .s y) s []
  |true,true,some [l,u]=>(z8 x l u).bind fun y=>k (.x .s y) s []
  |_,_,_=>none)
 |.slice false sz lo hi,x::r=>
  (match lo,hi,gD r,FW s.heap x with
  |false,false,some [],some n=>ux sz s.heap x 0 n fun v=>k v s []
  |true,false,some [l],some n=>ux sz s.heap x l n fun v=>k v s []
  |false,true,some [u],some _=>ux sz s.heap x 0 u fun v=>k v s []
  |true,true,some [l,u],some _=>ux sz s.heap x l u fun v=>k v s []
  |_,_,_,_=>none)
 |.indexAddr none sz,[x,.x (.i _) i]=>(match x with
  |.x (.sl t) v=>bif ce t==sz then(df i v.l.length).bind fun m=>k (.pt t (gt v.l m)) s []else none
  |.so id=>(match ur s.heap (.so id)with|some ⟨t,v,_⟩=>bif ce t==sz then(df i v.l.length).bind fun m=>k (.ep id m t []) s []else none|none=>none)
  |.sb id _ lo t v=>bif ce t==sz then(df i v.l.length).bind fun m=>k (.ep id (lo+m) t []) s []else none
  |.sr id=>(match fO s.heap id with|some (.rw t v _)=>bif 1==sz then(df i v.l.length).bind fun m=>k (.ep id m (.sl t) []) s []else none|_=>none)
  |_=>none)
 |.indexAddr (some n) sz,[x,.x (.i _) i]=>(match x with
  |.op id t p=>(match rM t p with|some (.ar n' u)=>bif(n'==n)&&(ce u==sz)then(df i n).bind fun m=>k (.op id t (p++[.ix m])) s []else none|_=>none)
  |.ep id q t p=>(match rM t p with|some (.ar n' u)=>bif(n'==n)&&(ce u==sz)then(df i n).bind fun m=>k (.ep id q t (p++[.ix m])) s []else none|_=>none)
  |.pt (.ar n' u) v=>bif(n'==n)&&(ce u==sz)then(df i n).bind fun m=>k (.pt u (gt v.1 m)) s []else none
  |_=>none)
 |.qb,[.x .s x,.x (.i _) i]=>(TI x i).bind fun c=>k (.x (.i .u8) c) s []
 |.index g n sz,[.x (.ar n' u) v,.x (.i _) i]=>bif(n'==n)&&(ce u==sz)&&(nB u==g)&&kL u&&(g||sz==1)then(df i n).bind fun m=>k (.x u (gt v.1 m)) s []else none
 |.append sz,[a,x]=>
  (match JH o.t s.heap x with
  |some ⟨t,m,aB⟩=>bif(ce t==sz)&&CB t then(match a with
   |.nl 0=>(fF ([]++m.l)).bind fun r=>k (.so s.next) (jy s (.ar t (rI Sl.nil m.l r) 0)) aB
   |.x (.sl _) v=>bif Sl.fM v then((fF ([]++m.l)).bind fun r=>k (.so s.next) (jy s (.ar t (rI Sl.nil m.l r) 0)) aB)else none
   |.so id=>(match fO s.heap id with
    |some (.ar u v _)=>(match gH (.sl t) (.sl u) m with
     |some m=>(fF (v.l++m.l)).bind fun r=>k (.so s.next) (jy (eB s id none) (.ar u (rI v m.l r) 0)) (id::aB)
     |none=>none)
    |_=>none)
   |.sb id _ lo u v=>(match fO s.heap id,gH (.sl t) (.sl u) m with
    |some (.ar _ s0 _),some m=>bif i_ s0.l.length (lo+(v.l.length+m.l.length))then((fF (v.l++m.l)).bind fun r=>k (.so s.next) (jy (eB s id none) (.ar u (rI v m.l r) 0)) (id::aB))else none
    |_,_=>none)
   |_=>none)else none
  |none=>none)
 |.copy sz,[a,x]=>
  (match JH o.t s.heap x with
  |some ⟨t,m,aB⟩=>bif ce t==sz then(match a with
   |.nl 0=>k (.x (.i .i64) (0:Int)) s aB
   |.so id=>(match fO s.heap id with
    |some (.ar u v ver)=>(match gH (.sl t) (.sl u) m with
     |some m=>k (.x (.i .i64) ((min m.l.length v.l.length:Nat):Int)) (eB s id (some (.ar u (v.to (Ly v.l 0 v.l.length m.l)) (ver+1)))) (id::aB)
     |none=>none)
    |_=>none)
   |.sb id ver lo _ v=>(match fO s.heap id with
    |some (.ar u w ver')=>(match gH (.sl t) (.sl u) m with
     |some m=>bif ver'==ver then k (.x (.i .i64) ((min m.l.length v.l.length:Nat):Int)) (eB s id (some (.ar u (w.to (Ly w.l lo v.l.length m.l)) (ver+1)))) (id::aB)else none
     |none=>none)
    |_=>none)
   |_=>none)else none
  |none=>none)
 |.clear zz,[a]=>(match a with
  |.sb id ver lo _ v=>(match fO s.heap id with
   |some (.ar u w ver')=>bif(ver'==ver)&&uq (nE u) zz&&CB u then(Nt w lo v.l.length (sX u)).bind fun w=>k (.tp .ni) (eB s id (some (.ar u w (ver+1)))) [id]else none
   |_=>none)
  |_=>none)
 |.makeMap ka va,[]=>(match o.t with
  |.mp kt vt=>bif(nB kt==ka)&&(nB vt==va)&&kL vt&&(DY kt).isSome then k (.om s.next) (jy s (.mp kt vt Mp.none)) []else none
  |_=>none)
 |.mapEntry ka ks va z,[.om id,kv]=>(match fO s.heap id with
  |some (.mp kt vt m)=>(match ul kt kv with
   |some q=>bif(nB kt==ka)&&(nB vt==va)&&decide (DY kt=some ks)&&uq (nE vt) z&&kL vt&&(va||ce vt==1)then
     k (.tp (.co (.x vt (md m (sX vt) q).2.1) (.co (.x (.i .i64) (md m (sX vt) q).2.2) .ni))) (eB s id (some (.mp kt vt (md m (sX vt) q).1))) [id]else none
   |none=>none)
  |_=>none)
 |.entryStore va n,[.om id,.x (.i _) st,w]=>(match fO s.heap id with
  |some (.mp kt vt m)=>(match ul vt w with
   |some y=>bif(nB vt==va)&&(ce vt==n)&&kL vt then(vL m st y).bind fun m=>k (.tp .ni) (eB s id (some (.mp kt vt m))) [id]else none
   |none=>none)
  |_=>none)
 |_,_=>none
@[reducible] def rg:List Ty->Type
 |[]=>Unit
 |a::r=>EJ a r
where EJ:Ty->List Ty->Type
 |a,[]=>El a
 |a,c::r=>El a×EJ c r
def uJ(u:Ty):V->Option (El u)
 |.x t v=>gH t u v
 |_=>none
def HD{α β:Type}:Option α->Option β->Option (α×β)
 |some x,some y=>some (x,y)
 |_,_=>none
def EX:(a:Ty)->(r:List Ty)->List V->Option (rg.EJ a r)
 |a,[],l=>(match l with|[v]=>uJ a v|_=>none)
 |a,c::r,l=>(match l with|v::l=>HD (uJ a v) (EX c r l)|[]=>none)
def wq:(cs:List Ty)->List V->Option (rg cs)
 |[],[]=>some ()
 |a::r,l=>EX a r l
 |_,_=>none
def Mf:(a:Ty)->(r:List Ty)->rg.EJ a r->List V
 |a,[],v=>[.x a v]
 |a,c::r,v=>.x a v.1::Mf c r v.2
def px:(cs:List Ty)->rg cs->List V
 |[],_=>[]
 |a::r,v=>Mf a r v
inductive Sh where
 | x (t : Ty)            -- data
 | pt (t : Ty)           -- a pointer to data
 | os (t : Ty)           -- a slice of its bG
 | rw (t : Ty)           -- a cU of ao of its bG
 | mp (k v : Ty)         -- a map of its bG
 | pb (t : Ty) (c : Sh)  -- a pointer to a box of its bG
 |st (c:Sh)
 |pr (a c:Sh)
 |nl (k:Nat)
 |fn (f:Nat) (l:Sh)
 |ni
 |gn
 deriving Inhabited,DecidableEq
def Nq:Sh->List Ty
 |.x t|.pt t=>[t]
 |.os t=>[.sl t]
 |.rw t=>[.sl (.sl t)]
 |.mp k v=>[.mp k v]
 |.pb _ c|.st c|.fn _ c=>Nq c
 |.pr a c=>Nq a++Nq c
 |_=>[]
def gT:List Sh->List Ty
 |[]=>[]
 |a::r=>Nq a++gT r
abbrev Wy:=List (List Sh×List Sh)
@[reducible] def v9:Wy->Type
 |[]=>Empty
 |(r,o)::w=>GF r o w
where GF:List Sh->List Sh->Wy->Type
 |r,o,[]=>rg (gT r++gT o)
 |r,o,(r',o')::w=>rg (gT r++gT o)⊕GF r' o' w
def Oq{β:Type}(k:List Sh->List Sh->List V->Option β):(r o:List Sh)->(w:Wy)->v9.GF r o w->Option β
 |r,o,[],z=>k r o (px (gT r++gT o) z)
 |r,o,(r',o')::w,z=>match z with|.inl z=>k r o (px (gT r++gT o) z)|.inr z=>Oq k r' o' w z
def Qg{β:Type}(k:List Sh->List Sh->List V->Option β):(w:Wy)->v9 w->Option β
 |[],z=>nomatch z
 |(r,o)::w,z=>Oq k r o w z
structure j8 where
 ps:List (Bool×Sh)
 al:Wy
 ro:Bool
 j7:List Bool
 fn:rg (gT (ps.map (·.2)))->Option (v9 al)
abbrev EF:=List (Nat×j8)
def ph(h:H2):Sh->V->Option (List V×List Nat)
 |.x t,v=>match jg h v with|some (w,l)=>(match ul t w with|some y=>some ([.x t y],l)|none=>none)|none=>none
 |.pt t,.pt u v=>match gH u t v with|some y=>some ([.x t y],[])|none=>none
 |.pt t,.op id u []=>(match fO h id with
  |some (.bx w c)=>bif decide (w=u)&&ir h c then(match jg h c with|some (c,l)=>(match ul t c with|some y=>some ([.x t y],id::l)|none=>none)|none=>none)else none
  |some (.ib w v)=>bif decide (w=u)then(match gH w t v with|some y=>some ([.x t y],[id])|none=>none)else none
  |_=>none)
 |.pt t,.ep id n u []=>(match fO h id with
  |some (.ar w s _)|some (.im w s _)=>bif decide (w=u)then(match gH w t (gt s.l n)with|some y=>some ([.x t y],[id])|none=>none)else none
  |_=>none)
 |.nl k,.nl k'=>bif k==k' then some ([],[])else none
 |.fn f c,.fn _ f' l=>bif f==f' then ph h c l else none
 |.pr a c,.co x r=>match ph h a x,ph h c r with|some (l,i),some (m,j)=>some (l++m,i++j)|_,_=>none
 |.ni,.ni=>some ([],[])
 |_,_=>none
def O4(t:Ty){u:Ty}(v:El (.sl u)):Option (List V×List Nat):=match(v:Sl (El u))with|.nil=>some ([.x (.sl t) Sl.nil],[])|.mk _=>none
def ed(h:H2):Sh->Bool->V->Option (List V×List Nat)
 |.os t,false,.so id=>(match fO h id with|some (.ar u s _)=>(match gH (.sl u) (.sl t) s with|some s=>some ([.x (.sl t) s],[id])|none=>none)|_=>none)
 |.os t,false,.nl 0=>some ([.x (.sl t) Sl.nil],[])
 |.rw t,false,.sr id=>(match fO h id with|some (.rw u s none)=>(match gH (.sl (.sl u)) (.sl (.sl t)) s with|some s=>some ([.x (.sl (.sl t)) s],[id])|none=>none)|_=>none)
 |.rw t,false,.nl 0=>some ([.x (.sl (.sl t)) Sl.nil],[])
 |.pb t c,false,.op id u []=>(match fO h id with|some (.bx w v)=>bif decide (w=u)&&decide (u=t)then(match ed h c false v with|some (l,i)=>some (l,id::i)|none=>none)else none|_=>none)
 |.nl k,false,.nl k'=>bif k==k' then some ([],[])else none
 |.x t,false,v=>match ul t v with|some y=>some ([.x t y],[])|none=>none
 |.st c,false,.rc l=>ed h c true l
 |.st c,false,.x (.st u) v=>ed h c true (HF u v)
 |.pr a c,true,.co x r=>match(match a,x with|.os t,.x (.sl _) v=>O4 t v|_,_=>ed h a false x),ed h c true r with|some (l,i),some (m,j)=>some (l++m,i++j)|_,_=>none
 |.ni,true,.ni=>some ([],[])
 |_,_,_=>none
def rN:Sh->Bool->List V->S2->Option (V×List V×S2)
 |.x t,false,.x u v::l,s=>bif decide (u=t)&&kL t then some (.x u v,l,{s with next:=s.next+ce t})else none
 |.os t,false,.x (.sl u) v::l,s=>bif decide (u=t)&&CB t then some (.so s.next,l,jy s (.ar u v 0))else none
 |.rw t,false,.x (.sl (.sl u)) v::l,s=>bif decide (u=t)&&CB t then some (.sr s.next,l,jy s (.rw u v none))else none
 |.pb t c,false,l,s=>
  match rN c false l {s with next:=s.next+1}with
  |some (w,l,s')=>bif eG w false t then some (.op s.next t [],l,eB s' s.next (some (.bx t w)))else none
  |none=>none
 |.nl k,false,l,s=>some (.nl k,l,{s with next:=s.next+1})
 |.st c,false,l,s=>match rN c true l s with|some (w,l,s)=>some (.rc w,l,s)|none=>none
 |.pr a c,true,l,s=>match rN a false l s with|some (x,l,s)=>(match rN c true l s with|some (r,l,s)=>some (.co x r,l,s)|none=>none)|none=>none
 |.ni,true,l,s=>some (.ni,l,s)
 |_,_,_,_=>none
def Is:List Sh->List V->S2->Option (List V×List V×S2)
 |[],l,s=>some ([],l,s)
 |a::r,l,s=>match rN a false l s with|some (x,l,s)=>(match Is r l s with|some (xs,l,s)=>some (x::xs,l,s)|none=>none)|none=>none
def pi(h:H2):List (Bool×Sh)->List V->Option (List V×List Nat×List (V×List Nat))
 |[],[]=>some ([],[],[])
 |(b,c)::r,v::vs=>
  match pi h r vs with
  |some (m,j,q)=>
   bif b then(match ed h c false v with|some (l,i)=>some (l++m,j,(v,i)::q)|none=>none)
   else(match ph h c v with|some (l,i)=>some (l++m,i++j,q)|none=>none)
  |none=>none
 |_,_=>none
def A_(h:H2)(f:Nat)(vs:List V):EF->Option (j8×List V×List Nat×List (V×List Nat))
 |[]=>none
 |(g,sp)::r=>bif g==f then(match pi h sp.ps vs with|some (l,i,q)=>some (sp,l,i,q)|none=>A_ h f vs r)else A_ h f vs r
def iY:List Nat->S2->S2
 |[],s=>s
 |id::r,s=>eB (iY r s) id none
def fZ{β:Type}:List Sh->List (V×List Nat)->List V->S2->(S2->Option β)->Option β
 |[],[],[],s,k=>k s
 |.nl _::r,(_,[])::q,l,s,k=>fZ r q l s k
 |.gn::r,(_,i)::q,l,s,k=>fZ r q l (iY i s) k
 |.os t::r,(.nl 0,[])::q,.x (.sl u) v::l,s,k=>(match gH (.sl u) (.sl t) v with|some v=>(Iz v (Sl.nil:Sl (El t))).bind fun _=>fZ r q l s k|none=>none)
 |.os t::r,(.so id,_)::q,.x (.sl u) v::l,s,k=>(match fO s.heap id,gH (.sl u) (.sl t) v with
  |some (.ar w old ver),some v=>(match gH (.sl t) (.sl w) v with
   |some v=>(Iz v old).bind fun _=>fZ r q l (eB s id (some (.ar w v (ver+1)))) k
   |none=>none)
  |_,_=>none)
 |.rw t::r,(.nl 0,[])::q,.x (.sl (.sl u)) v::l,s,k=>(match gH (.sl (.sl u)) (.sl (.sl t)) v with|some v=>(Iz (v:Sl (Sl (El t))) (Sl.nil:Sl (Sl (El t)))).bind fun _=>fZ r q l s k|none=>none)
 |.rw t::r,(.sr id,_)::q,.x (.sl (.sl u)) v::l,s,k=>(match fO s.heap id,gH (.sl (.sl u)) (.sl (.sl t)) v with
  |some (.rw w old _),some v=>(match gH (.sl (.sl t)) (.sl (.sl w)) v with
   |some v=>(Iz (v:Sl (Sl (El w))) old).bind fun _=>fZ r q l (eB s id (some (.rw w v none))) k
   |none=>none)
  |_,_=>none)
 |.pb t c::r,(.op id u [],i)::q,l,s,k=>(match fO s.heap id with
  |some _=>(match rN c false l s with
   |some (w,l,s)=>bif eG w false t&&decide (u=t)then fZ r q l (eB (iY i s) id (some (.bx t w))) k else none
   |none=>none)
  |none=>none)
 |_,_,_,_,_=>none
def OJ:List V->V
 |[v]=>v
 |l=>.tp (cU l)
def yX:List Nat->Bool
 |[]=>true
 |a::r=>!r.contains a&&yX r
def we:V->Option (List V)
 |.ni=>some []
 |.co a r=>bif(yr a==1)&&!tW a then(match we r with|some l=>some (a::l)|none=>none)else none
 |_=>none
def yd{β:Type}(tb:EF)(ro:Bool)(j7:List Bool)(f:V)(vs:List V)(s:S2)(k:V->S2->List Nat->Option β):Option β:=
 match f with
 |.fn _ fid caps=>
  match(match we caps with|some cs=>A_ s.heap fid (vs++cs) tb|none=>none)with
  |some (sp,pay,aB,q)=>
   bif(!ro||sp.ro)&&decide (sp.j7=j7)&&yX (q.flatMap (·.2))&&(q.flatMap (·.2)).all (fun i=>!aB.contains i)then
    match wq (gT (sp.ps.map (·.2))) pay with
    |some p=>(sp.fn p).bind fun z=>Qg (fun rs os l=>
     match(bif ro then some s else rb s.heap aB s)with
     |some s0=>fZ os q (l.drop (gT rs).length) s0 fun s1=>
      (match Is rs (l.take (gT rs).length) s1 with
      |some (xs,_,s2)=>k (OJ xs) s2 (aB++q.flatMap (·.2))
      |none=>none)
     |none=>none) sp.al z
    |none=>none
   else none
  |none=>none
 |_=>none
structure Rg where
 kn:List (Nat×Bool)
 cd:List (Nat×Nat×Bool×V)
def Pd(kn:List (Nat×Bool))(g:Nat):Option Bool:=cz kn g
def Jm(s:S2)(q:Rg)(gc:Option (Nat×Bool)):Operand->Option V
 |.tmp t=>match cz q.cd t with|some (g,b,v)=>bif decide (gc=some (g,b))||decide (Pd q.kn g=some b)then(bif ir s.heap v then some v else none)else none|none=>Jl s.dH s.heap (.tmp t)
 |o=>Jl s.dH s.heap o
def FI(s:S2)(q:Rg)(gc:Option (Nat×Bool)):List Operand->Option (List V)
 |[]=>some []
 |a::r=>match Jm s q gc a,FI s q gc r with|some x,some y=>some (x::y)|_,_=>none
inductive GV where
 |run
 |skip
 |P7 (g:Nat) (b:Bool) (c:Bool)
def TB(e:List (Nat×V))(kn:List (Nat×Bool)):Option (Nat×Bool)->Option GV
 |none=>some .run
 |some (g,b)=>
  match Pd kn g with
  |some c=>some (bif c==b then .run else .skip)
  |none=>(match cz e g with
   |some (.kb c)=>some (bif c==b then .run else .skip)
   |some (.x .b c)=>some (.P7 g b c)
   |some .no=>some .skip
   |_=>none)
def JX(s:S2)(q:Rg)(gc:Option (Nat×Bool)):List Operand->Option V
 |[.tmp g,a,b]=>match Pd q.kn g,cz s.dH g with|some c,_=>Jm s q gc (bif c then a else b)|none,some (.kb c)=>Jm s q gc (bif c then a else b)|none,some (.x .b c)=>(match Jm s q (some (g,true)) a,Jm s q (some (g,false)) b with|some x,some y=>Tv c x y|_,_=>none)|_,_=>none
 |[.const (.bool c),a,b]=>Jm s q gc (bif c then a else b)
 |_=>none
def F1:K->Bool
 |.pick=>true
 |_=>false
def Mh(o:OP)(s:S2)(q:Rg)(gc:Option (Nat×Bool)):Option (V×List Nat):=
 bif F1 o.o.k then(match JX s q gc o.o.args with|some v=>some (v,[])|none=>none)
 else(match FI s q gc o.o.args with|some vs=>OA o vs s.heap|none=>none)
def uv(s:S2)(d:Option Nat)(v:V):S2:=match d with|some d=>{s with dH:=(d,v)::s.dH}|none=>s
def Nu(q:Rg)(d:Option Nat):Option Rg:=match d with|none=>some q|some d=>bif q.cd.any (fun e=>e.2.1==d)||q.kn.any (fun e=>e.1==d)then none else some ⟨q.kn,q.cd.filter (fun e=>!(e.1==d))⟩
abbrev Jo:=List (List Nat×List Nat)
def Q7{β:Type}(tb:EF)(o:OP)(s:S2)(q:Rg)(gc:Option (Nat×Bool))(k:V->S2->List Nat->Option β):Option β:=
 match Mh o s q gc with
 |some (v,l)=>k v s l
 |none=>
  match FI s q gc o.o.args with
  |some vs=>
   (match o.o.k,vs with
   |.call ro j7,f::vs=>yd tb ro j7 f vs s k
   |_,vs=>part o vs s k)
  |none=>none
def L4(dr:Option Nat)(i:Nat)(s:S2):S2:=match dr with|some b=>{s with next:=b+iS*i}|none=>s
def ID(dr:Option Nat)(i:Nat)(s:S2):Bool:=match dr with|some b=>i_ s.next (b+iS*(i+1))|none=>true
def Qh(d:Option Nat)(r:List OP):Bool:=
 match d with
 |some d=>r.any fun o=>match o.o.guard with|some (g,_)=>kV g d|none=>false
 |none=>false
def nq{β:Type}(tb:EF)(dr:Option Nat):List OP->Nat->S2->Rg->Jo->(S2->Jo->Option β)->Option β
 |[],_,s,_,tr,k=>k s tr
 |o::r,i,s0,q,tr,k=>
  let s:=L4 dr i s0
  let go:Rg->Option β:=fun q=>Q7 tb o s q o.o.guard fun v s1 l=>
   bif ID dr i s1 then(match Nu q o.o.dst with
    |some q=>nq tb dr r (i+1) (uv s1 o.o.dst v) q (tr++[(l,s1.wo.take (s1.wo.length-s.wo.length))]) k
    |none=>none)else none
  let no:Rg->Option β:=fun q=>match Nu q o.o.dst with|some q=>nq tb dr r (i+1) (uv s o.o.dst .no) q (tr++[([],[])]) k|none=>none
  match TB s.dH q.kn o.o.guard with
  |none=>none
  |some .run=>go q
  |some .skip=>no q
  |some (.P7 g b c)=>
   match(bif Qh o.o.dst r then none else Mh o s q (some (g,b)))with
   |some (v,l)=>
    (match Nu q o.o.dst,o.o.dst with
    |some q,some d=>bif kV g d then none else nq tb dr r (i+1) (uv s (some d) .gn) ⟨q.kn,(d,g,b,v)::q.cd⟩ (tr++[(l,[])]) k
    |_,_=>none)
   |none=>(match b with
    |true=>bif c then go ⟨(g,true)::q.kn,q.cd⟩else no ⟨(g,false)::q.kn,q.cd⟩
    |false=>bif c then no ⟨(g,true)::q.kn,q.cd⟩else go ⟨(g,false)::q.kn,q.cd⟩)
inductive JV where
 |x (t:Ty)
 |pt (t:Ty)
 |so (j:Nat)
 |sr (j:Nat)
 |om (j:Nat)
 |op (j:Nat) (t:Ty) (p:List Nat)
 |nl (k:Nat)
 |fn (z:Bool) (f:Nat) (l:JV)
 |rc (l:JV)
 |ni
 |co (a r:JV)
 |sm
 |gn
 deriving Inhabited
inductive JO where
 |ar (t:Ty)
 |bx (t:Ty) (c:JV)
 |mp (k v:Ty)
 |rw(t:Ty)
 deriving Inhabited
structure J where
 vs:List (Nat×JV):=[]
 gs:JV:=.sm
 os:List JO:=[]
 kl:List Nat:=[]
 deriving Inhabited
def I2:JV->List Ty
 |.x t|.pt t=>[t]
 |.fn _ _ l|.rc l=>I2 l
 |.co a r=>I2 a++I2 r
 |_=>[]
def N8:List (Nat×JV)->List Ty
 |[]=>[]
 |(_,a)::r=>I2 a++N8 r
def TG:JO->List Ty
 |.ar t=>[.sl t]
 |.bx _ c=>I2 c
 |.mp k v=>[.mp k v]
 |.rw t=>[.sl (.sl t)]
def N9:List JO->List Ty
 |[]=>[]
 |a::r=>TG a++N9 r
def qu(j:J):List Ty:=N8 j.vs++(I2 j.gs++N9 j.os)
structure Bd where
 j:Nat
 id:Option Nat
def LL:List Bd->Nat->Option Bd
 |[],_=>none
 |b::r,j=>bif b.j==j then some b else LL r j
def v5(m:List Bd)(b:Bd):Option (List Bd):=
 match LL m b.j with
 |none=>bif(match b.id with|some i=>m.all (fun c=>match c.id with|some i'=>!(i'==i)|none=>true)|none=>true)then some (b::m)else none
 |some c=>(match b.id,c.id with
  |some i,some i'=>bif i==i' then some m else none
  |_,_=>none)
def Do:qw->Option (List Nat)
 |[]=>some []
 |.fd i::p=>match Do p with|some l=>some (i::l)|none=>none
 |.ix _::_=>none
def dz:JV->Bool->V->List Bd->Option (List V×List Bd)
 |.x t,false,v,m=>match ul t v with|some y=>some ([.x t y],m)|none=>none
 |.pt t,false,.pt u v,m=>match gH u t v with|some y=>some ([.x t y],m)|none=>none
 |.so j,false,.so id,m=>match v5 m ⟨j,some id⟩with|some m=>some ([],m)|none=>none
 |.so j,false,.nl 0,m=>match v5 m ⟨j,none⟩with|some m=>some ([],m)|none=>none
 |.so j,false,.x (.sl _) v,m=>bif Sl.fM v then(match v5 m ⟨j,none⟩with|some m=>some ([],m)|none=>none)else none
 |.sr j,false,.sr id,m=>match v5 m ⟨j,some id⟩with|some m=>some ([],m)|none=>none
 |.om j,false,.om id,m=>match v5 m ⟨j,some id⟩with|some m=>some ([],m)|none=>none
 |.op j t p,false,.op id u q,m=>bif decide (u=t)&&decide (Do q=some p)then(match v5 m ⟨j,some id⟩with|some m=>some ([],m)|none=>none)else none
 |.nl k,false,.nl k',m=>bif k==k' then some ([],m)else none
 |.fn z f l,false,.fn z' f' l',m=>bif(z==z')&&(f==f')then dz l true l' m else none
 |.rc l,false,.rc l',m=>dz l true l' m
 |.rc l,false,.x (.st t) v,m=>dz l true (HF t v) m
 |.ni,true,.ni,m=>some ([],m)
 |.co a r,true,.co x y,m=>match dz a false x m with|some (l,m)=>(match dz r true y m with|some (l',m)=>some (l++l',m)|none=>none)|none=>none
 |_,_,_,_=>none
def Bo(s:S2):List (Nat×JV)->List Bd->Option (List V×List Bd)
 |[],m=>some ([],m)
 |(t,a)::r,m=>match Jl s.dH s.heap (.tmp t)with|some v=>(match dz a false v m with|some (l,m)=>(match Bo s r m with|some (l',m)=>some (l++l',m)|none=>none)|none=>none)|none=>none
def LG(h:H2)(j:Nat)(o:JO)(m:List Bd):Option (List V×List Bd):=
 match LL m j with
 |some b=>(match o,b.id with
  |.ar t,none=>bif CB t then some ([.x (.sl t) Sl.nil],m)else none
  |.ar t,some id=>(match fO h id with|some (.ar u s _)=>(match gH (.sl u) (.sl t) s with|some s=>some ([.x (.sl t) s],m)|none=>none)|_=>none)
  |.rw t,some id=>(match fO h id with|some (.rw u s none)=>(match gH (.sl (.sl u)) (.sl (.sl t)) s with|some s=>some ([.x (.sl (.sl t)) s],m)|none=>none)|_=>none)
  |.bx t c,some id=>(match fO h id with|some (.bx u v)=>bif decide (u=t)then dz c false v m else none|_=>none)
  |.mp k v,some id=>(match fO h id with|some (.mp k' v' y)=>(match gH (.mp k' v') (.mp k v) y with|some y=>some ([.x (.mp k v) y],m)|none=>none)|_=>none)
  |_,_=>none)
 |none=>none
def Bp(h:H2):List JO->Nat->List Bd->Option (List V×List Bd)
 |[],_,m=>some ([],m)
 |o::r,j,m=>match LG h j o m with|some (l,m)=>(match Bp h r (j+1) m with|some (l',m)=>some (l++l',m)|none=>none)|none=>none
def sK:V->V->Bool
 |.so i,.so j=>i==j
 |.sr i,.sr j=>i==j
 |.op i t [],.op j u []=>(i==j)&&decide (t=u)
 |.nl k,.nl l=>k==l
 |.gn,.gn=>true
 |_,_=>false
def yE:V->V->Bool
 |.ni,.ni=>true
 |.co a r,.co x y=>sK a x&&yE r y
 |_,_=>false
def qv(h:H2):JV->V->V->List Bd->Option (List V×List Bd)
 |.sm,g0,g,m=>bif yE g0 g then some ([],m)else none
 |.ni,.ni,.ni,m=>some ([],m)
 |.co a r,.co x0 y0,.co x y,m=>match a with|.sm=>bif sK x0 x then qv h r y0 y m else none|.gn=>qv h r y0 y m|a=>bif ir h x then(match dz a false x m with|some (l,m)=>(match qv h r y0 y m with|some (l',m)=>some (l++l',m)|none=>none)|none=>none)else none
 |_,_,_,_=>none
def Ar:List (Nat×JV)->S2->S2
 |[],s=>s
 |(t,.so _)::r,s=>(match cz s.dH t with
  |some (.sb id ver _ u x)=>(match fO s.heap id with
   |some (.ar _ _ v)=>bif kL u&&v==ver then Ar r ⟨(t,.so s.next)::s.dH,(s.next,some (.ar u x 0))::(id,none)::s.heap,s.next+1,s.next::id::s.wo,s.gh⟩else Ar r s
   |_=>Ar r s)
  |_=>Ar r s)
 |_::r,s=>Ar r s
def Br(j:J)(s0:S2)(s:S2):Option (List V):=
 match Bo s j.vs []with
 |some (l1,m)=>match qv s.heap j.gs s0.gh s.gh m with
  |some (l2,m)=>(match Bp s.heap j.os 0 m with
   |some (l3,m)=>bif s.wo.all (fun i=>i_ s0.next i||j.kl.contains i)&&m.all (fun b=>Nat.blt b.j j.os.length&&(match b.id with|some i=>i_ s0.next i||j.kl.contains i|none=>true))then some (l1++(l2++l3))else none
   |none=>none)
  |none=>none
 |none=>none
def xO(j:J)(s0:S2)(s:S2):Option (List V):=match Ar j.vs s with|⟨e,h,n,w,g⟩=>Br j s0 ⟨e,h,n,w,g⟩
def iR(b:Nat):JV->Bool->List V->V->Option (V×List V)
 |.x t,false,.x u v::l,_=>bif decide (u=t)&&kL u then some (.x u v,l)else none
 |.pt t,false,.x u v::l,_=>bif decide (u=t)&&kL u then some (.pt u v,l)else none
 |.so j,false,l,_=>some (.so (b+j),l)
 |.sr j,false,l,_=>some (.sr (b+j),l)
 |.om j,false,l,_=>some (.om (b+j),l)
 |.op j t p,false,l,_=>some (.op (b+j) t (p.map .fd),l)
 |.nl k,false,l,_=>some (.nl k,l)
 |.fn z f c,false,l,_=>match iR b c true l .ni with|some (w,l)=>some (.fn z f w,l)|none=>none
 |.rc c,false,l,_=>match iR b c true l .ni with|some (w,l)=>some (.rc w,l)|none=>none
 |.ni,true,l,_=>some (.ni,l)
 |.co a r,true,l,.co x y=>match iR b a false l x with|some (v,l)=>(match iR b r true l y with|some (w,l)=>some (.co v w,l)|none=>none)|none=>none
 |.co a r,true,l,_=>match iR b a false l .gn with|some (v,l)=>(match iR b r true l .ni with|some (w,l)=>some (.co v w,l)|none=>none)|none=>none
 |.sm,_,l,v=>some (v,l)
 |.gn,false,l,_=>some (.gn,l)
 |_,_,_,_=>none
def GT(b:Nat):List (Nat×JV)->List V->Option (List (Nat×V)×List V)
 |[],l=>some ([],l)
 |(t,a)::r,l=>match iR b a false l .gn with|some (v,l)=>(match GT b r l with|some (e,l)=>some ((t,v)::e,l)|none=>none)|none=>none
def Fk(b:Nat):JO->List V->Option (O×List V)
 |.ar t,.x (.sl u) v::l=>bif decide (u=t)then some (.ar u v 0,l)else none
 |.rw t,.x (.sl (.sl u)) v::l=>bif decide (u=t)&&CB t then some (.rw u v none,l)else none
 |.bx t c,l=>match iR b c false l .gn with|some (w,l)=>bif eG w false t then some (.bx t w,l)else none|none=>none
 |.mp k v,.x (.mp k' v') m::l=>bif decide (k'=k)&&decide (v'=v)then some (.mp k' v' m,l)else none
 |_,_=>none
def C7(b:Nat):List JO->Nat->List V->Option (H2×List V)
 |[],_,l=>some ([],l)
 |o::r,j,l=>match Fk b o l with|some (o,l)=>(match C7 b r (j+1) l with|some (h,l)=>some ((b+j,some o)::h,l)|none=>none)|none=>none
def uY(j:J)(ds:List Nat)(s0:S2)(l:List V):Option S2:=
 match GT s0.next j.vs l with
 |some (e,l)=>(match iR s0.next j.gs true l s0.gh with
  |some (g,l)=>(match C7 s0.next j.os 0 l with
   |some (h,_)=>some ⟨e++ds.map (fun t=>(t,V.gn))++s0.dH,h++j.kl.map (fun i=>(i,none))++s0.heap,s0.next+j.os.length,h.map (·.1)++j.kl++s0.wo,g⟩
   |none=>none)
  |none=>none)
 |none=>none
abbrev Ex:=List (sR×J)
@[reducible] def EG:Ex->Type
 |[]=>Empty
 |(_,j)::r=>LW j r
where LW:J->Ex->Type
 |j,[]=>rg (qu j)
 |j,(_,j')::r=>rg (qu j)⊕LW j' r
def KY(s0:S2)(o:sR)(s:S2):(o':sR)->(j:J)->(r:Ex)->Option (EG.LW j r)
 |o',j,[]=>bif decide (o=o')then(match xO j s0 s with|some l=>wq (qu j) l|none=>none)else none
 |o',j,(o2,j2)::r=>bif decide (o=o')then(match xO j s0 s with|some l=>(match wq (qu j) l with|some p=>some (.inl p)|none=>none)|none=>none)
  else(match KY s0 o s o2 j2 r with|some x=>some (.inr x)|none=>none)
def IC(s0:S2)(o:sR)(s:S2):(e:Ex)->Option (EG e)
 |[]=>none
 |(o',j)::r=>KY s0 o s o' j r
def ON{β:Type}(ds:List Nat)(s0:S2)(k:sR->S2->Option β):(o:sR)->(j:J)->(r:Ex)->EG.LW j r->Option β
 |o,j,[],p=>match uY j ds s0 (px (qu j) p)with|some s=>k o s|none=>none
 |o,j,(o2,j2)::r,x=>match x with|.inl p=>(match uY j ds s0 (px (qu j) p)with|some s=>k o s|none=>none)|.inr y=>ON ds s0 k o2 j2 r y
def JY{β:Type}(ds:List Nat)(s0:S2)(k:sR->S2->Option β):(e:Ex)->EG e->Option β
 |[],x=>nomatch x
 |(o,j)::r,x=>ON ds s0 k o j r x
inductive C2 where
 |skip
 |MD (ops:List OP) (dr:Option (List (Nat×Nat))) (jn:Option J)
 |seq (a b:C2) (e:Ex)
 |cond (c:Operand) (a b:C2)
 |block (id:Nat) (a:C2)
 |loop (j:J) (e:Ex) (a:C2)
 |exit (id:Nat)
 |ret
 |gi
 deriving Inhabited
def mU:C2->List Nat
 |.MD ops _ _=>ops.filterMap (·.o.dst)
 |.seq a b _|.cond _ a b=>mU a++mU b
 |.block _ a|.loop _ _ a=>mU a
 |_=>[]
def KS:K->Bool
 |.lookup _ _ _ _ _=>true
 |_=>false
def NS(ops:List OP)(tr:Jo)(i j:Nat):Bool:=
 match ops[i]?,tr[i]?with
 |some o,some ([id],[])=>KS o.o.k&&((tr.take j).drop (i+1)).all (fun x=>!x.2.contains id)
 |_,_=>false
def PA(ops:List OP)(tr:Jo)(dyn:List (Nat×Nat)):Bool:=
 dyn.all fun p=>bif i_ 1000 p.2 then(match tr[p.1]?,tr[p.2-1000]?with|some a,some b=>mm a b||NS ops tr p.1 (p.2-1000)|_,_=>true)
  else(match tr[p.1]?,tr[p.2]?with|some a,some b=>mm a b|_,_=>true)
def PY(s:S2)(id:Nat):Option S2:=
 match fO s.heap id with
 |some (.rw t v (some (m,id2)))=>(match fO s.heap id2 with
  |some (.ar u r _)=>(match gH (.sl u) (.sl t) r with
   |some r=>some (eB (eB s id2 none) id (some (.rw t (.mk (v.l.set m r)) none)))
   |none=>none)
  |_=>none)
 |_=>some s
def Cv:List Nat->S2->Option S2
 |[],s=>some s
 |id::r,s=>match PY s id with|some s=>Cv r s|none=>none
def PZ(s s':S2):Option S2:=Cv (s'.wo.take (s'.wo.length-s.wo.length)) s'
def Hh{β:Type}(tb:EF)(ops:List OP)(dr:Option (List (Nat×Nat)))(s:S2)(k:S2->Option β):Option β:=match dr with|none=>nq tb none ops 0 s ⟨[],[]⟩ [] fun s' _=>(PZ s s').bind k|some dyn=>nq tb (some s.next) ops 0 s ⟨[],[]⟩ [] fun s' tr=>bif PA ops tr dyn then(PZ s {s' with next:=s.next+iS*ops.length}).bind k else none
def xM{β:Type}(tb:EF):C2->S2->(sR->S2->Option β)->Option β
 |.skip,s,k=>k .normal s
 |.MD ops dr none,s,k=>Hh tb ops dr s fun s=>k .normal s
 |.MD ops dr (some j),s,k=>(Hh tb ops dr {s with wo:=[]} fun s'=>match xO j s s' with|some l=>wq (qu j) l|none=>none).bind fun p=>match uY j (ops.filterMap (·.o.dst)) s (px (qu j) p)with|some s=>k .normal s|none=>none
 |.seq a b [],s,k=>xM tb a s fun o s=>match o with|.normal=>xM tb b s k|o=>k o s
 |.seq a b (e::r),s,k=>(xM tb a {s with wo:=[]} fun o s'=>IC s o s' (e::r)).bind fun x=>JY (mU a) s (fun o s=>match o with|.normal=>xM tb b s k|o=>k o s) (e::r) x
 |.cond c a b,s,k=>(match Jl s.dH s.heap c with
  |some (.kb t)=>bif t then xM tb a s k else xM tb b s k
  |some (.x .b t)=>bif t then xM tb a s k else xM tb b s k
  |_=>none)
 |.block id a,s,k=>xM tb a s fun o s=>match o with|.exit i=>k (bif i==id then .normal else .exit i) s|o=>k o s
 |.loop j e a,s,k=>
  bif e.all (fun x=>j.kl.all fun i=>x.2.kl.contains i)then(match xO j s {s with wo:=[]}with
  |some l=>(match wq (qu j) l with
   |some p0=>(bc (fun p=>match uY j (mU a) s (px (qu j) p)with
     |some s1=>xM tb a {s1 with wo:=[]} fun o s'=>(match o with
      |.normal=>(match xO j s s' with|some l=>(match wq (qu j) l with|some q=>some (Sum.inl q)|none=>none)|none=>none)
      |o=>(match IC s o s' e with|some x=>some (Sum.inr x)|none=>none))
     |none=>none) p0).bind fun x=>JY (mU a) s k e x
   |none=>none)
  |none=>none)else none
 |.exit id,s,k=>k (.exit id) s
 |.ret,s,k=>k .ret s
 |.gi,_,_=>none
def eM(P:Program):Nat->TypeId->Ty
 |0,_=>.o 9
 |n+1,t=>match P.underlying t with|some (.int k)=>.i k|some .bool=>.b|some .string=>.s|some (.float k)=>.f k|some (.slice e)=>.sl (eM P n e)|some (.map k v)=>.mp (eM P n k) (eM P n v)|some (.struct fs)=>.st (QW (fs.toList.map fun f=>eM P n f.type))|some (.array m e)=>.ar m (eM P n e)|some (.pointer _)=>.o 1|some (.func ..)=>.o 2|_=>.o 4
where QW:List Ty->Ty
 |[]=>.un
 |[t]=>t
 |t::r=>.pr t (QW r)
def IX:Nat:=12
def Px(P:Program)(t:TypeId):Ty:=match P.underlying t with|some (.slice e)=>eM P IX e|some (.array _ e)=>eM P IX e|_=>.o 9
def N3(P:Program):Op->Ty×List Nat
 |.alloc e=>(eM P IX e,[])
 |.box t _=>(eM P IX t,[])
 |.build t parts=>(eM P IX t,parts.toList.map (·.1))
 |.buildSlice t _ parts=>(Px P t,parts.toList.map (·.1))
 |.fieldAddr _ _ f=>(.o 9,[f])
 |.field _ _ f=>(.o 9,[f])
 |.makeSlice t _ _=>(Px P t,[])
 |.makeMap t _=>(eM P IX t,[])
 |.call c=>(match c.callee,c.argTypes.toList with|.builtin _,t::_=>Px P t|_,_=>.o 9,[])
 |_=>(.o 9,[])
def OV(P:Program)(cH:Bz)(nt:Nat)(all:Array Oper)(o:Oper):OP:=⟨gw P cH nt all o,(N3 P o.op).1,(N3 P o.op).2⟩
structure An where
 j:Option J:=none
 e:Ex:=[]
 deriving Inhabited
def qi(P:Program)(cH:Bz)(nt:Nat)(an:List (Nat×An)):Code->Nat->C2×Nat
 |.skip,n=>(.skip,n)
 |.region _ ops draw,n=>
  (if draw then(if yU (LR ops.toList []) ops.toList 0&&yC (LR ops.toList []) (ops.toList.map (gw P cH nt ops)) 0&&decide (ops.toList.length<=1000)
   then .MD (ops.toList.map (OV P cH nt ops)) (some (tO (LR ops.toList []) (ops.toList.map (gw P cH nt ops)) 0)) ((cz an n).bind (·.j))else .gi)
   else .MD (ops.toList.map (OV P cH nt ops)) none ((cz an n).bind (·.j)),n+1)
 |.seq a b,n=>
  let x:=qi P cH nt an a (n+1);let y:=qi P cH nt an b x.2
  (.seq x.1 y.1 (match cz an n with|some w=>w.e|none=>[]),y.2)
 |.cond c a b,n=>let x:=qi P cH nt an a n;let y:=qi P cH nt an b x.2;(.cond c x.1 y.1,y.2)
 |.block id a,n=>let x:=qi P cH nt an a n;(.block id x.1,x.2)
 |.loop a,n=>
  let x:=qi P cH nt an a (n+1)
  (match cz an n with|some ⟨some j,e⟩=>.loop j e x.1|_=>.gi,x.2)
 |.scope a,n=>qi P cH nt an a n
 |.label _,n=>(.skip,n)
 |.exit id,n=>(.exit id,n)
 |.ret,n=>(.ret,n)
 |_,n=>(.gi,n)
structure F2 where
 np:Nat
 k8:List RV
 body:C2
def Bm(P:Program)(cH:Bz)(f np:Nat)(an:List (Nat×An)):Option F2:=
 match P.funcs[f]?with
 |none=>none
 |some g=>
  match g.body with
  |none=>none
  |some code=>
   if(g.name== "runtime.NumGoroutine")=false/\np<=g.ntmps/\g.ntmps<1000000000 then
    match AL P g.results.toList with|some k8=>some ⟨np,k8,(qi P cH g.ntmps an code 0).1⟩|none=>none
   else none
def CM:Sh->List V->Option (V×List V)
 |.ni,l=>some (.ni,l)
 |.pr (.pt t) c,.x u v::l=>bif decide (u=t)&&kL t then(match CM c l with|some (w,l)=>some (.co (.pt u v) w,l)|none=>none)else none
 |_,_=>none
def tN:List (Bool×Sh)->Nat->List V->S2->Option (List (Nat×V)×S2)
 |[],_,[],s=>some ([],s)
 |(false,.x t)::r,i,.x u v::l,s=>bif decide (u=t)&&kL t then(match tN r (i+1) l s with|some (e,s)=>some ((i,.x u v)::e,s)|none=>none)else none
 |(false,.pt t)::r,i,.x u v::l,s=>bif decide (u=t)&&kL t then(match tN r (i+1) l s with|some (e,s)=>some ((i,.pt u v)::e,s)|none=>none)else none
 |(false,.nl k)::r,i,l,s=>(match tN r (i+1) l s with|some (e,s)=>some ((i,.nl k)::e,s)|none=>none)
 |(false,.fn f c)::r,i,l,s=>(match CM c l with|some (w,l)=>(match tN r (i+1) l s with|some (e,s)=>some ((i,.fn true f w)::e,s)|none=>none)|none=>none)
 |(true,c)::r,i,l,s=>(match rN c false l s with
  |some (w,l,s)=>(match tN r (i+1) l s with|some (e,s)=>some ((i,w)::e,{s with gh:=.co w s.gh})|none=>none)
  |none=>none)
 |_,_,_,_=>none
def Pw(ps:List (Bool×Sh))(l:List V):Option S2:=
 match tN ps 0 l ⟨[],[],0,[],.ni⟩with
 |some (e,s)=>some {s with dH:=e}
 |none=>none
def MA(s:S2):RV->Option V
 |.tmp t=>Jl s.dH s.heap (.tmp t)
 |.cell t g n=>match Jl s.dH s.heap (.tmp t)with|some p=>(match zd s.heap p with|some (w,_)=>bif Gv s.heap g n w then some w else none|none=>none)|none=>none
def MB(h:H2):Sh->V->Option (List V×List Nat)
 |.x t,v=>match jg h v with|some (w,l)=>(match ul t w with|some y=>some ([.x t y],l)|none=>none)|none=>none
 |.os t,.sb id _ _ u r=>(match fO h id with|some (.ar _ _ _)=>(match gH (.sl u) (.sl t) r with|some s=>some ([.x (.sl t) s],[id])|none=>none)|_=>none)
 |c,v=>ed h c false v
def Ss(h:H2):Sh->V->Option (List V×List Nat)
 |.gn,_=>some ([],[])
 |c,v=>bif ir h v then ed h c false v else none
def AO(h:H2):List Sh->List V->Option (List V×List Nat)
 |[],[]=>some ([],[])
 |c::r,v::vs=>match MB h c v,AO h r vs with|some (l,i),some (m,j)=>some (l++m,i++j)|_,_=>none
 |_,_=>none
def AN(h:H2):List Sh->List V->Option (List V×List Nat)
 |[],[]=>some ([],[])
 |c::r,v::vs=>match Ss h c v,AN h r vs with|some (l,i),some (m,j)=>some (l++m,i++j)|_,_=>none
 |_,_=>none
def MY{α β:Type}(f:α->Option β):List α->Option (List β)
 |[]=>some []
 |a::r=>match f a,MY f r with|some x,some y=>some (x::y)|_,_=>none
def IM(k8:List RV)(rs os:List Sh)(s:S2):Option (List V):=
 match MY (MA s) k8 with
 |some vs=>match AO s.heap rs vs,AN s.heap os (AD s.gh)with|some (l,i),some (m,j)=>bif yX (i++j)then some (l++m)else none|_,_=>none
 |none=>none
def IN(k8:List RV)(s:S2):(r o:List Sh)->(w:Wy)->Option (v9.GF r o w)
 |r,o,[]=>match IM k8 r o s with|some l=>wq (gT r++gT o) l|none=>none
 |r,o,(r',o')::w=>match IM k8 r o s with|some l=>(match wq (gT r++gT o) l with|some z=>some (.inl z)|none=>none)|none=>(match IN k8 s r' o' w with|some z=>some (.inr z)|none=>none)
def Nf(k8:List RV)(s:S2):(w:Wy)->Option (v9 w)
 |[]=>none
 |(r,o)::w=>IN k8 s r o w
def QK(tb:EF)(F:Option F2)(ps:List (Bool×Sh))(al:Wy)(p:rg (gT (ps.map (·.2)))):Option (v9 al):=
 match F with
 |some F=>
  match Pw ps (px _ p)with
  |some s=>xM tb F.body s fun o s=>match o with|.exit _=>none|_=>Nf F.k8 s al
  |none=>none
 |none=>none
theorem iv{α β:Type}{f:α->List β}{n:Nat}(h:∀a,(f a).length=n)(l:List α):(l.flatMap f).length=l.length*n:=by induction l with|nil=>simp|cons a l ih=>simp[bf,h,ih,b_];omega
theorem bV:∀(t:Ty)(v:El t),(a_ t v).length=ce t:=by intro t;induction t with|pr a c iha ihc=>intro v;simp[a_,ce,iha,ihc]|st t ih=>intro v;simp[a_,ce,ih]|ar n t ih=>intro v;rw[a_,iv ih,v.2];rfl|_=>intro v;rfl
theorem zx{α β:Type}[Inhabited α]{f:α->List β}{n:Nat}(h:∀a,(f a).length=n):∀(l:List α)(k:Nat),k<l.length->((l.flatMap f).drop (k*n)).take n=f (gt l k):=by
 intro l;induction l with
 |nil=>intro k hk;simp at hk
 |cons a l ih=>
  intro k hk;cases k with
  |zero=>simp[gt,h]
  |succ k=>
   have e:(k+1)*n=(f a).length+k*n:=by rw[h,b_];omega
   rw[bf,e,<-dO,eA (aw _),dp,bw,ih k (by simpa using hk)];rfl
theorem Lj{α β:Type}{f:α->List β}{n:Nat}(h:∀a,(f a).length=n):∀(l:List α)(k:Nat)(x:α),k<l.length->(l.set k x).flatMap f=bg (l.flatMap f) (k*n) (f x):=by
 intro l;induction l with
 |nil=>intro k x hk;simp at hk
 |cons a l ih=>
  intro k x hk;cases k with
  |zero=>
   simp only[List.set_cons_zero,bf,bg,Nat.zero_mul,List.take_zero,bw,Nat.zero_add,h];have:(f a++l.flatMap f).drop n=l.flatMap f:=by rw[<-h a,eA (aw _),dp,bw]
   rw[this]
  |succ k=>
   have e:(k+1)*n=(f a).length+k*n:=by rw[h,b_];omega
   simp only[List.set_cons_succ,bf,bg,e,List.take_length_add_append,db];rw[<-dO,eA (aw _),dp,bw,ih k x (by simpa using hk)];simp[bg]
theorem dq{t u:Ty}{v:El t}{y:El u}(h:gH t u v=some y):∃e:t=u,y=e▸v:=by
 unfold gH at h;split at h
 .rename_i e;exact⟨e,(aa h).symm⟩
 .simp at h
theorem w6{t u:Ty}{v:El t}{y:El u}(h:gH t u v=some y):a_ u y=a_ t v/\t=u:=by obtain⟨rfl,rfl⟩:=dq h;exact⟨rfl,rfl⟩
theorem rC:∀(t:Ty)(v:El t)(i:Nat)(w:V),Ao t v i=some w->∃u y,w=.x u y/\CF t i=some u/\pu t i+ce u<=ce t/\((a_ t v).drop (pu t i)).take (ce u)=a_ u y:=by
 intro t;induction t with
 |pr a c iha ihc=>intro v i w h;cases i with|zero=>obtain rfl:=aa h;refine⟨a,v.1,rfl,rfl,by simp[pu,ce],?_⟩;simp[pu,a_,bV]|succ i=>obtain⟨u,y,rfl,h1,h2,h3⟩:=ihc v.2 i w h;refine⟨u,y,rfl,h1,by simp only[pu,ce];omega,?_⟩;simp only[pu,a_];rw[<-dO,<-bV a v.1,eA (aw _),dp,bw,h3]
 |_=>intro v i w h;cases i with|zero=>obtain rfl:=aa h;exact⟨_,v,rfl,rfl,by simp[pu],by simp[pu,eI,bV]⟩|succ i=>simp[Ao]at h
theorem Pm:∀(t:Ty)(i:Nat)(u:Ty),CF t i=some u->pu t i+ce u<=ce t:=by
 intro t;induction t with
 |pr a c iha ihc=>intro i u h;cases i with|zero=>obtain rfl:=aa h;simp[pu,ce]|succ i=>have:=ihc i u h;simp only[pu,ce];omega
 |_=>intro i u h;cases i with|zero=>obtain rfl:=aa h;simp[pu]|succ i=>simp[CF]at h
theorem t6{α:Type}{a b p:List α}{off:Nat}:bg (a++b) (a.length+off) p=a++bg b off p:=by simp only[bg,List.take_length_add_append,db,aH];rw[<-dO,eA (aw _),dp,bw]
theorem t5{α:Type}{a b p:List α}{off:Nat}(h:off+p.length<=a.length):bg (a++b) off p=bg a off p++b:=by simp only[bg,aH];rw[List.take_append_of_le_length (by omega),eA h]
theorem mJ{α:Type}{b p:List α}(h:p.length=b.length):bg b 0 p=p:=by simp[bg,h]
theorem uT{α:Type}{b p:List α}{off:Nat}(h:off+p.length<=b.length):(bg b off p).length=b.length:=by simp only[bg,ap,List.length_take,List.length_drop];omega
theorem uS{α β:Type}{f:α->β}{b p:List α}{off:Nat}:(bg b off p).map f=bg (b.map f) off (p.map f):=by simp[bg]
theorem qR{α:Type}{b c p:List α}{o1 o2 n:Nat}(hc:(b.drop o1).take n=c)(h1:o1+n<=b.length)(h2:o2+p.length<=n):bg b o1 (bg c o2 p)=bg b (o1+o2) p:=by
 have hcl:c.length=n:=by rw[<-hc];simp;omega
 have e:b=b.take o1++(c++b.drop (o1+n)):=by rw[<-hc,<-dO,List.take_append_drop,List.take_append_drop]
 have hl:(b.take o1).length=o1:=by simp;omega
 have hs:(bg c o2 p).length=n:=by rw[uT (by omega),hcl]
 have r2:bg b (o1+o2) p=b.take o1++(bg c o2 p++b.drop (o1+n)):=by
  conv=>lhs;rw[e]
  have:=t6 (a:=b.take o1) (b:=c++b.drop (o1+n)) (p:=p) (off:=o2);rw[hl]at this;rw[this,t5 (by omega)]
 rw[r2];show b.take o1++bg c o2 p++b.drop (o1+(bg c o2 p).length)=_;rw[hs,aH]
theorem IY:∀(t:Ty)(l r:List Value)(x:El t),vf t l=some (x,r)->l.all fB=true->∃p,l=p++r/\(a_ t x)=p.map D.lit:=by
 intro t;induction t with
 |pr a c iha ihc=>
  intro l r x h hp;simp only[vf]at h;split at h
  .rename_i y l1 h1;split at h
   .rename_i z l2 h2;obtain⟨rfl,rfl⟩:=ad (aa h);obtain⟨p,rfl,e1⟩:=iha _ _ _ h1 hp;obtain⟨q,rfl,e2⟩:=ihc _ _ _ h2 (by rw[List.all_append,ai]at hp;exact hp.2);exact⟨p++q,by simp,by simp[a_,e1,e2]⟩
   .simp at h
  .simp at h
 |st t ih=>intro l r x h hp;exact ih l r x h hp
 |ar n t ih=>
  intro l r x h hp;simp only[vf]at h
  have key:∀(m:Nat)(l r:List Value)(x:Arr m (El t)),Nm (vf t) m l=some (x,r)->l.all fB=true->∃p,l=p++r/\x.1.flatMap (a_ t)=p.map D.lit:=by
   intro m;induction m with
   |zero=>intro l r x h hp;obtain⟨rfl,rfl⟩:=ad (aa h);exact⟨[],rfl,rfl⟩
   |succ m ihn=>
    intro l r x h hp;simp only[Nm]at h;split at h
    .rename_i y l1 h1;split at h
     .rename_i v l2 h2;obtain⟨rfl,rfl⟩:=ad (aa h);obtain⟨p,rfl,e1⟩:=ih _ _ _ h1 hp;obtain⟨q,rfl,e2⟩:=ihn _ _ _ h2 (by rw[List.all_append,ai]at hp;exact hp.2);exact⟨p++q,by simp,by simp[bf,e1,e2]⟩
     .simp at h
    .simp at h
  exact key n l r x h hp
 |i k=>
  intro l r x h hp;simp only[vf]at h;unfold QR at h;split at h
  .split at h
   .rename_i e;subst e;obtain⟨rfl,rfl⟩:=ad (aa h);exact⟨[_],rfl,rfl⟩
   .simp at h
  .simp at h
 |b=>
  intro l r x h hp;simp only[vf]at h;unfold QS at h;split at h
  .obtain ⟨rfl,rfl⟩:=ad (aa h);exact⟨[_],rfl,rfl⟩
  .simp at h
 |s=>
  intro l r x h hp;simp only[vf]at h;unfold QP at h;split at h
  .obtain ⟨rfl,rfl⟩:=ad (aa h);exact⟨[_],rfl,rfl⟩
  .simp at h
 |f k=>
  intro l r x h hp;simp only[vf]at h;unfold N5 at h;split at h
  .split at h
   .rename_i e;subst e;obtain⟨rfl,rfl⟩:=ad (aa h);exact⟨[_],rfl,rfl⟩
   .simp at h
  .simp at h
 |sl t ih=>
  intro l r x h hp;simp only[vf]at h;unfold QQ at h;split at h
  .obtain ⟨rfl,rfl⟩:=ad (aa h);exact⟨[_],rfl,rfl⟩
  .simp at h
 |_=>intro l r x h hp;simp[vf]at h
def Cu(h:H2)(id ver:Nat):Bool:=match fO h id with|some (.ar _ _ v)|some (.im _ _ v)=>v==ver|_=>false
def Pf(id:Nat)(c:C):Prop:=∀i∈eP c,i=id
def e9(h:H2):V->List C->Prop
 |.x t v,cs=>kL t=true/\cs=(a_ t v).map .d
 |.kb c,cs=>cs=[.d (.lit (.bool c))]
 |.nl k,cs=>cs=[DJ k]
 |.so id,cs=>∃c,cs=[c]/\(∀c',AG id (fO h id)=some c'->c=c')/\Pf id c
 |.sr id,cs=>∃c,cs=[c]/\(∀c',EM id (fO h id)=some c'->c=c')/\Pf id c
 |.sb id ver lo t r,cs=>∃c,cs=[c]/\(Cu h id ver=true->c=yD id lo t r)/\Pf id c
 |.op id t p,cs=>cs=[.op id (mW t p)]
 |.ep id n t p,cs=>cs=[.ep id n (mW t p)]
 |.pt t v,cs=>kL t=true/\cs=[.d (.pt (a_ t v))]
 |.fn true f l,cs=>∃ds,rf l=some ds/\cs=[.d (.fn f ds)]
 |.fn false f l,cs=>∃xs,e9 h l xs/\cs=[.po f xs]
 |.om id,cs=>cs=[.om id]
 |.rc l,cs=>e9 h l cs
 |.fl l,cs=>l.all fB=true/\cs=fk l
 |.ni,cs=>cs=[]
 |.co a r,cs=>∃x y,cs=x++y/\e9 h a x/\e9 h r y
 |.tp _,_|.no,_|.gn,_=>False
def th(h:H2)(v:V)(x:TV):Prop:=∃cs,e9 h v cs/\(tW v=true->x=.agg cs)/\(tW v=false->∃c,cs=[c]/\x=.c c)
def BE(h:H2):V->List TV->Prop
 |.ni,xs=>xs=[]
 |.co a r,xs=>∃x ys,xs=x::ys/\th h a x/\BE h r ys
 |_,_=>False
def fX(h:H2):V->TV->Prop
 |.tp l,x=>∃xs,x=.iP xs/\BE h l xs
 |.no,x=>x=.iP []
 |.gn,_=>False
 |v,x=>th h v x
def TE(t u:Ty)(s:Sl (El t))(lo:Nat)(r:Sl (El u)):Prop:=ce t=ce u/\match s,r with|.nil,.nil=>True|.mk l,.mk m=>lo+m.length<=l.length/\((l.map (a_ t)).drop lo).take m.length=m.map (a_ u)|_,_=>False
def eY(n:Nat)(h:H2):V->Prop
 |.so id|.sr id|.om id=>id<n
 |.sb id ver lo t r=>id<n/\∀u s v,(fO h id=some (.ar u s v)\/fO h id=some (.im u s v))->ver<=v/\(v=ver->TE u t s lo r)
 |.op id t p=>id<n/\Im t p
 |.ep id m t p=>id<n/\Im t p/\(∀u s v,(fO h id=some (.ar u s v)\/fO h id=some (.im u s v))->m<s.l.length)/\∀u s v,fO h id=some (.rw u s v)->m<s.l.length
 |.fn _ _ l|.rc l|.tp l=>eY n h l
 |.co a r=>eY n h a/\eY n h r
 |_=>True
def vK(h:H2):O->Option Ob->Prop
 |.ar t s _,b=>kL t=true/\0<ce t/\(∀l,s=.mk l->b=some (.aP (ce t) (l.map (a_ t))))
 |.im t s _,b=>kL t=true/\0<ce t/\(∀l,s=.mk l->b=some (.qc (ce t) (l.map (a_ t))))
 |.bx t c,b=>∃cs,b=some (.box cs)/\e9 h c cs/\eG c false t=true
 |.ib t v,b=>kL t=true/\b=some (.oV (a_ t v))
 |.mp k v m,b=>kL v=true/\(∃ks,DY k=some ks)/\b=EO (nB k) (nB v) (fun x=>(a_ k x).map fun|.lit y=>y|_=>.nilFunc) (a_ v) m
 |.rw t s ln,b=>kL t=true/\0<ce t/\(∀l,(s:Sl (Sl (El t)))=.mk l->b=some (.nst (ce t) (eR t l ln)))
def CD(n:Nat)(h:H2):O->Prop
 |.bx _ c=>eY n h c
 |.rw _ s (some (m,id))=>m<s.l.length/\id<n/\∀u r v,(fO h id=some (.ar u r v)\/fO h id=some (.im u r v))->r.fM=(gt s.l m).fM/\r.l.length=(gt s.l m).l.length
 |_=>True
structure HR(n:Nat)(h1:bM)(h2:H2):Prop where
 ob:∀id o,fO h2 id=some o->id<n/\vK h2 o (aC h1 id)/\CD n h2 o
abbrev L5(t:Ty)(s:Sl (El t)):(t:Ty)×Sl (El t):=⟨t,s⟩
abbrev TU(t:Ty)(s:El t):(t:Ty)×El t:=⟨t,s⟩
def NN(t u:Ty)(s:Sl (El t))(s':Sl (El u))(v v':Nat):Prop:=v<=v'/\t=u/\s.fM=s'.fM/\s.l.length=s'.l.length/\(v=v'->L5 t s=L5 u s')
def te:O->O->Prop
 |.ar t s v,.ar u s' v'|.ar t s v,.im u s' v'=>NN t u s s' v v'
 |.im t s v,.im u s' v'=>v=v'/\L5 t s=L5 u s'
 |.bx t _,.bx u _=>t=u
 |.bx _ _,.ib _ _=>True
 |.ib t v,.ib u w=>TU t v=TU u w
 |.mp _ _ _,.mp _ _ _=>True
 |.rw t s _,.rw u s' _=>t=u/\s.fM=s'.fM/\s.l.length=s'.l.length
 |_,_=>False
def s7:O->Bool
 |.bx _ _|.ib _ _=>true
 |_=>false
structure jp(n:Nat)(h h':H2):Prop where
 ob:∀id o',id<n->fO h' id=some o'->(∃o,fO h id=some o/\te o o')\/s7 o'=true
theorem NN.trans{t u w:Ty}{s:Sl (El t)}{s':Sl (El u)}{s2:Sl (El w)}{a b c:Nat}(h1:NN t u s s' a b)(h2:NN u w s' s2 b c):NN t w s s2 a c:=by obtain⟨a1,rfl,a3,a4,a5⟩:=h1;obtain⟨b1,rfl,b3,b4,b5⟩:=h2;refine⟨Nat.le_trans a1 b1,rfl,a3.trans b3,a4.trans b4,fun e=>?_⟩;have e1:a=b:=Nat.le_antisymm a1 (e▸b1);exact(a5 e1).trans (b5 (e1▸e))
theorem NN.Qz{t u:Ty}{s:Sl (El t)}{s':Sl (El u)}{a b:Nat}(h:a=b)(e:L5 t s=L5 u s'):NN t u s s' a b:=by subst h;obtain⟨rfl,e⟩:=jq e;cases e;exact⟨aw _,rfl,rfl,rfl,fun _=>rfl⟩
theorem te.refl(o:O):te o o:=by cases o<;>simp[te,NN]
theorem te.trans{a b c:O}(h1:te a b)(h2:te b c):te a c:=by
 cases a<;>cases b<;>simp only[te]at h1<;>first|exact h1.elim|skip
 all_goals(cases c<;>simp only[te]at h2|-<;>first|exact h2.elim|skip)
 .exact h1.trans h2
 .exact h1.trans h2
 .exact h1.trans (NN.Qz h2.1 h2.2)
 .exact ⟨h1.1.trans h2.1,h1.2.trans h2.2⟩
 .exact h1.trans h2
 .exact h1.trans h2
 .exact ⟨h1.1.trans h2.1,h1.2.1.trans h2.2.1,h1.2.2.trans h2.2.2⟩
theorem jp.refl(n:Nat)(h:H2):jp n h h:=⟨fun _ o _ h=>.inl ⟨o,h,te.refl o⟩⟩
theorem jp.trans{n n':Nat}{a b c:H2}(hn:n<=n')(h1:jp n a b)(h2:jp n' b c):jp n a c:=
 ⟨fun id o' hi ho=>by
  rcases h2.ob id o' (by omega) ho with⟨o1,h3,h4⟩|q
  .rcases h1.ob id o1 hi h3 with⟨o2,h5,h6⟩|q
   .exact .inl ⟨o2,h5,h6.trans h4⟩
   .exact .inr (by cases o1<;>simp[s7]at q<;>cases o'<;>simp[te]at h4<;>rfl)
  .exact .inr q⟩
theorem BJ{sz id:Nat}{α:Type}{e:α->List D}{s:Sl α}:Pf id (mx sz e id s):=by intro i hi;cases s with|nil=>simp[mx,eP]at hi|mk l=>simpa[mx,eP]using hi
theorem JJ{id lo:Nat}{t:Ty}{s:Sl (El t)}:Pf id (yD id lo t s):=by intro i hi;cases s with|nil=>simp[yD,eP]at hi|mk l=>simpa[yD,eP]using hi
section
variable{n n':Nat}{h h':H2}
theorem E_{t:Ty}{s s':Sl (El t)}{id:Nat}(h1:s.fM=s'.fM)(h2:s.l.length=s'.l.length):mx (ce t) (a_ t) id s=mx (ce t) (a_ t) id s':=by cases s<;>cases s'<;>simp_all[Sl.fM,mx]
theorem JD(hs:jp n h h'){id:Nat}(hi:id<n){c:C}(hc:AG id (fO h' id)=some c):AG id (fO h id)=some c:=by
 cases ho:fO h' id with
 |none=>rw[ho]at hc;simp[AG]at hc
 |some o'=>
  rw[ho]at hc;obtain⟨o,h1,h2⟩:=(hs.ob id o' hi ho).resolve_right fun e=>by cases o'<;>simp[s7]at e<;>simp[AG]at hc
  rw[h1];cases o'<;>simp only[AG]at hc<;>first|cases hc;done|skip
  all_goals(cases o<;>simp only[te]at h2<;>first|exact h2.elim|skip)
  .obtain ⟨_,rfl,h3,h4,_⟩:=h2;rw[<-hc];simp only[AG];rw[E_ h3 h4]
  .obtain ⟨_,rfl,h3,h4,_⟩:=h2;rw[<-hc];simp only[AG];rw[E_ h3 h4]
  .obtain ⟨_,h3⟩:=h2;obtain⟨rfl,h3⟩:=jq h3;cases h3;rw[<-hc];rfl
  all_goals simp at hc
theorem JC(hs:jp n h h'){id:Nat}(hi:id<n){c:C}(hc:EM id (fO h' id)=some c):EM id (fO h id)=some c:=by
 cases ho:fO h' id with
 |none=>rw[ho]at hc;simp[EM]at hc
 |some o'=>
  rw[ho]at hc;obtain⟨o,h1,h2⟩:=(hs.ob id o' hi ho).resolve_right fun e=>by cases o'<;>simp[s7]at e<;>simp[EM]at hc
  rw[h1];cases o'<;>simp only[EM]at hc<;>first|cases hc;done|skip
  all_goals(cases o<;>simp only[te]at h2<;>first|exact h2.elim|skip)
  .obtain ⟨rfl,h3,h4⟩:=h2;rw[<-hc];simp only[EM];exact congrArg some (E_ (t:=.sl _) h3 h4)
  all_goals simp at hc
theorem GR(hs:jp n h h'){id:Nat}(hi:id<n){u:Ty}{s:Sl (Sl (El u))}{ln:Option (Nat×Nat)}(ho:fO h' id=some (.rw u s ln)):∃s0 ln0,fO h id=some (.rw u s0 ln0)/\s0.fM=s.fM/\s0.l.length=s.l.length:=by
 obtain⟨o,h1,h2⟩:=(hs.ob id _ hi ho).resolve_right fun e=>by simp[s7]at e
 cases o<;>simp only[te]at h2<;>first|exact h2.elim|skip
 obtain⟨rfl,h3,h4⟩:=h2;exact⟨_,_,h1,h3,h4⟩
theorem JG(hs:jp n h h'){id:Nat}(hi:id<n){u:Ty}{s:Sl (El u)}{v:Nat}(ho:fO h' id=some (.ar u s v)\/fO h' id=some (.im u s v)):
  ∃s0 v0,(fO h id=some (.ar u s0 v0)\/fO h id=some (.im u s0 v0))/\s0.fM=s.fM/\s0.l.length=s.l.length:=by
 rcases ho with ho|ho
 all_goals
  obtain⟨o,h1,h2⟩:=(hs.ob id _ hi ho).resolve_right fun e=>by simp[s7]at e
  cases o<;>simp only[te]at h2<;>first|exact h2.elim|skip
 .obtain ⟨_,rfl,h3,h4,_⟩:=h2;exact⟨_,_,.inl h1,h3,h4⟩
 .obtain ⟨_,rfl,h3,h4,_⟩:=h2;exact⟨_,_,.inl h1,h3,h4⟩
 .obtain ⟨rfl,h3⟩:=h2;obtain⟨rfl,h3⟩:=jq h3;cases h3;exact⟨_,_,.inr h1,rfl,rfl⟩
theorem t7(hs:jp n h h'){id:Nat}(hi:id<n){u:Ty}{s:Sl (El u)}{v:Nat}(ho:fO h' id=some (.ar u s v)\/fO h' id=some (.im u s v)):
  ∃s0 v0,(fO h id=some (.ar u s0 v0)\/fO h id=some (.im u s0 v0))/\v0<=v/\s0.l.length=s.l.length/\(v0=v->s0=s):=by
 rcases ho with ho|ho
 all_goals
  obtain⟨o,h1,h2⟩:=(hs.ob id _ hi ho).resolve_right fun e=>by simp[s7]at e
  cases o<;>simp only[te]at h2<;>first|exact h2.elim|skip
 .obtain ⟨h3,rfl,_,h4,h5⟩:=h2;exact⟨_,_,.inl h1,h3,h4,fun e=>by have:=h5 e;simpa using this⟩
 .obtain ⟨h3,rfl,_,h4,h5⟩:=h2;exact⟨_,_,.inl h1,h3,h4,fun e=>by have:=h5 e;simpa using this⟩
 .obtain ⟨rfl,h3⟩:=h2;obtain⟨rfl,h3⟩:=jq h3;cases h3;exact⟨_,_,.inr h1,aw _,rfl,fun _=>rfl⟩
theorem lL{id ver:Nat}(ha:Cu h id ver=true):∃u s,fO h id=some (.ar u s ver)\/fO h id=some (.im u s ver):=by
 unfold Cu at ha;split at ha
 .rename_i u s v ho;obtain rfl:v=ver:=by simpa using ha
  exact⟨u,s,.inl ho⟩
 .rename_i u s v ho;obtain rfl:v=ver:=by simpa using ha
  exact⟨u,s,.inr ho⟩
 .simp at ha
theorem gK(hn:n<=n')(hs:jp n h h'):∀{v:V},eY n h v->eY n' h' v:=by
 intro v;induction v with
 |so id=>intro hv;simp only[eY]at hv|-;omega
 |sr id=>intro hv;simp only[eY]at hv|-;omega
 |om id=>intro hv;simp only[eY]at hv|-;omega
 |sb id ver lo t r=>
  rintro⟨h1,h2⟩;refine⟨by omega,fun u s v ho=>?_⟩;obtain⟨s0,v0,h3,h4,h5,h6⟩:=t7 hs h1 ho;obtain⟨h7,h8⟩:=h2 u s0 v0 h3;refine⟨by omega,fun e=>?_⟩;have e2:v0=ver:=by omega
  have:=h6 (by omega);subst this;exact h8 e2
 |op id t p=>rintro⟨h1,h2⟩;exact⟨by omega,h2⟩
 |ep id m t p=>
  rintro⟨h1,h2,h3,h6⟩;refine⟨by omega,h2,fun u s v ho=>?_,fun u s v ho=>?_⟩
  .obtain ⟨s0,v0,h4,_,h5,_⟩:=t7 hs h1 ho;have:=h3 u s0 v0 h4;omega
  .obtain ⟨s0,v0,h4,_,h5⟩:=GR hs h1 ho;have:=h6 u s0 v0 h4;omega
 |fn z f l ih=>intro hv;exact ih hv
 |rc l ih=>intro hv;exact ih hv
 |tp l ih=>intro hv;exact ih hv
 |co a r iha ihr=>rintro⟨h1,h2⟩;exact⟨iha h1,ihr h2⟩
 |_=>intro _;trivial
theorem lK(hs:jp n h h'):∀{v:V}{cs:List C},eY n h v->e9 h v cs->e9 h' v cs:=by
 intro v;induction v with
 |so id=>rintro cs hi ⟨c,rfl,hc,hid⟩;exact⟨c,rfl,fun c' hc'=>hc c' (JD hs hi hc'),hid⟩
 |sr id=>rintro cs hi ⟨c,rfl,hc,hid⟩;exact⟨c,rfl,fun c' hc'=>hc c' (JC hs hi hc'),hid⟩
 |sb id ver lo t r=>
  rintro cs ⟨hi,h2⟩ ⟨c,rfl,hc,hid⟩;refine⟨c,rfl,fun ha=>hc ?_,hid⟩;obtain⟨u,s,ho⟩:=lL ha;obtain⟨s0,v0,h3,h4,_,_⟩:=t7 hs hi ho;obtain⟨h7,_⟩:=h2 u s0 v0 h3;have:v0=ver:=by omega
  subst this;unfold Cu;rcases h3 with h3|h3<;>rw[h3]<;>simp
 |fn z f l ih=>intro cs hv hc;cases z with|true=>exact hc|false=>obtain⟨xs,h1,h2⟩:=hc;exact⟨xs,ih hv h1,h2⟩
 |rc l ih=>intro cs hv hc;exact ih hv hc
 |co a r iha ihr=>rintro cs ⟨h1,h2⟩ ⟨x,y,rfl,h3,h4⟩;exact⟨x,y,rfl,iha h1 h3,ihr h2 h4⟩
 |_=>intro cs _ hc;exact hc
theorem wn(hs:jp n h h'){v:V}{x:TV}(hv:eY n h v)(hx:th h v x):th h' v x:=by obtain⟨cs,h1,h2⟩:=hx;exact⟨cs,lK hs hv h1,h2⟩
theorem HC(hs:jp n h h'):∀{v:V}{xs:List TV},eY n h v->BE h v xs->BE h' v xs:=by intro v;induction v with|co a r iha ihr=>rintro xs ⟨h1,h2⟩ ⟨x,ys,rfl,h3,h4⟩;exact⟨x,ys,rfl,wn hs h1 h3,ihr h2 h4⟩|ni=>intro xs _ h;exact h|_=>intro xs _ h;exact h.elim
theorem vp(hs:jp n h h'){v:V}{x:TV}(hv:eY n h v)(hx:fX h v x):fX h' v x:=by cases v with|tp l=>obtain⟨xs,h1,h2⟩:=hx;exact⟨xs,h1,HC hs hv h2⟩|no=>exact hx|gn=>exact hx|_=>exact wn hs hv hx
theorem p7(hs:jp n h h'){o:O}{b:Option Ob}(ho:CD n h o)(hb:vK h o b):vK h' o b:=by cases o with|bx t c=>obtain⟨cs,h1,h2,h3⟩:=hb;exact⟨cs,h1,lK hs ho h2,h3⟩|_=>exact hb
theorem oO(hn:n<=n')(hs:jp n h h'){o:O}(ho:CD n h o):CD n' h' o:=by
 cases o with
 |bx t c=>exact gK hn hs ho
 |rw t s ln=>cases ln with|none=>trivial|some q=>obtain⟨m,id⟩:=q;obtain⟨h1,h2,h3⟩:=ho;refine⟨h1,Nat.lt_of_lt_of_le h2 hn,fun u r v hu=>?_⟩;obtain⟨s0,v0,h4,h5,h6⟩:=JG hs h2 hu;obtain⟨h7,h8⟩:=h3 u s0 v0 h4;exact⟨h5▸h7,h6▸h8⟩
 |_=>trivial
end
theorem iz{h:H2}:∀{v:V}{cs:List C},e9 h v cs->cs.length=yr v:=by
 intro v;induction v with
 |x t v=>rintro cs ⟨_,rfl⟩;simp[yr,bV]
 |so id=>rintro cs ⟨c,rfl,_⟩;rfl
 |sr id=>rintro cs ⟨c,rfl,_⟩;rfl
 |sb id ver lo t r=>rintro cs ⟨c,rfl,_⟩;rfl
 |pt t v=>rintro cs ⟨_,rfl⟩;rfl
 |fn z f l ih=>intro cs hc;cases z with|true=>obtain⟨ds,_,rfl⟩:=hc;rfl|false=>obtain⟨ds,_,rfl⟩:=hc;rfl
 |rc l ih=>intro cs hc;exact ih hc
 |fl l=>rintro cs ⟨_,rfl⟩;simp[fk,yr]
 |ni=>rintro cs rfl;rfl
 |co a r iha ihr=>rintro cs ⟨x,y,rfl,h1,h2⟩;simp[yr,iha h1,ihr h2]
 |tp l=>intro cs hc;exact hc.elim
 |no=>intro cs hc;exact hc.elim
 |gn=>intro cs hc;exact hc.elim
 |_=>rintro cs rfl;rfl
theorem gN:∀(v:V)(ln:Bool)(t:Ty),eG v ln t=true->yr v=ce t:=by
 intro v;induction v with
 |rc l ih=>
  intro ln t hf;cases ln with
  |true=>cases t<;>simp[eG]at hf
  |false=>cases t with|st t=>exact ih true t hf|_=>simp[eG]at hf
 |co a r iha ihr=>
  intro ln t hf;cases ln with
  |false=>simp[eG]at hf
  |true=>
   cases t with
   |pr t u=>simp only[eG,ai]at hf;simp[yr,ce,iha _ _ hf.1,ihr _ _ hf.2]
   |_=>cases r with|ni=>have hf':eG a false _=true:=hf;simp[yr,iha _ _ hf']|_=>simp[eG]at hf
 |x u v=>intro ln t hf;cases ln with|false=>simp only[eG,decide_eq_true_eq]at hf;subst hf;rfl|true=>cases t<;>simp[eG]at hf
 |nl k=>intro ln t hf;cases ln<;>cases t<;>first|rfl|(simp[eG]at hf;done)|skip
 |_=>intro ln t hf;cases ln<;>cases t<;>first|rfl|(simp[eG]at hf;done)
section
variable{h:H2}
theorem qk{v:V}{u:Ty}{y:El u}{cs:List C}(hc:ic u v=some y)(hv:e9 h v cs):cs=(a_ u y).map .d:=by
 cases v with
 |x t v=>obtain⟨rfl,rfl⟩:=dq hc;exact hv.2
 |kb c=>obtain⟨rfl,rfl⟩:=dq (t:=.b) hc;exact hv
 |nl k=>
  cases k with
  |zero=>
   cases u<;>simp only[ic]at hc<;>first|cases hc;done|skip
   obtain rfl:=aa hc;exact hv
  |succ k=>simp[ic]at hc
 |fl l=>
  obtain⟨h1,rfl⟩:=hv;simp only[ic]at hc;cases ha:nB u
  .rw [ha]at hc;simp at hc
  rw[ha,cond_true]at hc;split at hc
  .rename_i x hx;obtain rfl:=aa hc;obtain⟨p,rfl,e⟩:=IY u _ _ _ hx h1;rw[e];simp[fk]
  .simp at hc
 |_=>simp[ic]at hc
theorem iW:∀(v:V)(ln:Bool)(u:Ty)(y:El u)(cs:List C),kQ v ln u=some y->e9 h v cs->cs=(a_ u y).map .d:=by
 intro v;induction v with
 |rc l ih=>
  intro ln u y cs hc hv;cases ln with
  |true=>cases u<;>simp[kQ]at hc
  |false=>cases u with|st u=>exact ih true u y cs hc hv|_=>simp[kQ,ic]at hc
 |co a r iha ihr=>
  intro ln u y cs hc hv;obtain⟨x1,x2,rfl,h1,h2⟩:=hv;cases ln with
  |false=>cases u<;>simp[kQ,ic]at hc
  |true=>
   cases u with
   |pr t u=>
    simp only[kQ]at hc;split at hc
    .rename_i p q hp hq;obtain rfl:=aa hc;rw[iha _ _ _ _ hp h1,ihr _ _ _ _ hq h2];simp[a_]
    .simp at hc
   |_=>cases r with|ni=>have hc':kQ a false _=some y:=hc;obtain rfl:x2=[]:=h2;rw[bR];exact iha _ _ _ _ hc' h1|_=>simp[kQ]at hc
 |_=>
  intro ln u y cs hc hv;cases ln with
  |true=>cases u<;>simp[kQ]at hc
  |false=>first|exact qk hc hv|(simp[kQ]at hc)
theorem Er{v:V}{u:Ty}{y:El u}(hc:ic u v=some y):tW v=nB u:=by
 cases v with
 |x t v=>obtain⟨rfl,_⟩:=dq hc;rfl
 |kb c=>obtain⟨rfl,_⟩:=dq (t:=.b) hc;rfl
 |nl k=>
  cases k with
  |zero=>cases u<;>simp only[ic]at hc<;>first|rfl|cases hc
  |succ k=>simp[ic]at hc
 |fl l=>
  simp only[ic]at hc;cases ha:nB u
  .rw [ha]at hc;simp at hc
  .rfl
 |_=>simp[ic]at hc
theorem wY{v:V}{u:Ty}{y:El u}(hc:ul u v=some y):tW v=nB u:=by
 cases v with
 |rc l=>cases u with|st u=>rfl|_=>simp[ul,kQ,ic]at hc
 |co a r=>cases u<;>simp[ul,kQ,ic]at hc
 |ni=>cases u<;>simp[ul,kQ]at hc
 |_=>exact Er hc
theorem AY:∀(l:V)(t:Ty)(i:Nat)(w:V)(cs:List C),eG l true t=true->e9 h l cs->sS l i=some w->
  ∃u cw,CF t i=some u/\eG w false u=true/\e9 h w cw/\pu t i+ce u<=cs.length/\(cs.drop (pu t i)).take (ce u)=cw:=by
 intro l;induction l with
 |co a r iha ihr=>
  intro t i w cs hf hv hw;obtain⟨x,y,rfl,h1,h2⟩:=hv;have one:∀t,eG a false t=true->r=.ni->CF t 0=some t->pu t 0=0->i=0->∃u cw,CF t i=some u/\eG w false u=true/\e9 h w cw/\pu t i+ce u<=(x++y).length/\((x++y).drop (pu t i)).take (ce u)=cw:=by intro t hf hr h3 h4 hi;subst hi;obtain rfl:=aa hw;have hs:=gN _ _ _ hf;have hl:=iz h1;refine⟨t,x,h3,hf,h1,by rw[h4];simp;omega,?_⟩;rw[h4,ck,<-hs,<-hl,List.take_left]
  cases t with
  |pr t u=>simp only[eG,ai]at hf;have hs:=gN _ _ _ hf.1;have hl:=iz h1;cases i with|zero=>obtain rfl:=aa hw;refine⟨t,x,rfl,hf.1,h1,by simp[pu];omega,?_⟩;simp only[pu,ck];rw[<-hs,<-hl,List.take_left]|succ i=>obtain⟨u',cw,q1,q2,q3,q4,q5⟩:=ihr u i w y hf.2 h2 hw;refine⟨u',cw,q1,q2,q3,by simp only[pu,ap];omega,?_⟩;simp only[pu];rw[<-dO,<-hs,<-hl,List.drop_left,q5]
  |_=>
   cases r with
   |ni=>have hf':eG a false _=true:=hf;cases i with|zero=>exact one _ hf' rfl rfl rfl rfl|succ i=>simp[sS]at hw
   |_=>simp[eG]at hf
 |_=>intro t i w cs hf hv hw;simp[sS]at hw
theorem AR:∀(l:V)(t:Ty)(i:Nat)(w:V)(cs cw:List C)(u:Ty),eG l true t=true->e9 h l cs->CF t i=some u->e9 h w cw->cw.length=ce u->(∃w0,sS l i=some w0)->e9 h (JU l i w) (bg cs (pu t i) cw):=by
 intro l;induction l with
 |co a r iha ihr=>
  intro t i w cs cw u hf hv hu hw hlen hn;obtain⟨x,y,rfl,h1,h2⟩:=hv;cases t with
  |pr t u'=>simp only[eG,ai]at hf;have hs:=gN _ _ _ hf.1;have hl:=iz h1;cases i with|zero=>obtain rfl:=aa hu;refine⟨cw,y,?_,hw,h2⟩;simp only[pu];rw[t5 (by omega),mJ (by omega)]|succ i=>have:=ihr u' i w y cw u hf.2 h2 hu hw hlen hn;refine⟨x,_,?_,h1,this⟩;simp only[pu];rw[<-hs,<-hl,t6]
  |_=>
   cases r with
   |ni=>cases i with|zero=>obtain rfl:=aa hu;have hf':eG a false _=true:=hf;have hs:=gN _ _ _ hf';have hl:=iz h1;obtain rfl:y=[]:=h2;refine⟨cw,[],?_,hw,rfl⟩;simp only[pu,bR];rw[mJ (by omega)]|succ i=>obtain⟨w0,hn⟩:=hn;simp[sS]at hn
   |_=>simp[eG]at hf
 |_=>intro t i w cs cw u hf hv hu hw hlen hn;obtain⟨w0,hn⟩:=hn;simp[sS]at hn
theorem BF:∀(t:Ty)(v:El t),kL t=true->e9 h (HF t v) ((a_ t v).map .d):=by intro t;induction t with|pr a c iha ihc=>intro v hd;simp only[kL,ai]at hd;exact⟨(a_ a v.1).map .d,(a_ c v.2).map .d,by simp[a_],⟨hd.1,rfl⟩,ihc v.2 hd.2⟩|_=>intro v hd;exact⟨_,[],(bR _).symm,⟨hd,rfl⟩,rfl⟩
theorem Mj:∀(t:Ty)(v:El t),eG (HF t v) true t=true:=by intro t;induction t with|pr a c iha ihc=>intro v;simp[HF,eG,ihc]|_=>intro v;simp[HF,eG]
theorem Mi:∀(t:Ty)(v:El t)(i:Nat)(w:V),Ao t v i=some w->sS (HF t v) i=some w:=by
 intro t;induction t with
 |pr a c iha ihc=>intro v i w hw;cases i with|zero=>exact hw|succ i=>exact ihc v.2 i w hw
 |_=>intro v i w hw;cases i with|zero=>exact hw|succ i=>simp[Ao]at hw
theorem zI:∀(t:Ty)(i:Nat)(u:Ty),kL t=true->CF t i=some u->kL u=true:=by
 intro t;induction t with
 |pr a c iha ihc=>intro i u hd hu;simp only[kL,ai]at hd;cases i with|zero=>obtain rfl:=aa hu;exact hd.1|succ i=>exact ihc i u hd.2 hu
 |_=>intro i u hd hu;cases i with|zero=>obtain rfl:=aa hu;exact hd|succ i=>simp[CF]at hu
theorem wG:∀(p:qw)(t u:Ty),rM t p=some u->Im t p->mW t p+ce u<=ce t:=by
 intro p;induction p with
 |nil=>
  intro t u hu _;have e2:rM t []=some t:=by cases t<;>rfl
  have e:mW t []=0:=by cases t<;>rfl
  obtain rfl:t=u:=by rw[e2]at hu;exact aa hu
  omega
 |cons q p ih=>
  intro t u hu hp;cases q with
  |fd i=>cases t with|st t=>obtain⟨a,ha,hp⟩:=hp;simp only[rM,ha]at hu;have:=ih a u hu hp;have:=Pm t i a ha;simp only[mW,ha,ce];omega|_=>exact hp.elim
  |ix k=>cases t with|ar n t=>obtain⟨hk,hp⟩:=hp;have:=ih t u hu hp;have h2:(k+1)*ce t<=n*ce t:=aO _ hk;rw[b_]at h2;simp only[mW,ce];omega|_=>exact hp.elim
theorem wS:∀(p:qw)(c:V)(t:Ty)(w:V)(cs:List C),eG c false t=true->e9 h c cs->Im t p->qf c p=some w->
  ∃u cw,rM t p=some u/\eG w false u=true/\e9 h w cw/\mW t p+ce u<=cs.length/\(cs.drop (mW t p)).take (ce u)=cw:=by
 intro p;induction p with
 |nil=>
  intro c t w cs hf hv _ hw;obtain rfl:c=w:=by simpa[qf]using hw
  have hs:=gN _ _ _ hf;have hl:=iz hv;refine⟨t,cs,by cases t<;>rfl,hf,hv,?_,?_⟩
  .cases t<;>simp[mW]<;>omega
  .have e:mW t []=0:=by cases t<;>rfl
   rw[e,ck,eI (by omega)]
 |cons q p ih=>
  intro c t w cs hf hv hp hw
  have sub:∀(o n:Nat)(c2:V)(u:Ty)(c3:List C),eG c2 false u=true->e9 h c2 c3->(cs.drop o).take (ce u)=c3->o+ce u<=cs.length->Im u p->qf c2 p=some w->rM t (q::p)=rM u p->mW t (q::p)=o+mW u p->
    ∃u cw,rM t (q::p)=some u/\eG w false u=true/\e9 h w cw/\mW t (q::p)+ce u<=cs.length/\(cs.drop (mW t (q::p))).take (ce u)=cw:=by
   intro o n c2 u c3 hf2 hv2 h3 h4 h5 h6 h7 h8;obtain⟨u',cw,q1,q2,q3,q4,q5⟩:=ih c2 u w c3 hf2 hv2 h5 h6;have hl:=iz hv2;rw[gN _ _ _ hf2]at hl;refine⟨u',cw,h7.trans q1,q2,q3,by rw[h8];omega,?_⟩;rw[h8,<-q5,<-h3,<-dO];rw[List.drop_take,List.take_take];congr 1;omega
  cases q with
  |fd i=>
   cases t with
   |st t=>
    obtain⟨u,hu,hp⟩:=hp;have e7:rM (.st t) (.fd i::p)=rM u p:=by simp only[rM,hu]
    have e8:mW (.st t) (.fd i::p)=pu t i+mW u p:=by simp only[mW,hu]
    cases c with
    |x t' v=>
     simp only[eG,decide_eq_true_eq]at hf;subst hf;obtain⟨hd,rfl⟩:=hv;simp only[qf]at hw;split at hw
     .rename_i y hy;obtain⟨u',y',rfl,h1,h2,h3⟩:=rC _ _ _ _ hy;obtain rfl:u=u':=by rw[hu]at h1;exact aa h1
      refine sub (pu t i) 0 (.x u y') u ((a_ u y').map .d) (by simp[eG]) ⟨zI t _ _ hd hu,rfl⟩ ?_ ?_ hp hw e7 e8
      .rw [<-h3,gX,gm];rfl
      .simp [bV,ce];exact h2
     .simp at hw
    |rc l=>
     simp only[qf]at hw;split at hw
     .rename_i y hy;obtain⟨u',cw,q1,q2,q3,q4,q5⟩:=AY l t i y cs hf hv hy;obtain rfl:u=u':=by rw[hu]at q1;exact aa q1
      exact sub (pu t i) 0 y u cw q2 q3 q5 q4 hp hw e7 e8
     .simp at hw
    |_=>simp[qf]at hw
   |_=>exact hp.elim
  |ix k=>
   cases t with
   |ar n t=>
    obtain⟨hk,hp⟩:=hp;cases c with
    |x t' v=>
     simp only[eG,decide_eq_true_eq]at hf;subst hf;obtain⟨hd,rfl⟩:=hv;simp only[qf]at hw;have hk':k<v.1.length:=by rw[v.2];exact hk
     have hg:=zx (bV t) v.1 k hk';refine sub (k*ce t) 0 (.x t (gt v.1 k)) t ((a_ t (gt v.1 k)).map .d) (by simp[eG]) ⟨hd,rfl⟩ ?_ ?_ hp hw rfl rfl
     .rw [<-hg,gX,gm];rfl
     .simp only[aV,bV,ce];have:(k+1)*ce t<=n*ce t:=aO _ hk;rw[b_]at this;omega
    |_=>simp[qf]at hw
   |_=>exact hp.elim
theorem HL:∀(t:Ty)(v:El t)(i:Nat)(w:V)(v':El t),HM t v i w=some v'->∃u z,CF t i=some u/\ic u w=some z/\a_ t v'=bg (a_ t v) (pu t i) (a_ u z):=by
 intro t;induction t with
 |pr a c iha ihc=>
  intro v i w v' hs;cases i with
  |zero=>
   simp only[HM]at hs;split at hs
   .rename_i y hy;obtain rfl:=aa hs;refine⟨a,y,rfl,hy,?_⟩;simp only[a_,pu];rw[t5 (by simp[bV]),mJ (by simp[bV])]
   .simp at hs
  |succ i=>
   simp only[HM]at hs;split at hs
   .rename_i y hy;obtain rfl:=aa hs;obtain⟨u,z,h1,h2,h3⟩:=ihc _ _ _ _ hy;refine⟨u,z,h1,h2,?_⟩;simp only[a_,pu,h3];have:=t6 (a:=a_ a v.1) (b:=a_ c v.2) (off:=pu c i) (p:=a_ u z);rw[bV]at this;rw[this]
   .simp at hs
 |_=>intro v i w v' hs;cases i with|zero=>have hs':ic _ w=some v':=hs;exact⟨_,v',rfl,hs',by simp only[pu];rw[mJ (by simp[bV])]⟩|succ i=>simp[HM]at hs
theorem wu:∀(p:qw)(c:V)(t:Ty)(w c':V)(cs cw:List C)(u:Ty),eG c false t=true->e9 h c cs->Im t p->o6 c p w=some c'->rM t p=some u->e9 h w cw->cw.length=ce u->
  e9 h c' (bg cs (mW t p) cw):=by
 intro p;induction p with
 |nil=>
  intro c t w c' cs cw u hf hv _ hs hu hw hlen;obtain rfl:w=c':=by simpa[o6]using hs
  have e:mW t []=0:=by cases t<;>rfl
  have e2:rM t []=some t:=by cases t<;>rfl
  obtain rfl:t=u:=by rw[e2]at hu;exact aa hu
  have:=iz hv;rw[gN _ _ _ hf]at this;rw[e,mJ (by omega)];exact hw
 |cons q p ih=>
  intro c t w c' cs cw u hf hv hp hs hu hw hlen;cases q with
  |fd i=>
   cases t with
   |st t=>
    obtain⟨a,ha,hp⟩:=hp;have hu':rM a p=some u:=by simpa only[rM,ha]using hu
    have e8:mW (.st t) (.fd i::p)=pu t i+mW a p:=by simp only[mW,ha]
    cases c with
    |x t' v=>
     simp only[eG,decide_eq_true_eq]at hf;subst hf;obtain⟨hd,rfl⟩:=hv;simp only[o6]at hs;split at hs
     .rename_i y hy;split at hs
      .rename_i y1 hy1;obtain⟨a',z,rfl,h1,h2,h3⟩:=rC _ _ _ _ hy;obtain rfl:a=a':=by rw[ha]at h1;exact aa h1
       have hz:e9 h (.x a z) ((a_ a z).map .d):=⟨zI t _ _ hd ha,rfl⟩
       have h4:=ih (.x a z) a w y1 ((a_ a z).map .d) cw u (by simp[eG]) hz hp hy1 hu' hw hlen;have hle:mW a p+cw.length<=ce a:=by have:=wG p a u hu' hp;omega
       have h5:((a_ (.st t) v).map C.d|>.drop (pu t i)).take (ce a)=(a_ a z).map .d:=by rw[<-h3,gX,gm];rfl
       have h6:bg ((a_ (.st t) v).map C.d) (pu t i+mW a p) cw=bg ((a_ (.st t) v).map C.d) (pu t i) (bg ((a_ a z).map .d) (mW a p) cw):=(qR h5 (by simp[bV,ce];exact h2) hle).symm;rw[e8,h6];split at hs
       .rename_i v' hv';obtain rfl:=aa hs;obtain⟨a2,z2,k1,k2,k3⟩:=HL _ _ _ _ _ hv';obtain rfl:a=a2:=by rw[ha]at k1;exact aa k1
        refine⟨hd,?_⟩;have:=qk k2 h4;rw[this];show _=(a_ t v').map C.d;rw[k3,uS];rfl
       .obtain rfl:=aa hs;refine AR (HF t v) t i y1 _ _ a (Mj t v) (BF t v hd) ha h4 ?_ ⟨_,Mi t v i _ hy⟩;rw[uT (by simp[bV];exact hle)];simp[bV]
      .simp at hs
     .simp at hs
    |rc l=>
     simp only[o6]at hs;split at hs
     .rename_i y hy;split at hs
      .rename_i y1 hy1;obtain rfl:=aa hs;obtain⟨a',cw2,q1,q2,q3,q4,q5⟩:=AY l t i y cs hf hv hy;obtain rfl:a=a':=by rw[ha]at q1;exact aa q1
       have h4:=ih y a w y1 cw2 cw u q2 q3 hp hy1 hu' hw hlen;have hl:=iz q3;rw[gN _ _ _ q2]at hl;have hle:mW a p+cw.length<=ce a:=by have:=wG p a u hu' hp;omega
       rw[e8,<-qR q5 q4 hle];exact AR l t i y1 cs _ a hf hv ha h4 (by rw[uT (by omega),hl]) ⟨_,hy⟩
      .simp at hs
     .simp at hs
    |_=>simp[o6]at hs
   |_=>exact hp.elim
  |ix k=>
   cases t with
   |ar n t=>
    obtain⟨hk,hp⟩:=hp;have hu':rM t p=some u:=hu;cases c with
    |x t' v=>
     simp only[eG,decide_eq_true_eq]at hf;subst hf;obtain⟨hd,rfl⟩:=hv;simp only[o6]at hs;split at hs
     .rename_i y1 hy1;split at hs
      .rename_i z hz;obtain rfl:=aa hs;have hk':k<v.1.length:=by rw[v.2];exact hk
       have hg:=zx (bV t) v.1 k hk';have h4:=ih (.x t (gt v.1 k)) t w y1 ((a_ t (gt v.1 k)).map .d) cw u (by simp[eG]) ⟨hd,rfl⟩ hp hy1 hu' hw hlen;have h7:=qk hz h4;have hle:mW t p+cw.length<=ce t:=by have:=wG p t u hu' hp;omega
       have h5:((a_ (.ar n t) v).map C.d|>.drop (k*ce t)).take (ce t)=(a_ t (gt v.1 k)).map .d:=by rw[<-hg,gX,gm];rfl
       have h8:k*ce t+ce t<=((a_ (.ar n t) v).map C.d).length:=by simp only[aV,bV,ce];have:(k+1)*ce t<=n*ce t:=aO _ hk;rw[b_]at this;omega
       refine⟨hd,?_⟩;show bg _ (k*ce t+mW t p) cw=_;rw[<-qR h5 h8 hle,h7,<-uS];show _=((v.1.set k z).flatMap (a_ t)).map C.d;rw[Lj (bV t) v.1 k z hk'];rfl
      .simp at hs
     .simp at hs
    |_=>simp[o6]at hs
   |_=>exact hp.elim
theorem xX{n:Nat}:∀(l:V)(i:Nat)(w:V),eY n h l->sS l i=some w->eY n h w:=by
 intro l;induction l with
 |co a r iha ihr=>intro i w hk hw;cases i with|zero=>obtain rfl:=aa hw;exact hk.1|succ i=>exact ihr i w hk.2 hw
 |_=>intro i w hk hw;simp[sS]at hw
theorem GW{n:Nat}:∀(l:V)(i:Nat)(w:V),eY n h l->eY n h w->eY n h (JU l i w):=by
 intro l;induction l with
 |co a r iha ihr=>intro i w hk hw;cases i with|zero=>exact⟨hw,hk.2⟩|succ i=>exact⟨hk.1,ihr i w hk.2 hw⟩
 |_=>intro i w hk hw;exact hk
theorem Hf{n:Nat}{t:Ty}{v:El t}{i:Nat}{w:V}(hw:Ao t v i=some w):eY n h w:=by obtain⟨u,y,rfl,_⟩:=rC _ _ _ _ hw;trivial
theorem EZ{n:Nat}:∀(t:Ty)(v:El t),eY n h (HF t v):=by intro t;induction t with|pr a c iha ihc=>intro v;exact⟨trivial,ihc v.2⟩|_=>intro v;exact⟨trivial,trivial⟩
theorem B8{n:Nat}:∀(p:qw)(c w:V),eY n h c->qf c p=some w->eY n h w:=by
 intro p;induction p with
 |nil=>intro c w hk hw;obtain rfl:c=w:=by simpa[qf]using hw
       exact hk
 |cons q p ih=>
  intro c w hk hw;cases q with
  |fd i=>
   cases c with
   |x t v=>
    cases t with
    |st t=>
     simp only[qf]at hw;split at hw
     .rename_i y hy;exact ih y w (Hf hy) hw
     .simp at hw
    |_=>simp[qf]at hw
   |rc l=>
    simp only[qf]at hw;split at hw
    .rename_i y hy;exact ih y w (xX l _ _ hk hy) hw
    .simp at hw
   |_=>simp[qf]at hw
  |ix k=>
   cases c with
   |x t v=>cases t with|ar m t=>exact ih (.x t (gt v.1 k)) w trivial hw|_=>simp[qf]at hw
   |_=>simp[qf]at hw
theorem GQ{n:Nat}:∀(p:qw)(c w c':V),eY n h c->eY n h w->o6 c p w=some c'->eY n h c':=by
 intro p;induction p with
 |nil=>intro c w c' _ hw hs;obtain rfl:w=c':=by simpa[o6]using hs
       exact hw
 |cons q p ih=>
  intro c w c' hk hw hs;cases q with
  |fd i=>
   cases c with
   |x t v=>
    cases t with
    |st t=>
     simp only[o6]at hs;split at hs
     .rename_i y hy;split at hs
      .rename_i y1 hy1;split at hs
       .obtain rfl:=aa hs;trivial
       .obtain rfl:=aa hs;exact GW _ _ _ (EZ t v) (ih y w y1 (Hf hy) hw hy1)
      .simp at hs
     .simp at hs
    |_=>simp[o6]at hs
   |rc l=>
    simp only[o6]at hs;split at hs
    .rename_i y hy;split at hs
     .rename_i y1 hy1;obtain rfl:=aa hs;exact GW l _ _ hk (ih y w y1 (xX l _ _ hk hy) hw hy1)
     .simp at hs
    .simp at hs
   |_=>simp[o6]at hs
  |ix k=>
   cases c with
   |x t v=>
    cases t with
    |ar m t=>
     simp only[o6]at hs;split at hs
     .split at hs
      .obtain rfl:=aa hs;trivial
      .simp at hs
     .simp at hs
    |_=>simp[o6]at hs
   |_=>simp[o6]at hs
end
section
variable{h:H2}{n:Nat}{h1:bM}
theorem dX{v:V}{c:C}(ha:tW v=false)(hc:e9 h v [c]):th h v (.c c):=⟨[c],hc,fun e=>(by rw[ha]at e;cases e),fun _=>⟨c,rfl,rfl⟩⟩
theorem yo{v:V}{cs:List C}(ha:tW v=true)(hc:e9 h v cs):th h v (.agg cs):=⟨cs,hc,fun _=>rfl,fun e=>(by rw[ha]at e;cases e)⟩
theorem jk{v:V}{x:TV}(hx:th h v x)(ha:tW v=false):∃c,x=.c c/\e9 h v [c]:=by obtain⟨cs,h1,_,h2⟩:=hx;obtain⟨c,rfl,rfl⟩:=h2 ha;exact⟨c,rfl,h1⟩
theorem rj{v:V}{x:TV}(hx:th h v x):∃cs,e9 h v cs/\cellsOf x=some cs:=by obtain⟨cs,h1,h2,h3⟩:=hx;refine⟨cs,h1,?_⟩;cases ha:tW v with|true=>rw[h2 ha];rfl|false=>obtain⟨c,rfl,rfl⟩:=h3 ha;rfl
theorem kx{k:IntKind}{a:Int}{x:TV}(hx:fX h (.x (.i k) a) x):x=tI k a:=by obtain⟨c,rfl,_,hc⟩:=jk (v:=.x (.i k) a) hx rfl;obtain rfl:=(cq hc).1;rfl
theorem GO{a:Bool}{x:TV}(hx:fX h (.x .b a) x):x=tB a:=by obtain⟨c,rfl,_,hc⟩:=jk (v:=.x .b a) hx rfl;obtain rfl:=(cq hc).1;rfl
theorem xj{a:ByteArray}{x:TV}(hx:fX h (.x .s a) x):x=.c (.d (dS a)):=by obtain⟨c,rfl,_,hc⟩:=jk (v:=.x .s a) hx rfl;obtain rfl:=(cq hc).1;rfl
theorem ym{t:Ty}{s:Sl (El t)}{x:TV}(hx:fX h (.x (.sl t) s) x):x=.c (.d (wt (ce t) (a_ t) s)):=by obtain⟨c,rfl,_,hc⟩:=jk (v:=.x (.sl t) s) hx rfl;obtain rfl:=(cq hc).1;rfl
theorem wm{a:Bool}{x:TV}(hx:fX h (.kb a) x):x=tB a:=by obtain⟨c,rfl,hc⟩:=jk (v:=.kb a) hx rfl;obtain rfl:=(cq hc).1;rfl
theorem wl{k:Nat}{x:TV}(hx:fX h (.nl k) x):x=.c (DJ k):=by obtain⟨c,rfl,hc⟩:=jk (v:=.nl k) hx rfl;obtain rfl:=(cq hc).1;rfl
theorem yn{t:Ty}{a:El t}{x:TV}(hx:fX h (.pt t a) x):kL t=true/\x=.c (.d (.pt (a_ t a))):=by obtain⟨c,rfl,hd,hc⟩:=jk (v:=.pt t a) hx rfl;obtain rfl:=(cq hc).1;exact⟨hd,rfl⟩
theorem wj{id:Nat}{t:Ty}{p:qw}{x:TV}(hx:fX h (.op id t p) x):x=.c (.op id (mW t p)):=by obtain⟨c,rfl,hc⟩:=jk (v:=.op id t p) hx rfl;obtain rfl:=(cq hc).1;rfl
theorem tg{id m:Nat}{t:Ty}{p:qw}{x:TV}(hx:fX h (.ep id m t p) x):x=.c (.ep id m (mW t p)):=by obtain⟨c,rfl,hc⟩:=jk (v:=.ep id m t p) hx rfl;obtain rfl:=(cq hc).1;rfl
theorem EV{id:Nat}{x:TV}(hx:fX h (.om id) x):x=.c (.om id):=by obtain⟨c,rfl,hc⟩:=jk (v:=.om id) hx rfl;obtain rfl:=(cq hc).1;rfl
theorem tf{id:Nat}{c:C}{x:TV}(hx:fX h (.so id) x)(hc:AG id (fO h id)=some c):x=.c c:=by obtain⟨c',rfl,c2,h2,h3⟩:=jk (v:=.so id) hx rfl;obtain rfl:=(cq h2).1;rw[h3.1 c hc]
theorem Jy{id:Nat}{c:C}{x:TV}(hx:fX h (.sr id) x)(hc:EM id (fO h id)=some c):x=.c c:=by obtain⟨c',rfl,c2,h2,h3⟩:=jk (v:=.sr id) hx rfl;obtain rfl:=(cq h2).1;rw[h3.1 c hc]
theorem tj{id:Nat}{t:Ty}{s:Sl (Sl (El t))}{ln:Option (Nat×Nat)}(ho:fO h id=some (.rw t s ln)):EM id (fO h id)=some (mx 1 (a_ (.sl t)) id s):=by rw[ho];rfl
theorem qP{id ver lo:Nat}{t:Ty}{r:Sl (El t)}{x:TV}(hx:fX h (.sb id ver lo t r) x)(ha:ir h (.sb id ver lo t r)=true):x=.c (yD id lo t r):=by obtain⟨c',rfl,c2,h2,h3⟩:=jk (v:=.sb id ver lo t r) hx rfl;obtain rfl:=(cq h2).1;rw[h3.1 (Bool.and_eq_true_iff.1 ha).2]
theorem EW{z:Bool}{f:Nat}{l:V}{x:TV}(hx:fX h (.fn z f l) x):(z=true/\∃ds,rf l=some ds/\x=.c (.d (.fn f ds)))\/(z=false/\∃cs,e9 h l cs/\x=.c (.po f cs)):=by obtain⟨c',rfl,hc⟩:=jk (v:=.fn z f l) hx rfl;cases z with|true=>obtain⟨ds,h2,h3⟩:=hc;exact .inl ⟨rfl,ds,h2,by rw[(cq h3).1]⟩|false=>obtain⟨ds,h2,h3⟩:=hc;exact .inr ⟨rfl,ds,h2,by rw[(cq h3).1]⟩
theorem Oz{l:V}{x:TV}(hx:fX h (.tp l) x):∃xs,x=.iP xs/\BE h l xs:=hx
def MJ:V->Prop
 |.tp _|.no|.gn=>False
 |_=>True
theorem pm{v:V}{x:TV}(hv:MJ v)(hx:fX h v x):th h v x:=by cases v<;>first|exact hx|exact hv.elim
theorem cu{v:V}{x:TV}(hx:th h v x):fX h v x:=by cases v<;>first|exact hx|(obtain⟨cs,hc,_⟩:=hx;exact hc.elim)
theorem N7{v:V}{u:Ty}{y:El u}(hc:ul u v=some y):MJ v:=by cases v<;>first|trivial|(simp[ul,kQ,ic]at hc)
theorem vX{v:V}{u:Ty}{y:El u}{x:TV}(hx:fX h v x)(hc:ul u v=some y):(nB u=true->x=.agg ((a_ u y).map .d))/\(nB u=false->∃d,a_ u y=[d]/\x=.c (.d d)):=by
 obtain⟨cs,h2,h3,h4⟩:=pm (N7 hc) hx;have h5:=iW v false u y cs hc h2;have ha:=wY hc;constructor
 .intro hu;rw[h3 (ha.trans hu),h5]
 .intro hu;obtain⟨c,rfl,rfl⟩:=h4 (ha.trans hu);cases he:a_ u y with
  |nil=>rw[he]at h5;simp at h5
  |cons d ds=>
   rw[he]at h5;simp only[List.map_cons,List.cons.injEq]at h5;obtain⟨rfl,h6⟩:=h5;have:ds=[]:=by simpa using h6.symm
   subst this;exact⟨d,rfl,rfl⟩
theorem N6{v:V}{x:TV}{a:Bool}(hx:fX h v x)(hc:ul .b v=some a):x=tB a:=by obtain⟨d,h1,rfl⟩:=(vX hx hc).2 rfl;obtain rfl:=(cq h1).1;rfl
def mR(h:H2):List V->List TV->Prop
 |[],[]=>True
 |v::vs,x::xs=>fX h v x/\mR h vs xs
 |_,_=>False
theorem lV{xs:List TV}(hx:mR h [] xs):xs=[]:=by cases xs<;>first|rfl|exact hx.elim
theorem gL{v:V}{vs:List V}{xs:List TV}(hx:mR h (v::vs) xs):∃x ys,xs=x::ys/\fX h v x/\mR h vs ys:=by cases xs with|nil=>exact hx.elim|cons x ys=>exact⟨x,ys,rfl,hx.1,hx.2⟩
theorem iO{v:V}{xs:List TV}(hx:mR h [v] xs):∃x,xs=[x]/\fX h v x:=by obtain⟨x,ys,rfl,h1,h2⟩:=gL hx;obtain rfl:=lV h2;exact⟨x,rfl,h1⟩
theorem je{v w:V}{xs:List TV}(hx:mR h [v,w] xs):∃x y,xs=[x,y]/\fX h v x/\fX h w y:=by obtain⟨x,ys,rfl,h1,h2⟩:=gL hx;obtain⟨y,rfl,h3⟩:=iO h2;exact⟨x,y,rfl,h1,h3⟩
theorem Oy{v w z:V}{xs:List TV}(hx:mR h [v,w,z] xs):∃x y u,xs=[x,y,u]/\fX h v x/\fX h w y/\fX h z u:=by obtain⟨x,ys,rfl,h1,h2⟩:=gL hx;obtain⟨y,u,rfl,h3⟩:=je h2;exact⟨x,y,u,rfl,h1,h3⟩
theorem Jx:∀{vs:List V}{xs:List TV},mR h vs xs->(∀v∈vs,MJ v/\tW v=false)->∃cs,e9 h (cU vs) cs/\xs=cs.map TV.c:=by intro vs;induction vs with|nil=>intro xs hx _;obtain rfl:=lV hx;exact⟨[],rfl,rfl⟩|cons v vs ih=>intro xs hx hv;obtain⟨x,ys,rfl,h1,h2⟩:=gL hx;obtain⟨hp,ha⟩:=hv v (by simp);obtain⟨c,rfl,h3⟩:=jk (pm hp h1) ha;obtain⟨cs,h4,rfl⟩:=ih h2 fun w hw=>hv w (by simp[hw]);exact⟨c::cs,⟨[c],cs,rfl,h3,h4⟩,rfl⟩
theorem uV{id:Nat}{q:(t:Ty)×Sl (El t)×List Nat}(hs:ur h (.so id)=some q):∃ver,(fO h id=some (.ar q.1 q.2.1 ver)\/fO h id=some (.im q.1 q.2.1 ver))/\q.2.2=[id]:=by
 simp only[ur]at hs;split at hs
 .rename_i t s v ho;obtain rfl:=aa hs;exact⟨v,.inl ho,rfl⟩
 .rename_i t s v ho;obtain rfl:=aa hs;exact⟨v,.inr ho,rfl⟩
 .simp at hs
theorem mw{id ver:Nat}{t:Ty}{s:Sl (El t)}(ho:fO h id=some (.ar t s ver)\/fO h id=some (.im t s ver)):AG id (fO h id)=some (mx (ce t) (a_ t) id s):=by rcases ho with ho|ho<;>rw[ho]<;>rfl
theorem Pb{id lo nx:Nat}{t:Ty}{r:Sl (El t)}{c:Call}{H:bM}:cL c (.len false) [some (.c (yD id lo t r))] H nx=some (tI .i64 r.l.length,[],[],nx):=by cases r with|nil=>rfl|mk l=>simp[cL,uH,yD,Sl.l,lv]
theorem O_{v:V}{x:TV}{q:(t:Ty)×Sl (El t)×List Nat}{c:Call}{H:bM}{nx:Nat}(hx:fX h v x)(ha:ir h v=true)(hs:ur h v=some q):
  cL c (.len false) [some x] H nx=some (tI .i64 q.2.1.l.length,[],[],nx):=by
 cases v with
 |x t s=>cases t with|sl t=>obtain rfl:=aa hs;rw[ym hx];exact Pa|_=>simp[ur]at hs
 |so id=>obtain⟨ver,ho,_⟩:=uV hs;rw[tf hx (mw ho)];exact N0
 |sb id ver lo t r=>obtain rfl:=aa hs;rw[qP hx ha];exact Pb
 |_=>simp[ur]at hs
theorem KR{id lo nx:Nat}{t:Ty}{r:Sl (El t)}{c:Call}{H:bM}{neg:Bool}:cL c (.rF 0 neg) [some (.c (yD id lo t r))] H nx=some (tB (if neg then !r.fM else r.fM),[],[],nx):=by cases r<;>rfl
theorem O2{v:V}{x:TV}{q:(t:Ty)×Sl (El t)×List Nat}{c:Call}{H:bM}{nx:Nat}{neg:Bool}(hx:fX h v x)(ha:ir h v=true)(hs:ur h v=some q):
  cL c (.rF 0 neg) [some x] H nx=some (tB (if neg then !q.2.1.fM else q.2.1.fM),[],[],nx):=by
 cases v with
 |x t s=>cases t with|sl t=>obtain rfl:=aa hs;rw[ym hx];exact O3|_=>simp[ur]at hs
 |so id=>obtain⟨ver,ho,_⟩:=uV hs;rw[tf hx (mw ho)];exact QA
 |sb id ver lo t r=>obtain rfl:=aa hs;rw[qP hx ha];exact KR
 |_=>simp[ur]at hs
theorem oY{g:Bool}{m:Nat}{w:V}(hc:Gv h g m w=true):tW w=g/\yr w=m/\(g=false->m=1)/\ir h w=true:=by
 simp only[Gv,ai,beq_iff_eq,Bool.or_eq_true]at hc;obtain⟨⟨⟨h1,h2⟩,h3⟩,h4⟩:=hc;refine⟨h1,h2,fun e=>?_,h4⟩;rcases h3 with h3|h3
 .rw [e]at h3;cases h3
 .exact h3
theorem p9{g:Bool}{m off:Nat}{cs cw:List C}{w:V}(hc:Gv h g m w=true)(hw:e9 h w cw)(hle:off+m<=cs.length)(he:(cs.drop off).take m=cw):∃x,DT g m (cs.drop off)=some x/\fX h w x:=by
 obtain⟨ha,hs,hm,_⟩:=oY hc;cases g with
 |true=>refine⟨.agg cw,?_,cu (yo ha hw)⟩;simp only[DT,if_true];rw[if_pos (by simp;omega),he]
 |false=>obtain rfl:=hm rfl;cases hd:cs.drop off with|nil=>have:=congrArg List.length hd;simp at this;omega|cons c r=>rw[hd]at he;subst he;exact⟨.c c,rfl,cu (dX ha hw)⟩
theorem B3{g:Bool}{m:Nat}{ds:List D}:N1 g m ds=DT g m (ds.map .d):=by
 unfold N1 DT;cases g
 .cases ds<;>simp
 .simp
theorem wK{p w:V}{l:List Nat}{g:Bool}{m nx:Nat}{c:Call}{x:TV}(hr:HR n h1 h)(hl:zd h p=some (w,l))(hc:Gv h g m w=true)(hx:fX h p x)(hok:eY n h p):
  ∃y,cL c (.load g m) [some x] h1 nx=some (y,[],l,nx)/\fX h w y/\eY n h w:=by
 cases p with
 |pt t v=>obtain⟨rfl,rfl⟩:=ad (aa hl);obtain⟨hd,rfl⟩:=yn hx;obtain⟨_,hs,_,_⟩:=oY hc;have hs':ce t=m:=hs;obtain⟨y,h2,h3⟩:=p9 (cs:=(a_ t v).map .d) (off:=0) hc (show e9 h (.x t v) ((a_ t v).map .d)from⟨hd,rfl⟩) (by simp[bV];omega) (by rw[ck,eI (by simp[bV];omega)]);refine⟨y,?_,h3,trivial⟩;rw[ck,<-B3]at h2;simp only[cL,hO,h2]
 |op id t p=>
  obtain rfl:=wj hx;simp only[zd]at hl;split at hl
  .rename_i u cc ho;obtain⟨_,hb,hko⟩:=hr.ob id _ ho;obtain⟨cs,h2,h3,h4⟩:=hb;by_cases hu:u=t
   .subst hu;simp only[decide_true,cond_true]at hl;split at hl
    .rename_i w' hw;obtain⟨rfl,rfl⟩:=ad (aa hl);obtain⟨a,cw,q1,q2,q3,q4,q5⟩:=wS p cc u w' cs h4 h3 hok.2 hw;obtain⟨_,hs,_,_⟩:=oY hc;rw[gN _ _ _ q2]at hs;subst hs;obtain⟨y,h5,h6⟩:=p9 hc q3 q4 q5;refine⟨y,?_,h6,B8 p cc w' hko hw⟩;simp only[cL,hO,h2,h5]
    .simp at hl
   .simp [hu]at hl
  .rename_i u v ho;obtain⟨_,hb,hko⟩:=hr.ob id _ ho;obtain⟨hd,h2⟩:=hb;by_cases hu:u=t
   .subst hu;simp only[decide_true,cond_true]at hl;split at hl
    .rename_i w' hw;obtain⟨rfl,rfl⟩:=ad (aa hl);obtain⟨a,cw,q1,q2,q3,q4,q5⟩:=wS (h:=h) p (.x u v) u w' ((a_ u v).map .d) (by simp[eG]) ⟨hd,rfl⟩ hok.2 hw;obtain⟨_,hs,_,_⟩:=oY hc;rw[gN _ _ _ q2]at hs;subst hs;obtain⟨y,h5,h6⟩:=p9 hc q3 q4 q5;refine⟨y,?_,h6,B8 p (.x u v) w' trivial hw⟩;rw[<-gm,<-B3]at h5;simp only[cL,hO,h2,h5]
    .simp at hl
   .simp [hu]at hl
  .simp at hl
 |ep id k t p=>
  obtain rfl:=tg hx;obtain⟨_,hp,hk,_⟩:=hok
  have main:∀(u:Ty)(s:Sl (El u))(ver:Nat),(fO h id=some (.ar u s ver)\/fO h id=some (.im u s ver))->(bif decide (u=t)then(match qf (.x u (gt s.l k)) p with|some w=>some (w,[id])|none=>none)else none)=some (w,l)->
    ∃y,cL c (.load g m) [some (.c (.ep id k (mW t p)))] h1 nx=some (y,[],l,nx)/\fX h w y/\eY n h w:=by
   intro u s ver ho hl;have hlt:=hk u s ver ho;by_cases hu:u=t
   .subst hu;simp only[decide_true,cond_true]at hl;split at hl
    .rename_i w' hw;obtain⟨rfl,rfl⟩:=ad (aa hl);cases s with
     |nil=>simp[Sl.l]at hlt
     |mk ls=>
     have hrow:(ls.map (a_ u))[k]?=some (a_ u (gt ls k)):=B5 hlt;have hd:kL u=true:=by rcases ho with ho|ho<;>exact(hr.ob id _ ho).2.1.1
     obtain⟨a,cw,q1,q2,q3,q4,q5⟩:=wS (h:=h) p (.x u (gt ls k)) u w' ((a_ u (gt ls k)).map .d) (by simp[eG]) ⟨hd,rfl⟩ hp hw;obtain⟨_,hs,_,_⟩:=oY hc;rw[gN _ _ _ q2]at hs;subst hs;obtain⟨y,h5,h6⟩:=p9 hc q3 q4 q5;refine⟨y,?_,h6,B8 p (.x u (gt ls k)) w' trivial hw⟩;rw[<-gm,<-B3]at h5;rcases ho with ho|ho
     .have h2:=(hr.ob id _ ho).2.1.2.2 ls rfl;simp only[cL,hO,h2,hrow,h5]
     .have h2:=(hr.ob id _ ho).2.1.2.2 ls rfl;simp only[cL,hO,h2,hrow,h5]
    .simp at hl
   .simp [hu]at hl
  simp only[zd]at hl;split at hl
  .rename_i u s ver ho;exact main u s ver (.inl ho) hl
  .rename_i u s ver ho;exact main u s ver (.inr ho) hl
  .simp at hl
 |_=>simp[zd]at hl
end
end Go.Ev
