/- Typed data by codes: the types, the values that a frame holds, its objects, and how they are laid into the abstract machine's. Conditions: none, these are definitions. -/
import Derived.Test.YtingpmogbibghaaEvY
open Bool renaming and_eq_true->ai
open List renaming append_assoc->aI,append_nil->aV,drop_append_of_le_length->eS,drop_drop->dT,drop_length->kY,drop_zero->eG,flatMap_cons->bo,length_append->au,length_map->aF,length_replicate->a_,map_drop->gJ,map_take->iq,nil_append->bi,replicate->ak,take_append_drop->cq,take_of_length_le->eY
open List.cons renaming inj->bT
open Nat renaming add_assoc->cX,add_mul->bB,beq->lS,ble->jQ,le_refl->am,mul_le_mul_right->aH
open Option.some renaming inj->aa
open Prod.mk renaming inj->af
open Sigma.mk renaming inj->kf
noncomputable section
namespace Go.Ev
inductive Ty where
 |i (k:IntKind)
 |b
 |s
 |f (k:FloatKind)
 |sl (t:Ty)
 |mp (k v:Ty)
 |un
 |pr (a c:Ty)
 |st (t:Ty)
 |ar (n:Nat) (t:Ty)
 |o (k:Nat)
 deriving Inhabited,DecidableEq
def Arr(n:Nat)(α:Type):Type:={l:List α//l.length=n}
def Arr.set{n:Nat}{α:Type}(v:Arr n α)(k:Nat)(x:α):Arr n α:=⟨v.1.set k x,by rw[List.length_set];exact v.2⟩
instance{n:Nat}{α:Type}[Inhabited α]:Inhabited (Arr n α):=⟨⟨ak n default,a_⟩⟩
instance{n:Nat}{α:Type}[DecidableEq α]:DecidableEq (Arr n α):=inferInstanceAs (DecidableEq {l:List α//l.length=n})
@[reducible] def El:Ty->Type
 |.i _=>Int
 |.b=>Bool
 |.s=>ByteArray
 |.f _=>Nat
 |.sl t=>Sl (El t)
 |.mp k v=>Mp (El k) (El v)
 |.un=>Unit
 |.pr a c=>El a×El c
 |.st t=>El t
 |.ar n t=>Arr n (El t)
 |.o _=>Unit
instance IU:(t:Ty)->Inhabited (El t)
 |.i _=>⟨(0:Int)⟩
 |.b=>⟨false⟩
 |.s=>⟨(default:ByteArray)⟩
 |.f _=>⟨(0:Nat)⟩
 |.sl _=>⟨Sl.nil⟩
 |.mp _ _=>⟨Mp.none⟩
 |.un=>⟨()⟩
 |.pr a c=>⟨((IU a).default,(IU c).default)⟩
 |.st t=>IU t
 |.ar n t=>⟨⟨ak n (IU t).default,a_⟩⟩
 |.o _=>⟨()⟩
def tT:(t:Ty)->El t
 |.i _=>(0:Int)
 |.b=>false
 |.s=>(ByteArray.empty)
 |.f _=>(0:Nat)
 |.sl _=>Sl.nil
 |.mp _ _=>Mp.none
 |.un=>()
 |.pr a c=>(tT a,tT c)
 |.st t=>tT t
 |.ar n t=>⟨ak n (tT t),a_⟩
 |.o _=>()
def gN(t u:Ty)(v:El t):Option (El u):=if h:t=u then some (h▸v)else none
def bY:Ty->Nat
 |.un=>0
 |.pr a c=>bY a+bY c
 |.st t=>bY t
 |.ar n t=>n*bY t
 |_=>1
def lJ:Ty->Bool
 |.o _|.mp _ _=>false
 |.pr a c=>lJ a&&lJ c
 |.st t|.ar _ t|.sl t=>lJ t
 |_=>true
def oI:Ty->Bool
 |.st _|.ar _ _=>true
 |_=>false
def aS:(t:Ty)->El t->List D
 |.i k,x=>[.lit (.int k x)]
 |.b,x=>[.lit (.bool x)]
 |.s,x=>[.lit (.string x)]
 |.f k,x=>[.lit (.float k x)]
 |.sl t,x=>[xl (bY t) (aS t) x]
 |.mp _ _,_=>[.lit .nilFunc]
 |.un,_=>[]
 |.pr a c,x=>aS a x.1++aS c x.2
 |.st t,x=>aS t x
 |.ar _ t,x=>x.1.flatMap (aS t)
 |.o _,_=>[.lit .nilFunc]
inductive Pe where
 |fd (i:Nat)
 |ix (n:Nat)
abbrev qU:=List Pe
inductive V where
 |x (t:Ty) (v:El t)
 |kb (c:Bool)
 |nl (k:Nat)
 |so (id:Nat)
 |sr (id:Nat)
 |sb (id ver lo:Nat) (t:Ty) (r:Sl (El t))
 |op (id:Nat) (t:Ty) (p:qU)
 |ep (id n:Nat) (t:Ty) (p:qU)
 |pt (t:Ty) (v:El t)
 |fn (z:Bool) (f:Nat) (caps:V)
 |om (id:Nat)
 |rc (l:V)
 |tp (l:V)
 |ni
 |co (a r:V)
 |fl (l:List Value)
 |no
 |gn
inductive O where
 |ar (t:Ty) (s:Sl (El t)) (ver:Nat)
 |im (t:Ty) (s:Sl (El t)) (ver:Nat)
 |bx (t:Ty) (c:V)
 |ib (t:Ty) (v:El t)
 |mp (k v:Ty) (m:Mp (El k) (El v))
 |rw(t:Ty) (s:Sl (Sl (El t))) (ln:Option (Nat×Nat))
abbrev H2:=List (Nat×Option O)
def fO(h:H2)(id:Nat):Option O:=(cn h id).join
def Bn:(t:Ty)->El t->Nat->Option V
 |.pr a _,v,0=>some (.x a v.1)
 |.pr _ c,v,n+1=>Bn c v.2 n
 |t,v,0=>some (.x t v)
 |_,_,_=>none
def DG:Ty->Nat->Option Ty
 |.pr a _,0=>some a
 |.pr _ c,n+1=>DG c n
 |t,0=>some t
 |_,_=>none
def pV:Ty->Nat->Nat
 |.pr _ _,0=>0
 |.pr a c,n+1=>bY a+pV c n
 |_,_=>0
def Jd:(t:Ty)->El t->V
 |.pr a c,v=>.co (.x a v.1) (Jd c v.2)
 |t,v=>.co (.x t v) .ni
def Tn(k:IntKind):List Value->Option (Int×List Value)
 |.int k' n::r=>if k'=k then some (n,r)else none
 |_=>none
def Tq:List Value->Option (Bool×List Value)
 |.bool c::r=>some (c,r)
 |_=>none
def Tl:List Value->Option (ByteArray×List Value)
 |.string c::r=>some (c,r)
 |_=>none
def P7(k:FloatKind):List Value->Option (Nat×List Value)
 |.float k' n::r=>if k'=k then some (n,r)else none
 |_=>none
def Tm{α:Type}:List Value->Option (Sl α×List Value)
 |.slice none 0 0::r=>some (Sl.nil,r)
 |_=>none
def Pf{α:Type}(f:List Value->Option (α×List Value)):(m:Nat)->List Value->Option (Arr m α×List Value)
 |0,l=>some (⟨[],rfl⟩,l)
 |m+1,l=>match f l with|some (x,l)=>(match Pf f m l with|some (v,l)=>some (⟨x::v.1,by rw[List.length_cons,v.2]⟩,l)|none=>none)|none=>none
def vI:(t:Ty)->List Value->Option (El t×List Value)
 |.i k=>Tn k
 |.b=>Tq
 |.s=>Tl
 |.f k=>P7 k
 |.sl _=>Tm
 |.pr a c=>fun l=>match vI a l with|some (x,l)=>(match vI c l with|some (y,l)=>some ((x,y),l)|none=>none)|none=>none
 |.st t=>vI t
 |.ar n t=>Pf (vI t) n
 |.mp _ _|.un|.o _=>fun _=>none
def iL(u:Ty):V->Option (El u)
 |.x t v=>gN t u v
 |.kb c=>gN .b u c
 |.nl 0=>(match u with|.sl _=>some Sl.nil|_=>none)
 |.fl l=>bif oI u then(match vI u l with|some (x,[])=>some x|_=>none)else none
 |_=>none
def Jl:(t:Ty)->El t->Nat->V->Option (El t)
 |.pr a _,v,0,w=>match iL a w with|some y=>some (y,v.2)|none=>none
 |.pr _ c,v,n+1,w=>match Jl c v.2 n w with|some y=>some (v.1,y)|none=>none
 |t,_,0,w=>iL t w
 |_,_,_,_=>none
def tM:V->Nat->Option V
 |.co a _,0=>some a
 |.co _ r,n+1=>tM r n
 |_,_=>none
def LB:V->Nat->V->V
 |.co _ r,0,w=>.co w r
 |.co a r,n+1,w=>.co a (LB r n w)
 |l,_,_=>l
def qI:V->qU->Option V
 |v,[]=>some v
 |.x (.st t) v,.fd i::p=>match Bn t v i with|some w=>qI w p|none=>none
 |.x (.ar _ t) v,.ix k::p=>qI (.x t (gt v.1 k)) p
 |.rc l,.fd i::p=>match tM l i with|some w=>qI w p|none=>none
 |_,_=>none
def pI:V->qU->V->Option V
 |_,[],w=>some w
 |.x (.st t) v,.fd i::p,w=>
  match Bn t v i with
  |some y=>match pI y p w with|some y'=>(match Jl t v i y' with|some v'=>some (.x (.st t) v')|none=>some (.rc (LB (Jd t v) i y')))|none=>none
  |none=>none
 |.x (.ar n t) v,.ix k::p,w=>match pI (.x t (gt v.1 k)) p w with|some y=>(match iL t y with|some y'=>some (.x (.ar n t) (v.set k y'))|none=>none)|none=>none
 |.rc l,.fd i::p,w=>match tM l i with|some y=>(match pI y p w with|some y'=>some (.rc (LB l i y'))|none=>none)|none=>none
 |_,_,_=>none
def sG:Ty->qU->Option Ty
 |t,[]=>some t
 |.st t,.fd i::p=>match DG t i with|some u=>sG u p|none=>none
 |.ar _ t,.ix _::p=>sG t p
 |_,_=>none
def nU:Ty->qU->Nat
 |.st t,.fd i::p=>pV t i+(match DG t i with|some u=>nU u p|none=>0)
 |.ar _ t,.ix k::p=>k*bY t+nU t p
 |_,_=>0
def JP:Ty->qU->Prop
 |.st t,.fd i::p=>∃u,DG t i=some u/\JP u p
 |.ar n t,.ix k::p=>k<n/\JP t p
 |_,[]=>True
 |_,_=>False
def Cs:Ty->V×V
 |.pr a c=>(.no,.co (Cs a).1 (Cs c).2)
 |.st t=>(bif lJ t then .x (.st t) (tT t)else .rc (Cs t).2,.co (bif lJ t then .x (.st t) (tT t)else .rc (Cs t).2) .ni)
 |.o k=>(.nl k,.co (.nl k) .ni)
 |.mp _ _=>(.nl 3,.co (.nl 3) .ni)
 |.sl t=>(bif lJ t then .x (.sl t) Sl.nil else .nl 0,.co (bif lJ t then .x (.sl t) Sl.nil else .nl 0) .ni)
 |.ar n t=>(bif lJ t then .x (.ar n t) (tT (.ar n t))else .no,.co (bif lJ t then .x (.ar n t) (tT (.ar n t))else .no) .ni)
 |.un=>(.x .un (),.co (.x .un ()) .ni)
 |.i k=>(.x (.i k) (0:Int),.co (.x (.i k) (0:Int)) .ni)
 |.b=>(.x .b false,.co (.x .b false) .ni)
 |.s=>(.x .s ByteArray.empty,.co (.x .s ByteArray.empty) .ni)
 |.f k=>(.x (.f k) (0:Nat),.co (.x (.f k) (0:Nat)) .ni)
abbrev PN(t:Ty):V:=(Cs t).1
def ER(k:Nat):C:=.d (.lit (match k with|0=>.slice none 0 0|1=>.pointer none|2=>.nilFunc|3=>.map none|_=>.nilIface))
def BC(id:Nat):Option O->Option C
 |some (.ar t s _)=>some (ny (bY t) (aS t) id s)
 |some (.im t s _)=>some (ny (bY t) (aS t) id s)
 |_=>none
def pR(t:Ty):Sl (El t)->lU
 |.nil=>.nil
 |.mk l=>.bq (l.map (aS t))
def JD{α:Type}(id:Nat):Sl α->lU
 |.nil=>.nil
 |.mk l=>.ez id l.length
def fw(t:Ty)(l:List (Sl (El t))):Option (Nat×Nat)->List lU
 |none=>l.map (pR t)
 |some (m,id)=>(l.map (pR t)).set m (JD id (gt l m))
def F0(id:Nat):Option O->Option C
 |some (.rw t s _)=>some (ny 1 (aS (.sl t)) id (s:Sl (Sl (El t))))
 |_=>none
def zG(id lo:Nat)(t:Ty):Sl (El t)->C
 |.nil=>.d (.lit (.slice none 0 0))
 |.mk l=>.fK (bY t) id lo (l.map (aS t)).length
def rQ:V->Option (List D)
 |.pt t v=>if lJ t then some [.pt (aS t v)]else none
 |.ni=>some []
 |.co a r=>match rQ a,rQ r with|some x,some y=>some (x++y)|_,_=>none
 |_=>none
def uq:V->Bool
 |.x t _=>oI t
 |.rc _|.fl _=>true
 |_=>false
deriving instance DecidableEq for Mp
instance AA:(t:Ty)->DecidableEq (El t)
 |.i _=>inferInstanceAs (DecidableEq Int)
 |.b=>inferInstanceAs (DecidableEq Bool)
 |.s=>inferInstanceAs (DecidableEq ByteArray)
 |.f _=>inferInstanceAs (DecidableEq Nat)
 |.sl t=>@instDecidableEqSl (El t) (AA t)
 |.mp k v=>@instDecidableEqMp (El k) (El v) (AA k) (AA v)
 |.un=>inferInstanceAs (DecidableEq Unit)
 |.pr a c=>@instDecidableEqProd (El a) (El c) (AA a) (AA c)
 |.st t=>AA t
 |.ar n t=>@instDecidableEqArr n (El t) (AA t)
 |.o _=>inferInstanceAs (DecidableEq Unit)
structure S2 where
 dF:List (Nat×V)
 heap:H2
 next:Nat
 wo:List Nat
 gh:V
structure OP where
 o:pk
 t:Ty
 fi:List Nat
def Dv:V->Bool
 |.pt t _=>lJ t
 |.ni=>true
 |.co a r=>Dv a&&Dv r
 |_=>false
def iZ(h:H2):V->Bool
 |.x t _=>lJ t
 |.pt t _=>lJ t
 |.kb _|.nl _=>true
 |.op id _ _|.ep id _ _ _|.om id=>(match fO h id with|some _=>true|none=>false)
 |.so id=>(match fO h id with|some (.ar _ _ _)|some (.im _ _ _)=>true|_=>false)
 |.sr id=>(match fO h id with|some (.rw _ _ _)=>true|_=>false)
 |.sb id ver _ t _=>lJ t&&(match fO h id with|some (.ar _ _ v)|some (.im _ _ v)=>v==ver|_=>false)
 |.fn true _ l=>Dv l
 |.fn false _ l=>iZ h l
 |.rc l|.tp l=>iZ h l
 |.fl l=>l.all fg
 |.ni=>true
 |.co a r=>iZ h a&&iZ h r
 |.no|.gn=>false
def TH:Value->Option V
 |.bool c=>some (.kb c)
 |.int k n=>some (.x (.i k) n)
 |.float k n=>some (.x (.f k) n)
 |.string s=>some (.x .s s)
 |.pointer none=>some (.nl 1)
 |.slice none 0 0=>some (.nl 0)
 |.nilFunc=>some (.nl 2)
 |.map none=>some (.nl 3)
 |.nilIface=>some (.nl 4)
 |.agg cs=>if cs.toList.all fg then some (.fl cs.toList)else none
 |_=>none
def Rf:Nat->Option V:=fun _ => none
def KP(e:List (Nat×V))(h:H2):Operand->Option V
 |.tmp t=>match cn e t with|some v=>bif iZ h v then some v else none|none=>none
 |.const c=>TH c
 |.global g=>Rf g
 |.func f=>some (.fn true f .ni)
def zp:V->Nat
 |.x t _=>bY t
 |.rc l=>zp l
 |.co a r=>zp a+zp r
 |.ni=>0
 |.fl l=>l.length
 |_=>1
def O5:V->Nat->Nat
 |.co a r,n+1=>zp a+O5 r n
 |_,_=>0
def bw:List V->V
 |[]=>.ni
 |v::r=>.co v (bw r)
def By:V->List V
 |.co a r=>a::By r
 |_=>[]
def lP:V->Bool->(u:Ty)->Option (El u)
 |.rc l,false,.st u=>lP l true u
 |.co a r,true,.pr t u=>match lP a false t,lP r true u with|some x,some y=>some (x,y)|_,_=>none
 |.co a .ni,true,u=>lP a false u
 |.ni,_,_=>none
 |v,false,u=>iL u v
 |_,_,_=>none
abbrev uL(u:Ty)(v:V):Option (El u):=lP v false u
def eW:V->Bool->Ty->Bool
 |.x u _,false,t=>decide (u=t)
 |.rc l,false,.st t=>eW l true t
 |.co a r,true,.pr t u=>eW a false t&&eW r true u
 |.co a .ni,true,t=>eW a false t
 |.kb _,false,.b=>true
 |.nl 0,false,.sl _|.so _,false,.sl _|.sr _,false,.sl _|.sb _ _ _ _ _,false,.sl _=>true
 |.nl 3,false,.mp _ _|.om _,false,.mp _ _=>true
 |.nl _,false,.o _|.op _ _ _,false,.o _|.ep _ _ _ _,false,.o _|.pt _ _,false,.o _|.fn _ _ _,false,.o _=>true
 |_,_,_=>false
def NM(t:Ty)(v:V):Option V:=match(bif lJ t then iL t v else none)with|some y=>some (.x t y)|none=>bif eW v false t then some v else none
def uQ(h:H2):V->Option ((t:Ty)×Sl (El t)×List Nat)
 |.x (.sl t) s=>some ⟨t,s,[]⟩
 |.so id=>(match fO h id with|some (.ar t s _)|some (.im t s _)=>some ⟨t,s,[id]⟩|_=>none)
 |.sb id _ _ t r=>some ⟨t,r,[id]⟩
 |_=>none
def Lh(t:Ty)(h:H2):V->Option ((t:Ty)×Sl (El t)×List Nat)
 |.nl 0=>some ⟨t,Sl.nil,[]⟩
 |v=>uQ h v
def jW(h:H2):V->Option (V×List Nat)
 |.so id=>match uQ h (.so id)with|some ⟨t,s,l⟩=>some (.x (.sl t) s,l)|none=>none
 |.sr id=>match fO h id with|some (.rw t s none)=>some (.x (.sl (.sl t)) s,[id])|_=>none
 |.sb id ver lo t r=>match uQ h (.sb id ver lo t r)with|some ⟨t,s,l⟩=>some (.x (.sl t) s,l)|none=>none
 |.rc l=>match jW h l with|some (w,l)=>some (.rc w,l)|none=>none
 |.co a r=>match jW h a,jW h r with|some (x,l),some (y,m)=>some (.co x y,l++m)|_,_=>none
 |.x t v=>some (.x t v,[])
 |.kb c=>some (.kb c,[])
 |.nl k=>some (.nl k,[])
 |.fl l=>some (.fl l,[])
 |.ni=>some (.ni,[])
 |.fn true f l=>some (.fn true f l,[])
 |.pt t v=>some (.pt t v,[])
 |_=>none
def Vy(c:Bool):V->V->Option V
 |.kb a,.kb b=>some (.x .b (bif c then a else b))
 |.x t a,w=>match uL t w with|some b=>some (.x t (bif c then a else b))|none=>none
 |w,.x t b=>match uL t w with|some a=>some (.x t (bif c then a else b))|none=>none
 |_,_=>none
def TK:Value->Value->Bool
 |.bool a,.bool b=>a==b
 |.int k a,.int k' b=>decide (k=k')&&a==b
 |.float k a,.float k' b=>decide (k=k')&&a==b
 |.string a,.string b=>decide (a=b)
 |.pointer none,.pointer none|.slice none 0 0,.slice none 0 0|.nilFunc,.nilFunc|.map none,.map none|.nilIface,.nilIface=>true
 |_,_=>false
def uP:List Value->List Value->Bool
 |[],[]=>true
 |a::r,b::s=>TK a b&&uP r s
 |_,_=>false
def oL:Ty->List Value
 |.i k=>[.int k 0]
 |.b=>[.bool false]
 |.s=>[.string ByteArray.empty]
 |.f k=>[.float k 0]
 |.sl _=>[.slice none 0 0]
 |.mp _ _=>[.map none]
 |.un=>[]
 |.pr a c=>oL a++oL c
 |.st t=>oL t
 |.ar n t=>(ak n (oL t)).flatten
 |.o k=>[match k with|0=>.slice none 0 0|1=>.pointer none|2=>.nilFunc|3=>.map none|_=>.nilIface]
def Ff:Ty->Option (List Kd)
 |.i k=>some [.i k]
 |.b=>some [.b]
 |.s=>some [.s]
 |.pr a c=>match Ff a,Ff c with|some x,some y=>some (x++y)|_,_=>none
 |.st t=>Ff t
 |.ar n t=>match Ff t with|some x=>some ((ak n x).flatten)|none=>none
 |_=>none
def RQ(z:Bool)(op:BinOp)(k k':IntKind)(a b:Int):Option V:=
 match op with
 |.shl=>bif z then some (.x (.i k) (RW k a b))else none
 |.shr=>bif z then some (.x (.i k) (fM k a b))else none
 |op=>bif decide (k=k')then(match op with
  |.add=>some (.x (.i k) (wr k (a+b)))
  |.sub=>some (.x (.i k) (wr k (a-b)))
  |.mul=>some (.x (.i k) (wr k (a*b)))
  |.quo=>bif z then some (.x (.i k) (wr k (a.tdiv b)))else none
  |.rem=>bif z then some (.x (.i k) (a.tmod b))else none
  |.and=>some (.x (.i k) (AR k a b))
  |.or=>some (.x (.i k) (VO k a b))
  |.xor=>some (.x (.i k) (RU k a b))
  |.andNot=>some (.x (.i k) (za k a b))
  |.eql=>some (.x .b (a==b))
  |.neq=>some (.x .b (a !=b))
  |.lss=>some (.x .b (decide (a<b)))
  |.leq=>some (.x .b (decide (a<=b)))
  |.gtr=>some (.x .b (decide (a>b)))
  |.geq=>some (.x .b (decide (a>=b)))
  |_=>none)else none
def xQ(k:FloatKind)(a b:Nat):Nat:=(k.format.add a b).getD (uS k)
def VG(k:FloatKind)(a b:Nat):Nat:=(k.format.sub a b).getD (uS k)
def VH(k:FloatKind)(a b:Nat):Nat:=(k.format.mul a b).getD (uS k)
def VI(k:FloatKind)(a b:Nat):Nat:=(k.format.div a b).getD (uS k)
def DH(k:FloatKind)(a b:Nat):Bool:=k.format.order a b==some .eq
def MW(k:FloatKind)(a b:Nat):Bool:=k.format.order a b==some .lt
def IR(k:FloatKind)(a b:Nat):Bool:=k.format.order a b==some .gt
def Kh(k:FloatKind)(a b:Nat):Nat:=match k.format.order a b with|none=>uS k|some .lt=>a|some .gt=>b|some .eq=>if(k.decode a).neg then a else b
def Rl(k:FloatKind)(a b:Nat):Nat:=match k.format.order a b with|none=>uS k|some .lt=>b|some .gt=>a|some .eq=>if(k.decode a).neg then b else a
def Nq(op:BinOp)(k k':FloatKind)(a b:Nat):Option V:=
 bif decide (k=k')then(match op with
  |.add=>some (.x (.f k) (xQ k a b))
  |.sub=>some (.x (.f k) (VG k a b))
  |.mul=>some (.x (.f k) (VH k a b))
  |.quo=>some (.x (.f k) (VI k a b))
  |.eql=>some (.x .b (DH k a b))
  |.neq=>some (.x .b (!(DH k a b)))
  |.lss=>some (.x .b (MW k a b))
  |.leq=>some (.x .b (MW k a b||DH k a b))
  |.gtr=>some (.x .b (IR k a b))
  |.geq=>some (.x .b (IR k a b||DH k a b))
  |_=>none)else none
def RP(op:BinOp)(x y:ByteArray):Option V:=match op with|.eql=>some (.x .b (x.toList==y.toList))|.neq=>some (.x .b (!(x.toList==y.toList)))|.lss=>some (.x .b (Op.bytesLess x.toList y.toList))|.leq=>some (.x .b (Op.bytesLess x.toList y.toList||x.toList==y.toList))|.gtr=>some (.x .b (!(Op.bytesLess x.toList y.toList||x.toList==y.toList)))|.geq=>some (.x .b (!(Op.bytesLess x.toList y.toList)))|_=>none
def Oy:List Operand->Bool
 |[_,.const (.int _ n)]=>decide (n>0)
 |_=>false
def Sf(m:Bool)(k:IntKind):Int->List V->Option Int
 |x,[]=>some x
 |x,.x (.i k') y::r=>bif decide (k'=k)then Sf m k (bif m then(if y>x then y else x)else(if y<x then y else x)) r else none
 |_,_=>none
def JY(m:Bool)(k:FloatKind):Nat->List V->Option Nat
 |x,[]=>some x
 |x,.x (.f k') y::r=>bif decide (k'=k)then JY m k (bif m then Rl k x y else Kh k x y) r else none
 |_,_=>none
def Ab(h:H2):V->Option (V×List Nat)
 |.pt t v=>some (.x t v,[])
 |.op id t p=>(match fO h id with
  |some (.bx u c)=>bif decide (u=t)then(match qI c p with|some w=>some (w,[id])|none=>none)else none
  |some (.ib u v)=>bif decide (u=t)then(match qI (.x u v) p with|some w=>some (w,[id])|none=>none)else none
  |_=>none)
 |.ep id n t p=>(match fO h id with
  |some (.ar u s _)|some (.im u s _)=>bif decide (u=t)then(match qI (.x u (gt s.l n)) p with|some w=>some (w,[id])|none=>none)else none
  |_=>none)
 |_=>none
def z7(h:H2)(kind:Nat):V->Option V
 |.nl k=>bif(k==kind)&&Nat.blt k 3 then some (.kb true)else none
 |.pt _ _|.op _ _ _|.ep _ _ _ _=>bif kind==1 then some (.kb false)else none
 |.fn _ _ _=>bif kind==2 then some (.kb false)else none
 |v=>bif kind==0 then(match uQ h v with|some ⟨_,s,_⟩=>some (.x .b s.fT)|none=>none)else none
def LZ:V->V
 |.kb c=>.kb (!c)
 |.x .b c=>.x .b (!c)
 |v=>v
def Hi(off n:Nat)(i:Nat):V->Option V
 |.op id t p=>(match sG t p with
  |some (.st u)=>(match DG u i with|some w=>bif(pV u i==off)&&(bY w==n)then some (.op id t (p++[.fd i]))else none|none=>none)
  |_=>none)
 |.ep id m t p=>(match sG t p with
  |some (.st u)=>(match DG u i with|some w=>bif(pV u i==off)&&(bY w==n)then some (.ep id m t (p++[.fd i]))else none|none=>none)
  |_=>none)
 |.pt (.st u) v=>(match Bn u v i with|some (.x w y)=>bif(pV u i==off)&&(bY w==n)then some (.pt w y)else none|_=>none)
 |_=>none
def HC(h:H2)(g:Bool)(n:Nat)(w:V):Bool:=(uq w==g)&&(zp w==n)&&(g||n==1)&&iZ h w
def OQ(h:H2):V->Option ((k:Ty)×(v:Ty)×Mp (El k) (El v)×List Nat)
 |.om id=>(match fO h id with|some (.mp k v m)=>some ⟨k,v,m,[id]⟩|_=>none)
 |_=>none
def yH(t:Ty):List Nat->List (Nat×Nat)->List V->V->Option V
 |[],[],[],c=>some c
 |i::is,(off,n)::ps,w::ws,c=>
  match t with
  |.st u=>(match DG u i with
   |some a=>bif(pV u i==off)&&(bY a==n)then(match NM a w with|some w=>(match pI c [.fd i] w with|some c=>bif eW c false t then yH t is ps ws c else none|none=>none)|none=>none)else none
   |none=>none)
  |.ar m u=>bif(i*bY u==off)&&(bY u==n)&&decide (i<m)then(match NM u w with|some w=>(match pI c [.ix i] w with|some c=>bif eW c false t then yH t is ps ws c else none|none=>none)|none=>none)else none
  |_=>none
 |_,_,_,_=>none
def Pu:V->Bool
 |.tp _|.no|.gn|.ni|.co _ _=>false
 |v=>!uq v
def Qs(o:OP)(vs:List V)(h:H2):Option (V×List Nat):=
 match o.o.k,vs with
 |.mv,[v]=>some (v,[])
 |.nilCheck,[v]=>(match v with|.pt _ _|.fn _ _ _|.ep _ _ _ _|.op _ _ _=>some (v,[])|_=>none)
 |.AL op,[.x (.i k) a,.x (.i k') b]=>(match RQ (Oy o.o.args) op k k' a b with|some v=>some (v,[])|none=>none)
 |.AL op,[.x (.f k) a,.x (.f k') b]=>(match Nq op k k' a b with|some v=>some (v,[])|none=>none)
 |.AL op,[.x .s a,.x .s b]=>(match RP op a b with|some v=>some (v,[])|none=>none)
 |.vH neg,[x,y]=>(match uL .b x,uL .b y with|some a,some b=>some (.x .b (bif neg then !(a==b)else a==b),[])|_,_=>none)
 |.ss kind neg,[x]=>(match z7 h kind x with|some v=>some (bif neg then LZ v else v,[])|none=>none)
 |.Ay neg ks,[.x t a,y]=>(match uL t y with|some b=>bif oI t&&decide (Ff t=some ks)then some (.x .b (bif neg then !(decide (a=b))else decide (a=b)),[])else none|none=>none)
 |.un .not,[.kb c]=>some (.kb (!c),[])
 |.un .not,[.x .b c]=>some (.x .b (!c),[])
 |.un .neg,[.x (.i k) n]=>some (.x (.i k) (wr k (0-n)),[])
 |.un .neg,[.x (.f k) n]=>some (.x (.f k) (Op.negFloat k n),[])
 |.un .xor,[.x (.i k) n]=>some (.x (.i k) (VP k n),[])
 |.wN k,[.x (.i _) n]=>some (.x (.i k) (wr k n),[])
 |.FG k,[.x (.i _) n]=>some (.x (.f k) (k.nearest n),[])
 |.ul,[.x .s s]=>some (.x .s s,[])
 |.J1 f,vs=>bif vs.all Pu then some (.fn false f (bw vs),[])else none
 |.load g n,[p]=>(match Ab h p with|some (w,l)=>bif HC h g n w then some (w,l)else none|none=>none)
 |.u6,[p]=>(match Ab h p with|some (w,l)=>bif HC h false 1 w then some (w,l)else none|none=>none)
 |.fieldAddr off n,[p]=>(match o.fi with|[i]=>(match Hi off n i p with|some w=>some (w,[])|none=>none)|_=>none)
 |.field g off n,[.x (.st u) v]=>(match o.fi with|[i]=>(match Bn u v i with|some w=>bif(pV u i==off)&&HC h g n w then some (w,[])else none|none=>none)|_=>none)
 |.field g off n,[.rc l]=>(match o.fi with|[i]=>(match tM l i with|some w=>bif(O5 l i==off)&&HC h g n w then some (w,[])else none|none=>none)|_=>none)
 |.extract i,[.tp l]=>(match tM l i with|some w=>some (w,[])|none=>none)
 |.len true,[.x .s s]=>some (.x (.i .i64) (s.size:Int),[])
 |.len false,[.nl 0]=>some (.x (.i .i64) (0:Int),[])
 |.len false,[.sr id]=>(match fO h id with|some (.rw _ s _)=>some (.x (.i .i64) (s.l.length:Int),[])|_=>none)
 |.len false,[v]=>(match uQ h v with|some ⟨_,s,_⟩=>some (.x (.i .i64) (s.l.length:Int),[])|none=>none)
 |.tg m,.x (.i k) x::r=>(match Sf m k x r with|some y=>some (.x (.i k) y,[])|none=>none)
 |.tg m,.x (.f k) x::r=>(match JY m k x r with|some y=>some (.x (.f k) y,[])|none=>none)
 |.build z ps,vs=>bif uP (oL o.t) z&&oI o.t&&eW (PN o.t) false o.t then(match yH o.t o.fi ps vs (PN o.t)with|some v=>some (v,[])|none=>none)else none
 |.lookup ka ks va z ok,[m,kv]=>(match OQ h m with
  |some ⟨kt,vt,mp,l⟩=>(match uL kt kv with
   |some k=>bif(oI kt==ka)&&(oI vt==va)&&decide (Ff kt=some ks)&&uP (oL vt) z&&lJ vt&&(va||bY vt==1)then
     some (bif ok then .tp (.co (.x vt (pT mp (tT vt) k)) (.co (.x .b (L4 mp k)) .ni))else .x vt (pT mp (tT vt) k),l)else none
   |none=>none)
  |none=>none)
 |_,_=>none
def yI{α:Type}(s:Sl α)(x r:List α):Sl α:=match x with|[]=>(match s with|.nil=>.nil|.mk _=>.mk r)|_::_=>.mk r
def jF{α:Type}:Sl α->Sl α->Option Unit
 |.nil,.nil=>some ()
 |.mk a,.mk b=>OS a b
 |_,_=>none
def kq(s:S2)(o:O):S2:=⟨s.dF,(s.next,some o)::s.heap,s.next+1,s.next::s.wo,s.gh⟩
def eU(s:S2)(id:Nat)(o:Option O):S2:=⟨s.dF,(id,o)::s.heap,s.next,id::s.wo,s.gh⟩
def Db(h:H2)(id:Nat):Option O:=match fO h id with|some (.ar t s v)|some (.im t s v)=>some (.im t s v)|some (.ib t v)=>some (.ib t v)|some (.bx t c)=>bif lJ t&&Nat.blt (bY t) 300 then(match jW h c with|some (_,[])=>(match uL t c with|some v=>some (.ib t v)|none=>none)|_=>none)else none|_=>none
def rM(h:H2):List Nat->S2->Option S2
 |[],s=>some s
 |id::r,s=>match fO h id with|some (.rw _ _ none)=>(match rM h r s with|some s=>some (eU s id none)|none=>none)|_=>(match Db h id,rM h r s with|some o,some s=>some (eU s id (some o))|_,_=>none)
def DD(t:Ty):Bool:=lJ t&&Nat.blt 0 (bY t)
def zM(h:H2)(t:Ty)(len:Nat):Nat->List Nat->List V->Option (List (El t)×List Nat)
 |m,[],[]=>some (ak (len-m) (tT t),[])
 |m,i::is,v::vs=>
  match jW h v with
  |some (w,a)=>(match uL t w with
   |some y=>bif jQ m i&&Nat.blt i len then(match zM h t len (i+1) is vs with|some (l,b)=>some (ak (i-m) (tT t)++y::l,a++b)|none=>none)else none
   |none=>none)
  |none=>none
 |_,_,_=>none
def eh:List V->Option (List Int)
 |[]=>some []
 |.x (.i _) n::r=>match eh r with|some l=>some (n::l)|none=>none
 |_=>none
def G6(h:H2):V->Option Int
 |.nl 0=>some 0
 |v=>match uQ h v with|some ⟨_,v,_⟩=>some (v.l.length:Int)|none=>none
def Pq{α:Type}(w:Sl α)(lo n:Nat)(z:α):Option (Sl α):=match w with|.nil=>none|.mk l=>some (.mk (A4 l lo n (ak n z)))
def uW{β:Type}(sz:Nat)(h:H2)(x:V)(l u:Int)(k:V->Option β):Option β:=
 match x with
 |.x (.sl t) v=>bif bY t==sz then(o5 v.l l u).bind fun y=>k (.x (.sl t) (v.to y))else none
 |.so id=>(match fO h id with
  |some (.ar t v ver)=>bif bY t==sz then(o5 v.l l u).bind fun y=>k (.sb id ver l.toNat t (v.to y))else none
  |some (.im t v ver)=>bif bY t==sz then(o5 v.l l u).bind fun y=>k (.sb id ver l.toNat t (v.to y))else none
  |_=>none)
 |.sb id ver lo t v=>bif bY t==sz then(o5 v.l l u).bind fun y=>k (.sb id ver (lo+l.toNat) t (v.to y))else none
 |.nl 0=>(o5 ([]:List Unit) l u).bind fun _=>k (.nl 0)
 |_=>none
def RN{β:Type}(t:Ty)(sz len:Nat)(z:List Value)(pl:List Nat)(vs:List V)(s:S2)(k:V->S2->List Nat->Option β):Option β:=
 bif(bY t==sz)&&uP ((ak len (oL t)).flatten) z&&DD t then
  (match zM s.heap t len 0 pl vs with
  |some (l,a)=>(match rM s.heap a s with|some s'=>k (.so s.next) (kq s' (.ar t (.mk l) 0)) a|none=>none)
  |none=>none)else none
def H4(ln:Option (Nat×Nat))(m:Nat):Bool:=match ln with|none=>true|some (m',_)=>lS m' m
def Gf{β:Type}(id m:Nat)(t:Ty)(p:qU)(w:V)(s:S2)(k:S2->List Nat->Option β):Option β:=
 match fO s.heap id with
 |some (.rw u v ln)=>(match p,w with
  |[],.so id2=>(match fO s.heap id2 with
   |some (.ar u2 r _)=>(match gN (.sl u2) (.sl u) r with
    |some r=>bif decide (t=.sl u)&&!(id2==id)&&H4 ln m then k (eU (eU s id2 none) id (some (.rw u (.mk (v.l.set m r)) none))) [id,id2]else none
    |none=>none)
   |_=>none)
  |_,_=>none)
 |some (.ar u l ver)=>(match jW s.heap w with
  |some (w,a)=>bif decide (u=t)then(match sG u p with
   |some q=>(match uL q w with
    |some y=>(match pI (.x u (gt l.l m)) p (.x q y)with
     |some c=>(match iL u c with
      |some y=>(match rM s.heap a s with|some s=>bif !a.contains id then k (eU s id (some (.ar u (.mk (l.l.set m y)) (ver+1)))) (id::a)else none|none=>none)
      |none=>none)
     |none=>none)
    |none=>none)
   |none=>none)else none
  |none=>none)
 |_=>none
def part{β:Type}(o:OP)(vs:List V)(s:S2)(k:V->S2->List Nat->Option β):Option β:=
 match o.o.k,vs with
 |.AL .quo,[.x (.i q) a,.x (.i q') b]=>bif decide (q=q')then(Ry q a b).bind fun x=>k (.x (.i q) x) s []else none
 |.AL .rem,[.x (.i q) a,.x (.i q') b]=>bif decide (q=q')then(QH q a b).bind fun x=>k (.x (.i q) x) s []else none
 |.AL .shl,[.x (.i q) a,.x (.i _) b]=>(QB q a b).bind fun x=>k (.x (.i q) x) s []
 |.AL .shr,[.x (.i q) a,.x (.i _) b]=>(QA q a b).bind fun x=>k (.x (.i q) x) s []
 |.AL .add,[.x .s a,.x .s b]=>(RK a b).bind fun x=>k (.x .s x) s []
 |.alloc z,[]=>bif uP (oL o.t) z&&eW (PN o.t) false o.t then k (.op s.next o.t []) (kq s (.bx o.t (PN o.t))) []else none
 |.box,[v]=>(match NM o.t v with|some w=>k (.op s.next o.t []) (kq s (.bx o.t w)) []|none=>none)
 |.buildSlice sz len z pl,vs=>RN o.t sz len z pl vs s k
 |.store n,[.op id t p,w]=>bif(zp w==n)then(match fO s.heap id with
  |some (.bx u c)=>bif decide (u=t)then(match sG t p with
   |some a=>(match NM a w with
    |some w=>(match pI c p w with|some c=>bif eW c false t then k (.tp .ni) (eU s id (some (.bx t c))) [id]else none|none=>none)
    |none=>none)
   |none=>none)else none
  |_=>none)else none
 |.u6,[.ep id m u []]=>(match fO s.heap id with
  |some (.rw t v none)=>bif decide (u=.sl t)then k (.so s.next) (kq (eU s id (some (.rw t v (some (m,s.next))))) (.ar t (gt v.l m) 0)) [id]else none
  |_=>none)
 |.BX szi,[.x (.i _) l,.x (.i _) c]=>(match o.t with
  |.sl t=>bif(bY t==szi)&&DD t then(A0 (Sl.nil:Sl (El t)) l c).bind fun r=>k (.sr s.next) (kq s (.rw t (.mk r) none)) []else none
  |_=>none)
 |.store n,[.ep id m t p,w]=>bif(zp w==n)then Gf id m t p w s (fun s l=>k (.tp .ni) s l)else none
 |.makeSlice z,[.x (.i _) l,.x (.i _) c]=>bif uP (oL o.t) z&&DD o.t then(A0 (tT o.t) l c).bind fun r=>k (.so s.next) (kq s (.ar o.t (.mk r) 0)) []else none
 |.slice true _ lo hi,.x .s x::r=>(match lo,hi,eh r with
  |false,false,some []=>(A8 x 0 x.size).bind fun y=>k (.x .s y) s []
  |true,false,some [l]=>(A8 x l x.size).bind fun y=>k (.x .s y) s []
  |false,true,some [u]=>(A8 x 0 u).bind fun y=>k (.x .s y) s []
  |true,true,some [l,u]=>(A8 x l u).bind fun y=>k (.x .s y) s []
  |_,_,_=>none)
 |.slice false sz lo hi,x::r=>
  (match lo,hi,eh r,G6 s.heap x with
  |false,false,some [],some n=>uW sz s.heap x 0 n fun v=>k v s []
  |true,false,some [l],some n=>uW sz s.heap x l n fun v=>k v s []
  |false,true,some [u],some _=>uW sz s.heap x 0 u fun v=>k v s []
  |true,true,some [l,u],some _=>uW sz s.heap x l u fun v=>k v s []
  |_,_,_,_=>none)
 |.indexAddr none sz,[x,.x (.i _) i]=>(match x with
  |.x (.sl t) v=>bif bY t==sz then(cZ i v.l.length).bind fun m=>k (.pt t (gt v.l m)) s []else none
  |.so id=>(match uQ s.heap (.so id)with|some ⟨t,v,_⟩=>bif bY t==sz then(cZ i v.l.length).bind fun m=>k (.ep id m t []) s []else none|none=>none)
  |.sb id _ lo t v=>bif bY t==sz then(cZ i v.l.length).bind fun m=>k (.ep id (lo+m) t []) s []else none
  |.sr id=>(match fO s.heap id with|some (.rw t v _)=>bif 1==sz then(cZ i v.l.length).bind fun m=>k (.ep id m (.sl t) []) s []else none|_=>none)
  |_=>none)
 |.indexAddr (some n) sz,[x,.x (.i _) i]=>(match x with
  |.op id t p=>(match sG t p with|some (.ar n' u)=>bif(n'==n)&&(bY u==sz)then(cZ i n).bind fun m=>k (.op id t (p++[.ix m])) s []else none|_=>none)
  |.ep id q t p=>(match sG t p with|some (.ar n' u)=>bif(n'==n)&&(bY u==sz)then(cZ i n).bind fun m=>k (.ep id q t (p++[.ix m])) s []else none|_=>none)
  |.pt (.ar n' u) v=>bif(n'==n)&&(bY u==sz)then(cZ i n).bind fun m=>k (.pt u (gt v.1 m)) s []else none
  |_=>none)
 |.qG,[.x .s x,.x (.i _) i]=>(TI x i).bind fun c=>k (.x (.i .u8) c) s []
 |.index g n sz,[.x (.ar n' u) v,.x (.i _) i]=>bif(n'==n)&&(bY u==sz)&&(oI u==g)&&lJ u&&(g||sz==1)then(cZ i n).bind fun m=>k (.x u (gt v.1 m)) s []else none
 |.append sz,[a,x]=>
  (match Lh o.t s.heap x with
  |some ⟨t,m,aw⟩=>bif(bY t==sz)&&DD t then(match a with
   |.nl 0=>(m_ ([]++m.l)).bind fun r=>k (.so s.next) (kq s (.ar t (yI Sl.nil m.l r) 0)) aw
   |.x (.sl _) v=>bif Sl.fT v then((m_ ([]++m.l)).bind fun r=>k (.so s.next) (kq s (.ar t (yI Sl.nil m.l r) 0)) aw)else none
   |.so id=>(match fO s.heap id with
    |some (.ar u v _)=>(match gN (.sl t) (.sl u) m with
     |some m=>(m_ (v.l++m.l)).bind fun r=>k (.so s.next) (kq (eU s id none) (.ar u (yI v m.l r) 0)) (id::aw)
     |none=>none)
    |_=>none)
   |.sb id _ lo u v=>(match fO s.heap id,gN (.sl t) (.sl u) m with
    |some (.ar _ s0 _),some m=>bif jQ s0.l.length (lo+(v.l.length+m.l.length))then((m_ (v.l++m.l)).bind fun r=>k (.so s.next) (kq (eU s id none) (.ar u (yI v m.l r) 0)) (id::aw))else none
    |_,_=>none)
   |_=>none)else none
  |none=>none)
 |.copy sz,[a,x]=>
  (match Lh o.t s.heap x with
  |some ⟨t,m,aw⟩=>bif bY t==sz then(match a with
   |.nl 0=>k (.x (.i .i64) (0:Int)) s aw
   |.so id=>(match fO s.heap id with
    |some (.ar u v ver)=>(match gN (.sl t) (.sl u) m with
     |some m=>k (.x (.i .i64) ((min m.l.length v.l.length:Nat):Int)) (eU s id (some (.ar u (v.to (A4 v.l 0 v.l.length m.l)) (ver+1)))) (id::aw)
     |none=>none)
    |_=>none)
   |.sb id ver lo _ v=>(match fO s.heap id with
    |some (.ar u w ver')=>(match gN (.sl t) (.sl u) m with
     |some m=>bif ver'==ver then k (.x (.i .i64) ((min m.l.length v.l.length:Nat):Int)) (eU s id (some (.ar u (w.to (A4 w.l lo v.l.length m.l)) (ver+1)))) (id::aw)else none
     |none=>none)
    |_=>none)
   |_=>none)else none
  |none=>none)
 |.clear zz,[a]=>(match a with
  |.sb id ver lo _ v=>(match fO s.heap id with
   |some (.ar u w ver')=>bif(ver'==ver)&&uP (oL u) zz&&DD u then(Pq w lo v.l.length (tT u)).bind fun w=>k (.tp .ni) (eU s id (some (.ar u w (ver+1)))) [id]else none
   |_=>none)
  |_=>none)
 |.makeMap ka va,[]=>(match o.t with
  |.mp kt vt=>bif(oI kt==ka)&&(oI vt==va)&&lJ vt&&(Ff kt).isSome then k (.om s.next) (kq s (.mp kt vt Mp.none)) []else none
  |_=>none)
 |.mapEntry ka ks va z,[.om id,kv]=>(match fO s.heap id with
  |some (.mp kt vt m)=>(match uL kt kv with
   |some q=>bif(oI kt==ka)&&(oI vt==va)&&decide (Ff kt=some ks)&&uP (oL vt) z&&lJ vt&&(va||bY vt==1)then
     k (.tp (.co (.x vt (m6 m (tT vt) q).2.1) (.co (.x (.i .i64) (m6 m (tT vt) q).2.2) .ni))) (eU s id (some (.mp kt vt (m6 m (tT vt) q).1))) [id]else none
   |none=>none)
  |_=>none)
 |.entryStore va n,[.om id,.x (.i _) st,w]=>(match fO s.heap id with
  |some (.mp kt vt m)=>(match uL vt w with
   |some y=>bif(oI vt==va)&&(bY vt==n)&&lJ vt then(wy m st y).bind fun m=>k (.tp .ni) (eU s id (some (.mp kt vt m))) [id]else none
   |none=>none)
  |_=>none)
 |_,_=>none
@[reducible] def rR:List Ty->Type
 |[]=>Unit
 |a::r=>FY a r
where FY:Ty->List Ty->Type
 |a,[]=>El a
 |a,c::r=>El a×FY c r
def vd(u:Ty):V->Option (El u)
 |.x t v=>gN t u v
 |_=>none
def Ja{α β:Type}:Option α->Option β->Option (α×β)
 |some x,some y=>some (x,y)
 |_,_=>none
def Ga:(a:Ty)->(r:List Ty)->List V->Option (rR.FY a r)
 |a,[],l=>(match l with|[v]=>vd a v|_=>none)
 |a,c::r,l=>(match l with|v::l=>Ja (vd a v) (Ga c r l)|[]=>none)
def xj:(cs:List Ty)->List V->Option (rR cs)
 |[],[]=>some ()
 |a::r,l=>Ga a r l
 |_,_=>none
def N1:(a:Ty)->(r:List Ty)->rR.FY a r->List V
 |a,[],v=>[.x a v]
 |a,c::r,v=>.x a v.1::N1 c r v.2
def pY:(cs:List Ty)->rR cs->List V
 |[],_=>[]
 |a::r,v=>N1 a r v
inductive Sh where
 | x (t : Ty)            -- data
 | pt (t : Ty)           -- a pointer to data
 | os (t : Ty)           -- a slice of its bq
 | rw (t : Ty)           -- a bw of rows of its bq
 | mp (k v : Ty)         -- a map of its bq
 | pb (t : Ty) (c : Sh)  -- a pointer to a box of its bq
 |st (c:Sh)
 |pr (a c:Sh)
 |nl (k:Nat)
 |fn (f:Nat) (l:Sh)
 |ni
 |gn
 deriving Inhabited,DecidableEq
def Pk:Sh->List Ty
 |.x t|.pt t=>[t]
 |.os t=>[.sl t]
 |.rw t=>[.sl (.sl t)]
 |.mp k v=>[.mp k v]
 |.pb _ c|.st c|.fn _ c=>Pk c
 |.pr a c=>Pk a++Pk c
 |_=>[]
def jh:List Sh->List Ty
 |[]=>[]
 |a::r=>Pk a++jh r
abbrev Wy:=List (List Sh×List Sh)
@[reducible] def wV:Wy->Type
 |[]=>Empty
 |(r,o)::w=>HN r o w
where HN:List Sh->List Sh->Wy->Type
 |r,o,[]=>rR (jh r++jh o)
 |r,o,(r',o')::w=>rR (jh r++jh o)⊕HN r' o' w
def Qj{β:Type}(k:List Sh->List Sh->List V->Option β):(r o:List Sh)->(w:Wy)->wV.HN r o w->Option β
 |r,o,[],z=>k r o (pY (jh r++jh o) z)
 |r,o,(r',o')::w,z=>match z with|.inl z=>k r o (pY (jh r++jh o) z)|.inr z=>Qj k r' o' w z
def Sk{β:Type}(k:List Sh->List Sh->List V->Option β):(w:Wy)->wV w->Option β
 |[],z=>nomatch z
 |(r,o)::w,z=>Qj k r o w z
structure kD where
 ps:List (Bool×Sh)
 al:Wy
 ro:Bool
 ld:List Bool
 fn:rR (jh (ps.map (·.2)))->Option (wV al)
abbrev FU:=List (Nat×kD)
def pN(h:H2):Sh->V->Option (List V×List Nat)
 |.x t,v=>match jW h v with|some (w,l)=>(match uL t w with|some y=>some ([.x t y],l)|none=>none)|none=>none
 |.pt t,.pt u v=>match gN u t v with|some y=>some ([.x t y],[])|none=>none
 |.pt t,.op id u []=>(match fO h id with
  |some (.bx w c)=>bif decide (w=u)&&iZ h c then(match jW h c with|some (c,l)=>(match uL t c with|some y=>some ([.x t y],id::l)|none=>none)|none=>none)else none
  |some (.ib w v)=>bif decide (w=u)then(match gN w t v with|some y=>some ([.x t y],[id])|none=>none)else none
  |_=>none)
 |.pt t,.ep id n u []=>(match fO h id with
  |some (.ar w s _)|some (.im w s _)=>bif decide (w=u)then(match gN w t (gt s.l n)with|some y=>some ([.x t y],[id])|none=>none)else none
  |_=>none)
 |.nl k,.nl k'=>bif k==k' then some ([],[])else none
 |.fn f c,.fn _ f' l=>bif f==f' then pN h c l else none
 |.pr a c,.co x r=>match pN h a x,pN h c r with|some (l,i),some (m,j)=>some (l++m,i++j)|_,_=>none
 |.ni,.ni=>some ([],[])
 |_,_=>none
def Q3(t:Ty){u:Ty}(v:El (.sl u)):Option (List V×List Nat):=match(v:Sl (El u))with|.nil=>some ([.x (.sl t) Sl.nil],[])|.mk _=>none
def eJ(h:H2):Sh->Bool->V->Option (List V×List Nat)
 |.os t,false,.so id=>(match fO h id with|some (.ar u s _)=>(match gN (.sl u) (.sl t) s with|some s=>some ([.x (.sl t) s],[id])|none=>none)|_=>none)
 |.os t,false,.nl 0=>some ([.x (.sl t) Sl.nil],[])
 |.rw t,false,.sr id=>(match fO h id with|some (.rw u s none)=>(match gN (.sl (.sl u)) (.sl (.sl t)) s with|some s=>some ([.x (.sl (.sl t)) s],[id])|none=>none)|_=>none)
 |.rw t,false,.nl 0=>some ([.x (.sl (.sl t)) Sl.nil],[])
 |.pb t c,false,.op id u []=>(match fO h id with|some (.bx w v)=>bif decide (w=u)&&decide (u=t)then(match eJ h c false v with|some (l,i)=>some (l,id::i)|none=>none)else none|_=>none)
 |.nl k,false,.nl k'=>bif k==k' then some ([],[])else none
 |.x t,false,v=>match uL t v with|some y=>some ([.x t y],[])|none=>none
 |.st c,false,.rc l=>eJ h c true l
 |.st c,false,.x (.st u) v=>eJ h c true (Jd u v)
 |.pr a c,true,.co x r=>match(match a,x with|.os t,.x (.sl _) v=>Q3 t v|_,_=>eJ h a false x),eJ h c true r with|some (l,i),some (m,j)=>some (l++m,i++j)|_,_=>none
 |.ni,true,.ni=>some ([],[])
 |_,_,_=>none
def sH:Sh->Bool->List V->S2->Option (V×List V×S2)
 |.x t,false,.x u v::l,s=>bif decide (u=t)&&lJ t then some (.x u v,l,{s with next:=s.next+bY t})else none
 |.os t,false,.x (.sl u) v::l,s=>bif decide (u=t)&&DD t then some (.so s.next,l,kq s (.ar u v 0))else none
 |.rw t,false,.x (.sl (.sl u)) v::l,s=>bif decide (u=t)&&DD t then some (.sr s.next,l,kq s (.rw u v none))else none
 |.pb t c,false,l,s=>
  match sH c false l {s with next:=s.next+1}with
  |some (w,l,s')=>bif eW w false t then some (.op s.next t [],l,eU s' s.next (some (.bx t w)))else none
  |none=>none
 |.nl k,false,l,s=>some (.nl k,l,{s with next:=s.next+1})
 |.st c,false,l,s=>match sH c true l s with|some (w,l,s)=>some (.rc w,l,s)|none=>none
 |.pr a c,true,l,s=>match sH a false l s with|some (x,l,s)=>(match sH c true l s with|some (r,l,s)=>some (.co x r,l,s)|none=>none)|none=>none
 |.ni,true,l,s=>some (.ni,l,s)
 |_,_,_,_=>none
def J0:List Sh->List V->S2->Option (List V×List V×S2)
 |[],l,s=>some ([],l,s)
 |a::r,l,s=>match sH a false l s with|some (x,l,s)=>(match J0 r l s with|some (xs,l,s)=>some (x::xs,l,s)|none=>none)|none=>none
def vN(h:H2):List (Bool×Sh)->List V->Option (List V×List Nat×List (V×List Nat))
 |[],[]=>some ([],[],[])
 |(b,c)::r,v::vs=>
  match vN h r vs with
  |some (m,j,q)=>
   bif b then(match eJ h c false v with|some (l,i)=>some (l++m,j,(v,i)::q)|none=>none)
   else(match pN h c v with|some (l,i)=>some (l++m,i++j,q)|none=>none)
  |none=>none
 |_,_=>none
def B8(h:H2)(f:Nat)(vs:List V):FU->Option (kD×List V×List Nat×List (V×List Nat))
 |[]=>none
 |(g,sp)::r=>bif g==f then(match vN h sp.ps vs with|some (l,i,q)=>some (sp,l,i,q)|none=>B8 h f vs r)else B8 h f vs r
def jN:List Nat->S2->S2
 |[],s=>s
 |id::r,s=>eU (jN r s) id none
def eK{β:Type}:List Sh->List (V×List Nat)->List V->S2->(S2->Option β)->Option β
 |[],[],[],s,k=>k s
 |.nl _::r,(_,[])::q,l,s,k=>eK r q l s k
 |.gn::r,(_,i)::q,l,s,k=>eK r q l (jN i s) k
 |.os t::r,(.nl 0,[])::q,.x (.sl u) v::l,s,k=>(match gN (.sl u) (.sl t) v with|some v=>(jF v (Sl.nil:Sl (El t))).bind fun _=>eK r q l s k|none=>none)
 |.os t::r,(.so id,_)::q,.x (.sl u) v::l,s,k=>(match fO s.heap id,gN (.sl u) (.sl t) v with
  |some (.ar w old ver),some v=>(match gN (.sl t) (.sl w) v with
   |some v=>(jF v old).bind fun _=>eK r q l (eU s id (some (.ar w v (ver+1)))) k
   |none=>none)
  |_,_=>none)
 |.rw t::r,(.nl 0,[])::q,.x (.sl (.sl u)) v::l,s,k=>(match gN (.sl (.sl u)) (.sl (.sl t)) v with|some v=>(jF (v:Sl (Sl (El t))) (Sl.nil:Sl (Sl (El t)))).bind fun _=>eK r q l s k|none=>none)
 |.rw t::r,(.sr id,_)::q,.x (.sl (.sl u)) v::l,s,k=>(match fO s.heap id,gN (.sl (.sl u)) (.sl (.sl t)) v with
  |some (.rw w old _),some v=>(match gN (.sl (.sl t)) (.sl (.sl w)) v with
   |some v=>(jF (v:Sl (Sl (El w))) old).bind fun _=>eK r q l (eU s id (some (.rw w v none))) k
   |none=>none)
  |_,_=>none)
 |.pb t c::r,(.op id u [],i)::q,l,s,k=>(match fO s.heap id with
  |some _=>(match sH c false l s with
   |some (w,l,s)=>bif eW w false t&&decide (u=t)then eK r q l (eU (jN i s) id (some (.bx t w))) k else none
   |none=>none)
  |none=>none)
 |_,_,_,_,_=>none
def QG:List V->V
 |[v]=>v
 |l=>.tp (bw l)
def z5:List Nat->Bool
 |[]=>true
 |a::r=>!r.contains a&&z5 r
def w8:V->Option (List V)
 |.ni=>some []
 |.co a r=>bif(zp a==1)&&!uq a then(match w8 r with|some l=>some (a::l)|none=>none)else none
 |_=>none
def y_{β:Type}(tb:FU)(ro:Bool)(ld:List Bool)(f:V)(vs:List V)(s:S2)(k:V->S2->List Nat->Option β):Option β:=
 match f with
 |.fn _ fid caps=>
  match(match w8 caps with|some cs=>B8 s.heap fid (vs++cs) tb|none=>none)with
  |some (sp,pay,aw,q)=>
   bif(!ro||sp.ro)&&decide (sp.ld=ld)&&z5 (q.flatMap (·.2))&&(q.flatMap (·.2)).all (fun i=>!aw.contains i)then
    match xj (jh (sp.ps.map (·.2))) pay with
    |some p=>(sp.fn p).bind fun z=>Sk (fun rs os l=>
     match(bif ro then some s else rM s.heap aw s)with
     |some s0=>eK os q (l.drop (jh rs).length) s0 fun s1=>
      (match J0 rs (l.take (jh rs).length) s1 with
      |some (xs,_,s2)=>k (QG xs) s2 (aw++q.flatMap (·.2))
      |none=>none)
     |none=>none) sp.al z
    |none=>none
   else none
  |none=>none
 |_=>none
structure Rg where
 kn:List (Nat×Bool)
 cd:List (Nat×Nat×Bool×V)
def Ra(kn:List (Nat×Bool))(g:Nat):Option Bool:=cn kn g
def KQ(s:S2)(q:Rg)(gc:Option (Nat×Bool)):Operand->Option V
 |.tmp t=>match cn q.cd t with|some (g,b,v)=>bif decide (gc=some (g,b))||decide (Ra q.kn g=some b)then(bif iZ s.heap v then some v else none)else none|none=>KP s.dF s.heap (.tmp t)
 |o=>KP s.dF s.heap o
def GR(s:S2)(q:Rg)(gc:Option (Nat×Bool)):List Operand->Option (List V)
 |[]=>some []
 |a::r=>match KQ s q gc a,GR s q gc r with|some x,some y=>some (x::y)|_,_=>none
inductive GV where
 |run
 |skip
 |K8 (g:Nat) (b:Bool) (c:Bool)
def VD(e:List (Nat×V))(kn:List (Nat×Bool)):Option (Nat×Bool)->Option GV
 |none=>some .run
 |some (g,b)=>
  match Ra kn g with
  |some c=>some (bif c==b then .run else .skip)
  |none=>(match cn e g with
   |some (.kb c)=>some (bif c==b then .run else .skip)
   |some (.x .b c)=>some (.K8 g b c)
   |some .no=>some .skip
   |_=>none)
def LD(s:S2)(q:Rg)(gc:Option (Nat×Bool)):List Operand->Option V
 |[.tmp g,a,b]=>match Ra q.kn g,cn s.dF g with|some c,_=>KQ s q gc (bif c then a else b)|none,some (.kb c)=>KQ s q gc (bif c then a else b)|none,some (.x .b c)=>(match KQ s q (some (g,true)) a,KQ s q (some (g,false)) b with|some x,some y=>Vy c x y|_,_=>none)|_,_=>none
 |[.const (.bool c),a,b]=>KQ s q gc (bif c then a else b)
 |_=>none
def Hb:K->Bool
 |.pick=>true
 |_=>false
def N2(o:OP)(s:S2)(q:Rg)(gc:Option (Nat×Bool)):Option (V×List Nat):=
 bif Hb o.o.k then(match LD s q gc o.o.args with|some v=>some (v,[])|none=>none)
 else(match GR s q gc o.o.args with|some vs=>Qs o vs s.heap|none=>none)
def uT(s:S2)(d:Option Nat)(v:V):S2:=match d with|some d=>{s with dF:=(d,v)::s.dF}|none=>s
def Pr(q:Rg)(d:Option Nat):Option Rg:=match d with|none=>some q|some d=>bif q.cd.any (fun e=>e.2.1==d)||q.kn.any (fun e=>e.1==d)then none else some ⟨q.kn,q.cd.filter (fun e=>!(e.1==d))⟩
abbrev KT:=List (List Nat×List Nat)
def TG{β:Type}(tb:FU)(o:OP)(s:S2)(q:Rg)(gc:Option (Nat×Bool))(k:V->S2->List Nat->Option β):Option β:=
 match N2 o s q gc with
 |some (v,l)=>k v s l
 |none=>
  match GR s q gc o.o.args with
  |some vs=>
   (match o.o.k,vs with
   |.call ro ld,f::vs=>y_ tb ro ld f vs s k
   |_,vs=>part o vs s k)
  |none=>none
def NN(dr:Option Nat)(i:Nat)(s:S2):S2:=match dr with|some b=>{s with next:=b+jE*i}|none=>s
def J6(dr:Option Nat)(i:Nat)(s:S2):Bool:=match dr with|some b=>jQ s.next (b+jE*(i+1))|none=>true
def Sm(d:Option Nat)(r:List OP):Bool:=
 match d with
 |some d=>r.any fun o=>match o.o.guard with|some (g,_)=>lS g d|none=>false
 |none=>false
def ov{β:Type}(tb:FU)(dr:Option Nat):List OP->Nat->S2->Rg->KT->(S2->KT->Option β)->Option β
 |[],_,s,_,tr,k=>k s tr
 |o::r,i,s0,q,tr,k=>
  let s:=NN dr i s0
  let go:Rg->Option β:=fun q=>TG tb o s q o.o.guard fun v s1 l=>
   bif J6 dr i s1 then(match Pr q o.o.dst with
    |some q=>ov tb dr r (i+1) (uT s1 o.o.dst v) q (tr++[(l,s1.wo.take (s1.wo.length-s.wo.length))]) k
    |none=>none)else none
  let no:Rg->Option β:=fun q=>match Pr q o.o.dst with|some q=>ov tb dr r (i+1) (uT s o.o.dst .no) q (tr++[([],[])]) k|none=>none
  match VD s.dF q.kn o.o.guard with
  |none=>none
  |some .run=>go q
  |some .skip=>no q
  |some (.K8 g b c)=>
   match(bif Sm o.o.dst r then none else N2 o s q (some (g,b)))with
   |some (v,l)=>
    (match Pr q o.o.dst,o.o.dst with
    |some q,some d=>bif lS g d then none else ov tb dr r (i+1) (uT s (some d) .gn) ⟨q.kn,(d,g,b,v)::q.cd⟩ (tr++[(l,[])]) k
    |_,_=>none)
   |none=>(match b with
    |true=>bif c then go ⟨(g,true)::q.kn,q.cd⟩else no ⟨(g,false)::q.kn,q.cd⟩
    |false=>bif c then no ⟨(g,true)::q.kn,q.cd⟩else go ⟨(g,false)::q.kn,q.cd⟩)
inductive JV where
 |x (t:Ty)
 |pt (t:Ty)
 |so (j:Nat)
 |sr (j:Nat)
 |om (j:Nat)
 |op (j:Nat) (t:Ty) (p:List Nat)
 |nl (k:Nat)
 |fn (z:Bool) (f:Nat) (l:JV)
 |rc (l:JV)
 |ni
 |co (a r:JV)
 |sm
 |gn
 deriving Inhabited
inductive JO where
 |ar (t:Ty)
 |bx (t:Ty) (c:JV)
 |mp (k v:Ty)
 |rw(t:Ty)
 deriving Inhabited
structure J where
 vs:List (Nat×JV):=[]
 gs:JV:=.sm
 os:List JO:=[]
 kl:List Nat:=[]
 deriving Inhabited
def Kx:JV->List Ty
 |.x t|.pt t=>[t]
 |.fn _ _ l|.rc l=>Kx l
 |.co a r=>Kx a++Kx r
 |_=>[]
def P_:List (Nat×JV)->List Ty
 |[]=>[]
 |(_,a)::r=>Kx a++P_ r
def VM:JO->List Ty
 |.ar t=>[.sl t]
 |.bx _ c=>Kx c
 |.mp k v=>[.mp k v]
 |.rw t=>[.sl (.sl t)]
def Qa:List JO->List Ty
 |[]=>[]
 |a::r=>VM a++Qa r
def qS(j:J):List Ty:=P_ j.vs++(Kx j.gs++Qa j.os)
structure Bd where
 j:Nat
 id:Option Nat
def Nu:List Bd->Nat->Option Bd
 |[],_=>none
 |b::r,j=>bif b.j==j then some b else Nu r j
def wQ(m:List Bd)(b:Bd):Option (List Bd):=
 match Nu m b.j with
 |none=>bif(match b.id with|some i=>m.all (fun c=>match c.id with|some i'=>!(i'==i)|none=>true)|none=>true)then some (b::m)else none
 |some c=>(match b.id,c.id with
  |some i,some i'=>bif i==i' then some m else none
  |_,_=>none)
def Es:qU->Option (List Nat)
 |[]=>some []
 |.fd i::p=>match Es p with|some l=>some (i::l)|none=>none
 |.ix _::_=>none
def du:JV->Bool->V->List Bd->Option (List V×List Bd)
 |.x t,false,v,m=>match uL t v with|some y=>some ([.x t y],m)|none=>none
 |.pt t,false,.pt u v,m=>match gN u t v with|some y=>some ([.x t y],m)|none=>none
 |.so j,false,.so id,m=>match wQ m ⟨j,some id⟩with|some m=>some ([],m)|none=>none
 |.so j,false,.nl 0,m=>match wQ m ⟨j,none⟩with|some m=>some ([],m)|none=>none
 |.so j,false,.x (.sl _) v,m=>bif Sl.fT v then(match wQ m ⟨j,none⟩with|some m=>some ([],m)|none=>none)else none
 |.sr j,false,.sr id,m=>match wQ m ⟨j,some id⟩with|some m=>some ([],m)|none=>none
 |.om j,false,.om id,m=>match wQ m ⟨j,some id⟩with|some m=>some ([],m)|none=>none
 |.op j t p,false,.op id u q,m=>bif decide (u=t)&&decide (Es q=some p)then(match wQ m ⟨j,some id⟩with|some m=>some ([],m)|none=>none)else none
 |.nl k,false,.nl k',m=>bif k==k' then some ([],m)else none
 |.fn z f l,false,.fn z' f' l',m=>bif(z==z')&&(f==f')then du l true l' m else none
 |.rc l,false,.rc l',m=>du l true l' m
 |.rc l,false,.x (.st t) v,m=>du l true (Jd t v) m
 |.ni,true,.ni,m=>some ([],m)
 |.co a r,true,.co x y,m=>match du a false x m with|some (l,m)=>(match du r true y m with|some (l',m)=>some (l++l',m)|none=>none)|none=>none
 |_,_,_,_=>none
def Ch(s:S2):List (Nat×JV)->List Bd->Option (List V×List Bd)
 |[],m=>some ([],m)
 |(t,a)::r,m=>match KP s.dF s.heap (.tmp t)with|some v=>(match du a false v m with|some (l,m)=>(match Ch s r m with|some (l',m)=>some (l++l',m)|none=>none)|none=>none)|none=>none
def Nj(h:H2)(j:Nat)(o:JO)(m:List Bd):Option (List V×List Bd):=
 match Nu m j with
 |some b=>(match o,b.id with
  |.ar t,none=>bif DD t then some ([.x (.sl t) Sl.nil],m)else none
  |.ar t,some id=>(match fO h id with|some (.ar u s _)=>(match gN (.sl u) (.sl t) s with|some s=>some ([.x (.sl t) s],m)|none=>none)|_=>none)
  |.rw t,some id=>(match fO h id with|some (.rw u s none)=>(match gN (.sl (.sl u)) (.sl (.sl t)) s with|some s=>some ([.x (.sl (.sl t)) s],m)|none=>none)|_=>none)
  |.bx t c,some id=>(match fO h id with|some (.bx u v)=>bif decide (u=t)then du c false v m else none|_=>none)
  |.mp k v,some id=>(match fO h id with|some (.mp k' v' y)=>(match gN (.mp k' v') (.mp k v) y with|some y=>some ([.x (.mp k v) y],m)|none=>none)|_=>none)
  |_,_=>none)
 |none=>none
def Ci(h:H2):List JO->Nat->List Bd->Option (List V×List Bd)
 |[],_,m=>some ([],m)
 |o::r,j,m=>match Nj h j o m with|some (l,m)=>(match Ci h r (j+1) m with|some (l',m)=>some (l++l',m)|none=>none)|none=>none
def tE:V->V->Bool
 |.so i,.so j=>i==j
 |.sr i,.sr j=>i==j
 |.op i t [],.op j u []=>(i==j)&&decide (t=u)
 |.nl k,.nl l=>k==l
 |.gn,.gn=>true
 |_,_=>false
def zH:V->V->Bool
 |.ni,.ni=>true
 |.co a r,.co x y=>tE a x&&zH r y
 |_,_=>false
def qT(h:H2):JV->V->V->List Bd->Option (List V×List Bd)
 |.sm,g0,g,m=>bif zH g0 g then some ([],m)else none
 |.ni,.ni,.ni,m=>some ([],m)
 |.co a r,.co x0 y0,.co x y,m=>match a with|.sm=>bif tE x0 x then qT h r y0 y m else none|.gn=>qT h r y0 y m|a=>bif iZ h x then(match du a false x m with|some (l,m)=>(match qT h r y0 y m with|some (l',m)=>some (l++l',m)|none=>none)|none=>none)else none
 |_,_,_,_=>none
def Br:List (Nat×JV)->S2->S2
 |[],s=>s
 |(t,.so _)::r,s=>(match cn s.dF t with
  |some (.sb id ver _ u x)=>(match fO s.heap id with
   |some (.ar _ _ v)=>bif lJ u&&v==ver then Br r ⟨(t,.so s.next)::s.dF,(s.next,some (.ar u x 0))::(id,none)::s.heap,s.next+1,s.next::id::s.wo,s.gh⟩else Br r s
   |_=>Br r s)
  |_=>Br r s)
 |_::r,s=>Br r s
def Ck(j:J)(s0:S2)(s:S2):Option (List V):=
 match Ch s j.vs []with
 |some (l1,m)=>match qT s.heap j.gs s0.gh s.gh m with
  |some (l2,m)=>(match Ci s.heap j.os 0 m with
   |some (l3,m)=>bif s.wo.all (fun i=>jQ s0.next i||j.kl.contains i)&&m.all (fun b=>Nat.blt b.j j.os.length&&(match b.id with|some i=>jQ s0.next i||j.kl.contains i|none=>true))then some (l1++(l2++l3))else none
   |none=>none)
  |none=>none
 |none=>none
def yF(j:J)(s0:S2)(s:S2):Option (List V):=match Br j.vs s with|⟨e,h,n,w,g⟩=>Ck j s0 ⟨e,h,n,w,g⟩
def jD(b:Nat):JV->Bool->List V->V->Option (V×List V)
 |.x t,false,.x u v::l,_=>bif decide (u=t)&&lJ u then some (.x u v,l)else none
 |.pt t,false,.x u v::l,_=>bif decide (u=t)&&lJ u then some (.pt u v,l)else none
 |.so j,false,l,_=>some (.so (b+j),l)
 |.sr j,false,l,_=>some (.sr (b+j),l)
 |.om j,false,l,_=>some (.om (b+j),l)
 |.op j t p,false,l,_=>some (.op (b+j) t (p.map .fd),l)
 |.nl k,false,l,_=>some (.nl k,l)
 |.fn z f c,false,l,_=>match jD b c true l .ni with|some (w,l)=>some (.fn z f w,l)|none=>none
 |.rc c,false,l,_=>match jD b c true l .ni with|some (w,l)=>some (.rc w,l)|none=>none
 |.ni,true,l,_=>some (.ni,l)
 |.co a r,true,l,.co x y=>match jD b a false l x with|some (v,l)=>(match jD b r true l y with|some (w,l)=>some (.co v w,l)|none=>none)|none=>none
 |.co a r,true,l,_=>match jD b a false l .gn with|some (v,l)=>(match jD b r true l .ni with|some (w,l)=>some (.co v w,l)|none=>none)|none=>none
 |.sm,_,l,v=>some (v,l)
 |.gn,false,l,_=>some (.gn,l)
 |_,_,_,_=>none
def Ia(b:Nat):List (Nat×JV)->List V->Option (List (Nat×V)×List V)
 |[],l=>some ([],l)
 |(t,a)::r,l=>match jD b a false l .gn with|some (v,l)=>(match Ia b r l with|some (e,l)=>some ((t,v)::e,l)|none=>none)|none=>none
def Gv(b:Nat):JO->List V->Option (O×List V)
 |.ar t,.x (.sl u) v::l=>bif decide (u=t)then some (.ar u v 0,l)else none
 |.rw t,.x (.sl (.sl u)) v::l=>bif decide (u=t)&&DD t then some (.rw u v none,l)else none
 |.bx t c,l=>match jD b c false l .gn with|some (w,l)=>bif eW w false t then some (.bx t w,l)else none|none=>none
 |.mp k v,.x (.mp k' v') m::l=>bif decide (k'=k)&&decide (v'=v)then some (.mp k' v' m,l)else none
 |_,_=>none
def D8(b:Nat):List JO->Nat->List V->Option (H2×List V)
 |[],_,l=>some ([],l)
 |o::r,j,l=>match Gv b o l with|some (o,l)=>(match D8 b r (j+1) l with|some (h,l)=>some ((b+j,some o)::h,l)|none=>none)|none=>none
def vy(j:J)(ds:List Nat)(s0:S2)(l:List V):Option S2:=
 match Ia s0.next j.vs l with
 |some (e,l)=>(match jD s0.next j.gs true l s0.gh with
  |some (g,l)=>(match D8 s0.next j.os 0 l with
   |some (h,_)=>some ⟨e++ds.map (fun t=>(t,V.gn))++s0.dF,h++j.kl.map (fun i=>(i,none))++s0.heap,s0.next+j.os.length,h.map (·.1)++j.kl++s0.wo,g⟩
   |none=>none)
  |none=>none)
 |none=>none
abbrev Ex:=List (tO×J)
@[reducible] def FV:Ex->Type
 |[]=>Empty
 |(_,j)::r=>NF j r
where NF:J->Ex->Type
 |j,[]=>rR (qS j)
 |j,(_,j')::r=>rR (qS j)⊕NF j' r
def MD(s0:S2)(o:tO)(s:S2):(o':tO)->(j:J)->(r:Ex)->Option (FV.NF j r)
 |o',j,[]=>bif decide (o=o')then(match yF j s0 s with|some l=>xj (qS j) l|none=>none)else none
 |o',j,(o2,j2)::r=>bif decide (o=o')then(match yF j s0 s with|some l=>(match xj (qS j) l with|some p=>some (.inl p)|none=>none)|none=>none)
  else(match MD s0 o s o2 j2 r with|some x=>some (.inr x)|none=>none)
def J5(s0:S2)(o:tO)(s:S2):(e:Ex)->Option (FV e)
 |[]=>none
 |(o',j)::r=>MD s0 o s o' j r
def QK{β:Type}(ds:List Nat)(s0:S2)(k:tO->S2->Option β):(o:tO)->(j:J)->(r:Ex)->FV.NF j r->Option β
 |o,j,[],p=>match vy j ds s0 (pY (qS j) p)with|some s=>k o s|none=>none
 |o,j,(o2,j2)::r,x=>match x with|.inl p=>(match vy j ds s0 (pY (qS j) p)with|some s=>k o s|none=>none)|.inr y=>QK ds s0 k o2 j2 r y
def LG{β:Type}(ds:List Nat)(s0:S2)(k:tO->S2->Option β):(e:Ex)->FV e->Option β
 |[],x=>nomatch x
 |(o,j)::r,x=>QK ds s0 k o j r x
inductive C2 where
 |skip
 |Ot (ops:List OP) (dr:Option (List (Nat×Nat))) (jn:Option J)
 |seq (a b:C2) (e:Ex)
 |cond (c:Operand) (a b:C2)
 |block (id:Nat) (a:C2)
 |loop (j:J) (e:Ex) (a:C2)
 |exit (id:Nat)
 |ret
 |gG
 deriving Inhabited
def nT:C2->List Nat
 |.Ot ops _ _=>ops.filterMap (·.o.dst)
 |.seq a b _|.cond _ a b=>nT a++nT b
 |.block _ a|.loop _ _ a=>nT a
 |_=>[]
def Mz:K->Bool
 |.lookup _ _ _ _ _=>true
 |_=>false
def PR(ops:List OP)(tr:KT)(i j:Nat):Bool:=
 match ops[i]?,tr[i]?with
 |some o,some ([id],[])=>Mz o.o.k&&((tr.take j).drop (i+1)).all (fun x=>!x.2.contains id)
 |_,_=>false
def Rx(ops:List OP)(tr:KT)(dyn:List (Nat×Nat)):Bool:=
 dyn.all fun p=>bif jQ 1000 p.2 then(match tr[p.1]?,tr[p.2-1000]?with|some a,some b=>nc a b||PR ops tr p.1 (p.2-1000)|_,_=>true)
  else(match tr[p.1]?,tr[p.2]?with|some a,some b=>nc a b|_,_=>true)
def R4(s:S2)(id:Nat):Option S2:=
 match fO s.heap id with
 |some (.rw t v (some (m,id2)))=>(match fO s.heap id2 with
  |some (.ar u r _)=>(match gN (.sl u) (.sl t) r with
   |some r=>some (eU (eU s id2 none) id (some (.rw t (.mk (v.l.set m r)) none)))
   |none=>none)
  |_=>none)
 |_=>some s
def Dx:List Nat->S2->Option S2
 |[],s=>some s
 |id::r,s=>match R4 s id with|some s=>Dx r s|none=>none
def R5(s s':S2):Option S2:=Dx (s'.wo.take (s'.wo.length-s.wo.length)) s'
def IT{β:Type}(tb:FU)(ops:List OP)(dr:Option (List (Nat×Nat)))(s:S2)(k:S2->Option β):Option β:=match dr with|none=>ov tb none ops 0 s ⟨[],[]⟩ [] fun s' _=>(R5 s s').bind k|some dyn=>ov tb (some s.next) ops 0 s ⟨[],[]⟩ [] fun s' tr=>bif Rx ops tr dyn then(R5 s {s' with next:=s.next+jE*ops.length}).bind k else none
def yD{β:Type}(tb:FU):C2->S2->(tO->S2->Option β)->Option β
 |.skip,s,k=>k .normal s
 |.Ot ops dr none,s,k=>IT tb ops dr s fun s=>k .normal s
 |.Ot ops dr (some j),s,k=>(IT tb ops dr {s with wo:=[]} fun s'=>match yF j s s' with|some l=>xj (qS j) l|none=>none).bind fun p=>match vy j (ops.filterMap (·.o.dst)) s (pY (qS j) p)with|some s=>k .normal s|none=>none
 |.seq a b [],s,k=>yD tb a s fun o s=>match o with|.normal=>yD tb b s k|o=>k o s
 |.seq a b (e::r),s,k=>(yD tb a {s with wo:=[]} fun o s'=>J5 s o s' (e::r)).bind fun x=>LG (nT a) s (fun o s=>match o with|.normal=>yD tb b s k|o=>k o s) (e::r) x
 |.cond c a b,s,k=>(match KP s.dF s.heap c with
  |some (.kb t)=>bif t then yD tb a s k else yD tb b s k
  |some (.x .b t)=>bif t then yD tb a s k else yD tb b s k
  |_=>none)
 |.block id a,s,k=>yD tb a s fun o s=>match o with|.exit i=>k (bif i==id then .normal else .exit i) s|o=>k o s
 |.loop j e a,s,k=>
  bif e.all (fun x=>j.kl.all fun i=>x.2.kl.contains i)then(match yF j s {s with wo:=[]}with
  |some l=>(match xj (qS j) l with
   |some p0=>(aY (fun p=>match vy j (nT a) s (pY (qS j) p)with
     |some s1=>yD tb a {s1 with wo:=[]} fun o s'=>(match o with
      |.normal=>(match yF j s s' with|some l=>(match xj (qS j) l with|some q=>some (Sum.inl q)|none=>none)|none=>none)
      |o=>(match J5 s o s' e with|some x=>some (Sum.inr x)|none=>none))
     |none=>none) p0).bind fun x=>LG (nT a) s k e x
   |none=>none)
  |none=>none)else none
 |.exit id,s,k=>k (.exit id) s
 |.ret,s,k=>k .ret s
 |.gG,_,_=>none
def fk(P:Program):Nat->TypeId->Ty
 |0,_=>.o 9
 |n+1,t=>match P.underlying t with|some (.int k)=>.i k|some .bool=>.b|some .string=>.s|some (.float k)=>.f k|some (.slice e)=>.sl (fk P n e)|some (.map k v)=>.mp (fk P n k) (fk P n v)|some (.struct fs)=>.st (Tv (fs.toList.map fun f=>fk P n f.type))|some (.array m e)=>.ar m (fk P n e)|some (.pointer _)=>.o 1|some (.func ..)=>.o 2|_=>.o 4
where Tv:List Ty->Ty
 |[]=>.un
 |[t]=>t
 |t::r=>.pr t (Tv r)
def Ks:Nat:=12
def Ru(P:Program)(t:TypeId):Ty:=match P.underlying t with|some (.slice e)=>fk P Ks e|some (.array _ e)=>fk P Ks e|_=>.o 9
def P4(P:Program):Op->Ty×List Nat
 |.alloc e=>(fk P Ks e,[])
 |.box t _=>(fk P Ks t,[])
 |.build t parts=>(fk P Ks t,parts.toList.map (·.1))
 |.buildSlice t _ parts=>(Ru P t,parts.toList.map (·.1))
 |.fieldAddr _ _ f=>(.o 9,[f])
 |.field _ _ f=>(.o 9,[f])
 |.makeSlice t _ _=>(Ru P t,[])
 |.makeMap t _=>(fk P Ks t,[])
 |.call c=>(match c.callee,c.argTypes.toList with|.builtin _,t::_=>Ru P t|_,_=>.o 9,[])
 |_=>(.o 9,[])
def QR(P:Program)(cE:Cq)(nt:Nat)(all:Array Oper)(o:Oper):OP:=⟨gL P cE nt all o,(P4 P o.op).1,(P4 P o.op).2⟩
structure An where
 j:Option J:=none
 e:Ex:=[]
 deriving Inhabited
def qL(P:Program)(cE:Cq)(nt:Nat)(an:List (Nat×An)):Code->Nat->C2×Nat
 |.skip,n=>(.skip,n)
 |.region _ ops draw,n=>
  (if draw then(if zX (Nz ops.toList []) ops.toList 0&&zF (Nz ops.toList []) (ops.toList.map (gL P cE nt ops)) 0&&decide (ops.toList.length<=1000)
   then .Ot (ops.toList.map (QR P cE nt ops)) (some (uk (Nz ops.toList []) (ops.toList.map (gL P cE nt ops)) 0)) ((cn an n).bind (·.j))else .gG)
   else .Ot (ops.toList.map (QR P cE nt ops)) none ((cn an n).bind (·.j)),n+1)
 |.seq a b,n=>
  let x:=qL P cE nt an a (n+1);let y:=qL P cE nt an b x.2
  (.seq x.1 y.1 (match cn an n with|some w=>w.e|none=>[]),y.2)
 |.cond c a b,n=>let x:=qL P cE nt an a n;let y:=qL P cE nt an b x.2;(.cond c x.1 y.1,y.2)
 |.block id a,n=>let x:=qL P cE nt an a n;(.block id x.1,x.2)
 |.loop a,n=>
  let x:=qL P cE nt an a (n+1)
  (match cn an n with|some ⟨some j,e⟩=>.loop j e x.1|_=>.gG,x.2)
 |.scope a,n=>qL P cE nt an a n
 |.label _,n=>(.skip,n)
 |.exit id,n=>(.exit id,n)
 |.ret,n=>(.ret,n)
 |_,n=>(.gG,n)
structure F2 where
 np:Nat
 lX:List RV
 body:C2
def Cf(P:Program)(cE:Cq)(f np:Nat)(an:List (Nat×An)):Option F2:=
 match P.funcs[f]?with
 |none=>none
 |some g=>
  match g.body with
  |none=>none
  |some code=>
   if(g.name== "runtime.NumGoroutine")=false/\np<=g.ntmps/\g.ntmps<1000000000 then
    match BI P g.results.toList with|some lX=>some ⟨np,lX,(qL P cE g.ntmps an code 0).1⟩|none=>none
   else none
def DO:Sh->List V->Option (V×List V)
 |.ni,l=>some (.ni,l)
 |.pr (.pt t) c,.x u v::l=>bif decide (u=t)&&lJ t then(match DO c l with|some (w,l)=>some (.co (.pt u v) w,l)|none=>none)else none
 |_,_=>none
def uj:List (Bool×Sh)->Nat->List V->S2->Option (List (Nat×V)×S2)
 |[],_,[],s=>some ([],s)
 |(false,.x t)::r,i,.x u v::l,s=>bif decide (u=t)&&lJ t then(match uj r (i+1) l s with|some (e,s)=>some ((i,.x u v)::e,s)|none=>none)else none
 |(false,.pt t)::r,i,.x u v::l,s=>bif decide (u=t)&&lJ t then(match uj r (i+1) l s with|some (e,s)=>some ((i,.pt u v)::e,s)|none=>none)else none
 |(false,.nl k)::r,i,l,s=>(match uj r (i+1) l s with|some (e,s)=>some ((i,.nl k)::e,s)|none=>none)
 |(false,.fn f c)::r,i,l,s=>(match DO c l with|some (w,l)=>(match uj r (i+1) l s with|some (e,s)=>some ((i,.fn true f w)::e,s)|none=>none)|none=>none)
 |(true,c)::r,i,l,s=>(match sH c false l s with
  |some (w,l,s)=>(match uj r (i+1) l s with|some (e,s)=>some ((i,w)::e,{s with gh:=.co w s.gh})|none=>none)
  |none=>none)
 |_,_,_,_=>none
def Rt(ps:List (Bool×Sh))(l:List V):Option S2:=
 match uj ps 0 l ⟨[],[],0,[],.ni⟩with
 |some (e,s)=>some {s with dF:=e}
 |none=>none
def On(s:S2):RV->Option V
 |.tmp t=>KP s.dF s.heap (.tmp t)
 |.cell t g n=>match KP s.dF s.heap (.tmp t)with|some p=>(match Ab s.heap p with|some (w,_)=>bif HC s.heap g n w then some w else none|none=>none)|none=>none
def Oo(h:H2):Sh->V->Option (List V×List Nat)
 |.x t,v=>match jW h v with|some (w,l)=>(match uL t w with|some y=>some ([.x t y],l)|none=>none)|none=>none
 |.os t,.sb id _ _ u r=>(match fO h id with|some (.ar _ _ _)=>(match gN (.sl u) (.sl t) r with|some s=>some ([.x (.sl t) s],[id])|none=>none)|_=>none)
 |c,v=>eJ h c false v
def UP(h:H2):Sh->V->Option (List V×List Nat)
 |.gn,_=>some ([],[])
 |c,v=>bif iZ h v then eJ h c false v else none
def BM(h:H2):List Sh->List V->Option (List V×List Nat)
 |[],[]=>some ([],[])
 |c::r,v::vs=>match Oo h c v,BM h r vs with|some (l,i),some (m,j)=>some (l++m,i++j)|_,_=>none
 |_,_=>none
def BL(h:H2):List Sh->List V->Option (List V×List Nat)
 |[],[]=>some ([],[])
 |c::r,v::vs=>match UP h c v,BL h r vs with|some (l,i),some (m,j)=>some (l++m,i++j)|_,_=>none
 |_,_=>none
def z_{α β:Type}(f:α->Option β):List α->Option (List β)
 |[]=>some []
 |a::r=>match f a,z_ f r with|some x,some y=>some (x::y)|_,_=>none
def Kf(lX:List RV)(rs os:List Sh)(s:S2):Option (List V):=
 match z_ (On s) lX with
 |some vs=>match BM s.heap rs vs,BL s.heap os (By s.gh)with|some (l,i),some (m,j)=>bif z5 (i++j)then some (l++m)else none|_,_=>none
 |none=>none
def Kg(lX:List RV)(s:S2):(r o:List Sh)->(w:Wy)->Option (wV.HN r o w)
 |r,o,[]=>match Kf lX r o s with|some l=>xj (jh r++jh o) l|none=>none
 |r,o,(r',o')::w=>match Kf lX r o s with|some l=>(match xj (jh r++jh o) l with|some z=>some (.inl z)|none=>none)|none=>(match Kg lX s r' o' w with|some z=>some (.inr z)|none=>none)
def O9(lX:List RV)(s:S2):(w:Wy)->Option (wV w)
 |[]=>none
 |(r,o)::w=>Kg lX s r o w
def Tg(tb:FU)(F:Option F2)(ps:List (Bool×Sh))(al:Wy)(p:rR (jh (ps.map (·.2)))):Option (wV al):=
 match F with
 |some F=>
  match Rt ps (pY _ p)with
  |some s=>yD tb F.body s fun o s=>match o with|.exit _=>none|_=>O9 F.lX s al
  |none=>none
 |none=>none
theorem uh{α β:Type}{f:α->List β}{n:Nat}(h:∀a,(f a).length=n)(l:List α):(l.flatMap f).length=l.length*n:=by induction l with|nil=>simp|cons a l ih=>simp[bo,h,ih,bB];omega
theorem bO:∀(t:Ty)(v:El t),(aS t v).length=bY t:=by intro t;induction t with|pr a c iha ihc=>intro v;simp[aS,bY,iha,ihc]|st t ih=>intro v;simp[aS,bY,ih]|ar n t ih=>intro v;rw[aS,uh ih,v.2];rfl|_=>intro v;rfl
theorem Ao{α β:Type}[Inhabited α]{f:α->List β}{n:Nat}(h:∀a,(f a).length=n):∀(l:List α)(k:Nat),k<l.length->((l.flatMap f).drop (k*n)).take n=f (gt l k):=by
 intro l;induction l with
 |nil=>intro k hk;simp at hk
 |cons a l ih=>
  intro k hk;cases k with
  |zero=>simp[gt,h]
  |succ k=>
   have e:(k+1)*n=(f a).length+k*n:=by rw[h,bB];omega
   rw[bo,e,<-dT,eS (am _),kY,bi,ih k (by simpa using hk)];rfl
theorem MS{α β:Type}{f:α->List β}{n:Nat}(h:∀a,(f a).length=n):∀(l:List α)(k:Nat)(x:α),k<l.length->(l.set k x).flatMap f=aW (l.flatMap f) (k*n) (f x):=by
 intro l;induction l with
 |nil=>intro k x hk;simp at hk
 |cons a l ih=>
  intro k x hk;cases k with
  |zero=>
   simp only[List.set_cons_zero,bo,aW,Nat.zero_mul,List.take_zero,bi,Nat.zero_add,h];have:(f a++l.flatMap f).drop n=l.flatMap f:=by rw[<-h a,eS (am _),kY,bi]
   rw[this]
  |succ k=>
   have e:(k+1)*n=(f a).length+k*n:=by rw[h,bB];omega
   simp only[List.set_cons_succ,bo,aW,e,List.take_length_add_append,cX];rw[<-dT,eS (am _),kY,bi,ih k x (by simpa using hk)];simp[aW]
theorem da{t u:Ty}{v:El t}{y:El u}(h:gN t u v=some y):∃e:t=u,y=e▸v:=by
 unfold gN at h;split at h
 .rename_i e;exact⟨e,(aa h).symm⟩
 .simp at h
theorem xV{t u:Ty}{v:El t}{y:El u}(h:gN t u v=some y):aS u y=aS t v/\t=u:=by obtain⟨rfl,rfl⟩:=da h;exact⟨rfl,rfl⟩
theorem sj:∀(t:Ty)(v:El t)(i:Nat)(w:V),Bn t v i=some w->∃u y,w=.x u y/\DG t i=some u/\pV t i+bY u<=bY t/\((aS t v).drop (pV t i)).take (bY u)=aS u y:=by
 intro t;induction t with
 |pr a c iha ihc=>intro v i w h;cases i with|zero=>obtain rfl:=aa h;refine⟨a,v.1,rfl,rfl,by simp[pV,bY],?_⟩;simp[pV,aS,bO]|succ i=>obtain⟨u,y,rfl,h1,h2,h3⟩:=ihc v.2 i w h;refine⟨u,y,rfl,h1,by simp only[pV,bY];omega,?_⟩;simp only[pV,aS];rw[<-dT,<-bO a v.1,eS (am _),kY,bi,h3]
 |_=>intro v i w h;cases i with|zero=>obtain rfl:=aa h;exact⟨_,v,rfl,rfl,by simp[pV],by simp[pV,eY,bO]⟩|succ i=>simp[Bn]at h
theorem Rh:∀(t:Ty)(i:Nat)(u:Ty),DG t i=some u->pV t i+bY u<=bY t:=by
 intro t;induction t with
 |pr a c iha ihc=>intro i u h;cases i with|zero=>obtain rfl:=aa h;simp[pV,bY]|succ i=>have:=ihc i u h;simp only[pV,bY];omega
 |_=>intro i u h;cases i with|zero=>obtain rfl:=aa h;simp[pV]|succ i=>simp[DG]at h
theorem uz{α:Type}{a b p:List α}{off:Nat}:aW (a++b) (a.length+off) p=a++aW b off p:=by simp only[aW,List.take_length_add_append,cX,aI];rw[<-dT,eS (am _),kY,bi]
theorem uy{α:Type}{a b p:List α}{off:Nat}(h:off+p.length<=a.length):aW (a++b) off p=aW a off p++b:=by simp only[aW,aI];rw[List.take_append_of_le_length (by omega),eS h]
theorem nJ{α:Type}{b p:List α}(h:p.length=b.length):aW b 0 p=p:=by simp[aW,h]
theorem vp{α:Type}{b p:List α}{off:Nat}(h:off+p.length<=b.length):(aW b off p).length=b.length:=by simp only[aW,au,List.length_take,List.length_drop];omega
theorem vo{α β:Type}{f:α->β}{b p:List α}{off:Nat}:(aW b off p).map f=aW (b.map f) off (p.map f):=by simp[aW]
theorem rC{α:Type}{b c p:List α}{o1 o2 n:Nat}(hc:(b.drop o1).take n=c)(h1:o1+n<=b.length)(h2:o2+p.length<=n):aW b o1 (aW c o2 p)=aW b (o1+o2) p:=by
 have hcl:c.length=n:=by rw[<-hc];simp;omega
 have e:b=b.take o1++(c++b.drop (o1+n)):=by rw[<-hc,<-dT,cq,cq]
 have hl:(b.take o1).length=o1:=by simp;omega
 have hs:(aW c o2 p).length=n:=by rw[vp (by omega),hcl]
 have r2:aW b (o1+o2) p=b.take o1++(aW c o2 p++b.drop (o1+n)):=by
  conv=>lhs;rw[e]
  have:=uz (a:=b.take o1) (b:=c++b.drop (o1+n)) (p:=p) (off:=o2);rw[hl]at this;rw[this,uy (by omega)]
 rw[r2];show b.take o1++aW c o2 p++b.drop (o1+(aW c o2 p).length)=_;rw[hs,aI]
theorem Kt:∀(t:Ty)(l r:List Value)(x:El t),vI t l=some (x,r)->l.all fg=true->∃p,l=p++r/\(aS t x)=p.map D.lit:=by
 intro t;induction t with
 |pr a c iha ihc=>
  intro l r x h hp;simp only[vI]at h;split at h
  .rename_i y l1 h1;split at h
   .rename_i z l2 h2;obtain⟨rfl,rfl⟩:=af (aa h);obtain⟨p,rfl,e1⟩:=iha _ _ _ h1 hp;obtain⟨q,rfl,e2⟩:=ihc _ _ _ h2 (by rw[List.all_append,ai]at hp;exact hp.2);exact⟨p++q,by simp,by simp[aS,e1,e2]⟩
   .simp at h
  .simp at h
 |st t ih=>intro l r x h hp;exact ih l r x h hp
 |ar n t ih=>
  intro l r x h hp;simp only[vI]at h
  have key:∀(m:Nat)(l r:List Value)(x:Arr m (El t)),Pf (vI t) m l=some (x,r)->l.all fg=true->∃p,l=p++r/\x.1.flatMap (aS t)=p.map D.lit:=by
   intro m;induction m with
   |zero=>intro l r x h hp;obtain⟨rfl,rfl⟩:=af (aa h);exact⟨[],rfl,rfl⟩
   |succ m ihn=>
    intro l r x h hp;simp only[Pf]at h;split at h
    .rename_i y l1 h1;split at h
     .rename_i v l2 h2;obtain⟨rfl,rfl⟩:=af (aa h);obtain⟨p,rfl,e1⟩:=ih _ _ _ h1 hp;obtain⟨q,rfl,e2⟩:=ihn _ _ _ h2 (by rw[List.all_append,ai]at hp;exact hp.2);exact⟨p++q,by simp,by simp[bo,e1,e2]⟩
     .simp at h
    .simp at h
  exact key n l r x h hp
 |i k=>
  intro l r x h hp;simp only[vI]at h;unfold Tn at h;split at h
  .split at h
   .rename_i e;subst e;obtain⟨rfl,rfl⟩:=af (aa h);exact⟨[_],rfl,rfl⟩
   .simp at h
  .simp at h
 |b=>
  intro l r x h hp;simp only[vI]at h;unfold Tq at h;split at h
  .obtain ⟨rfl,rfl⟩:=af (aa h);exact⟨[_],rfl,rfl⟩
  .simp at h
 |s=>
  intro l r x h hp;simp only[vI]at h;unfold Tl at h;split at h
  .obtain ⟨rfl,rfl⟩:=af (aa h);exact⟨[_],rfl,rfl⟩
  .simp at h
 |f k=>
  intro l r x h hp;simp only[vI]at h;unfold P7 at h;split at h
  .split at h
   .rename_i e;subst e;obtain⟨rfl,rfl⟩:=af (aa h);exact⟨[_],rfl,rfl⟩
   .simp at h
  .simp at h
 |sl t ih=>
  intro l r x h hp;simp only[vI]at h;unfold Tm at h;split at h
  .obtain ⟨rfl,rfl⟩:=af (aa h);exact⟨[_],rfl,rfl⟩
  .simp at h
 |_=>intro l r x h hp;simp[vI]at h
def Dw(h:H2)(id ver:Nat):Bool:=match fO h id with|some (.ar _ _ v)|some (.im _ _ v)=>v==ver|_=>false
def Rc(id:Nat)(c:C):Prop:=∀i∈fo c,i=id
def fD(h:H2):V->List C->Prop
 |.x t v,cs=>lJ t=true/\cs=(aS t v).map .d
 |.kb c,cs=>cs=[.d (.lit (.bool c))]
 |.nl k,cs=>cs=[ER k]
 |.so id,cs=>∃c,cs=[c]/\(∀c',BC id (fO h id)=some c'->c=c')/\Rc id c
 |.sr id,cs=>∃c,cs=[c]/\(∀c',F0 id (fO h id)=some c'->c=c')/\Rc id c
 |.sb id ver lo t r,cs=>∃c,cs=[c]/\(Dw h id ver=true->c=zG id lo t r)/\Rc id c
 |.op id t p,cs=>cs=[.op id (nU t p)]
 |.ep id n t p,cs=>cs=[.ep id n (nU t p)]
 |.pt t v,cs=>lJ t=true/\cs=[.d (.pt (aS t v))]
 |.fn true f l,cs=>∃ds,rQ l=some ds/\cs=[.d (.fn f ds)]
 |.fn false f l,cs=>∃xs,fD h l xs/\cs=[.pS f xs]
 |.om id,cs=>cs=[.om id]
 |.rc l,cs=>fD h l cs
 |.fl l,cs=>l.all fg=true/\cs=fL l
 |.ni,cs=>cs=[]
 |.co a r,cs=>∃x y,cs=x++y/\fD h a x/\fD h r y
 |.tp _,_|.no,_|.gn,_=>False
def tX(h:H2)(v:V)(x:TV):Prop:=∃cs,fD h v cs/\(uq v=true->x=.agg cs)/\(uq v=false->∃c,cs=[c]/\x=.c c)
def Cw(h:H2):V->List TV->Prop
 |.ni,xs=>xs=[]
 |.co a r,xs=>∃x ys,xs=x::ys/\tX h a x/\Cw h r ys
 |_,_=>False
def gm(h:H2):V->TV->Prop
 |.tp l,x=>∃xs,x=.jA xs/\Cw h l xs
 |.no,x=>x=.jA []
 |.gn,_=>False
 |v,x=>tX h v x
def VK(t u:Ty)(s:Sl (El t))(lo:Nat)(r:Sl (El u)):Prop:=bY t=bY u/\match s,r with|.nil,.nil=>True|.mk l,.mk m=>lo+m.length<=l.length/\((l.map (aS t)).drop lo).take m.length=m.map (aS u)|_,_=>False
def fB(n:Nat)(h:H2):V->Prop
 |.so id|.sr id|.om id=>id<n
 |.sb id ver lo t r=>id<n/\∀u s v,(fO h id=some (.ar u s v)\/fO h id=some (.im u s v))->ver<=v/\(v=ver->VK u t s lo r)
 |.op id t p=>id<n/\JP t p
 |.ep id m t p=>id<n/\JP t p/\(∀u s v,(fO h id=some (.ar u s v)\/fO h id=some (.im u s v))->m<s.l.length)/\∀u s v,fO h id=some (.rw u s v)->m<s.l.length
 |.fn _ _ l|.rc l|.tp l=>fB n h l
 |.co a r=>fB n h a/\fB n h r
 |_=>True
def wx(h:H2):O->Option Ob->Prop
 |.ar t s _,b=>lJ t=true/\0<bY t/\(∀l,s=.mk l->b=some (.aL (bY t) (l.map (aS t))))
 |.im t s _,b=>lJ t=true/\0<bY t/\(∀l,s=.mk l->b=some (.qH (bY t) (l.map (aS t))))
 |.bx t c,b=>∃cs,b=some (.box cs)/\fD h c cs/\eW c false t=true
 |.ib t v,b=>lJ t=true/\b=some (.py (aS t v))
 |.mp k v m,b=>lJ v=true/\(∃ks,Ff k=some ks)/\b=F1 (oI k) (oI v) (fun x=>(aS k x).map fun|.lit y=>y|_=>.nilFunc) (aS v) m
 |.rw t s ln,b=>lJ t=true/\0<bY t/\(∀l,(s:Sl (Sl (El t)))=.mk l->b=some (.nst (bY t) (fw t l ln)))
def DE(n:Nat)(h:H2):O->Prop
 |.bx _ c=>fB n h c
 |.rw _ s (some (m,id))=>m<s.l.length/\id<n/\∀u r v,(fO h id=some (.ar u r v)\/fO h id=some (.im u r v))->r.fT=(gt s.l m).fT/\r.l.length=(gt s.l m).l.length
 |_=>True
structure HR(n:Nat)(h1:bD)(h2:H2):Prop where
 ob:∀id o,fO h2 id=some o->id<n/\wx h2 o (az h1 id)/\DE n h2 o
abbrev NO(t:Ty)(s:Sl (El t)):(t:Ty)×Sl (El t):=⟨t,s⟩
abbrev V5(t:Ty)(s:El t):(t:Ty)×El t:=⟨t,s⟩
def PJ(t u:Ty)(s:Sl (El t))(s':Sl (El u))(v v':Nat):Prop:=v<=v'/\t=u/\s.fT=s'.fT/\s.l.length=s'.l.length/\(v=v'->NO t s=NO u s')
def tR:O->O->Prop
 |.ar t s v,.ar u s' v'|.ar t s v,.im u s' v'=>PJ t u s s' v v'
 |.im t s v,.im u s' v'=>v=v'/\NO t s=NO u s'
 |.bx t _,.bx u _=>t=u
 |.bx _ _,.ib _ _=>True
 |.ib t v,.ib u w=>V5 t v=V5 u w
 |.mp _ _ _,.mp _ _ _=>True
 |.rw t s _,.rw u s' _=>t=u/\s.fT=s'.fT/\s.l.length=s'.l.length
 |_,_=>False
def OU:O->Bool
 |.bx _ _|.ib _ _=>true
 |_=>false
structure ke(n:Nat)(h h':H2):Prop where
 ob:∀id o',id<n->fO h' id=some o'->(∃o,fO h id=some o/\tR o o')\/OU o'=true
theorem PJ.trans{t u w:Ty}{s:Sl (El t)}{s':Sl (El u)}{s2:Sl (El w)}{a b c:Nat}(h1:PJ t u s s' a b)(h2:PJ u w s' s2 b c):PJ t w s s2 a c:=by obtain⟨a1,rfl,a3,a4,a5⟩:=h1;obtain⟨b1,rfl,b3,b4,b5⟩:=h2;refine⟨Nat.le_trans a1 b1,rfl,a3.trans b3,a4.trans b4,fun e=>?_⟩;have e1:a=b:=Nat.le_antisymm a1 (e▸b1);exact(a5 e1).trans (b5 (e1▸e))
theorem PJ.of_eq{t u:Ty}{s:Sl (El t)}{s':Sl (El u)}{a b:Nat}(h:a=b)(e:NO t s=NO u s'):PJ t u s s' a b:=by subst h;obtain⟨rfl,e⟩:=kf e;cases e;exact⟨am _,rfl,rfl,rfl,fun _=>rfl⟩
theorem tR.refl(o:O):tR o o:=by cases o<;>simp[tR,PJ]
theorem tR.trans{a b c:O}(h1:tR a b)(h2:tR b c):tR a c:=by
 cases a<;>cases b<;>simp only[tR]at h1<;>first|exact h1.elim|skip
 all_goals(cases c<;>simp only[tR]at h2|-<;>first|exact h2.elim|skip)
 .exact h1.trans h2
 .exact h1.trans h2
 .exact h1.trans (PJ.of_eq h2.1 h2.2)
 .exact ⟨h1.1.trans h2.1,h1.2.trans h2.2⟩
 .exact h1.trans h2
 .exact h1.trans h2
 .exact ⟨h1.1.trans h2.1,h1.2.1.trans h2.2.1,h1.2.2.trans h2.2.2⟩
theorem ke.refl(n:Nat)(h:H2):ke n h h:=⟨fun _ o _ h=>.inl ⟨o,h,tR.refl o⟩⟩
theorem ke.trans{n n':Nat}{a b c:H2}(hn:n<=n')(h1:ke n a b)(h2:ke n' b c):ke n a c:=
 ⟨fun id o' hi ho=>by
  rcases h2.ob id o' (by omega) ho with⟨o1,h3,h4⟩|q
  .rcases h1.ob id o1 hi h3 with⟨o2,h5,h6⟩|q
   .exact .inl ⟨o2,h5,h6.trans h4⟩
   .exact .inr (by cases o1<;>simp[OU]at q<;>cases o'<;>simp[tR]at h4<;>rfl)
  .exact .inr q⟩
theorem CF{sz id:Nat}{α:Type}{e:α->List D}{s:Sl α}:Rc id (ny sz e id s):=by intro i hi;cases s with|nil=>simp[ny,fo]at hi|mk l=>simpa[ny,fo]using hi
theorem Lk{id lo:Nat}{t:Ty}{s:Sl (El t)}:Rc id (zG id lo t s):=by intro i hi;cases s with|nil=>simp[zG,fo]at hi|mk l=>simpa[zG,fo]using hi
section
variable{n n':Nat}{h h':H2}
theorem Gk{t:Ty}{s s':Sl (El t)}{id:Nat}(h1:s.fT=s'.fT)(h2:s.l.length=s'.l.length):ny (bY t) (aS t) id s=ny (bY t) (aS t) id s':=by cases s<;>cases s'<;>simp_all[Sl.fT,ny]
theorem Le(hs:ke n h h'){id:Nat}(hi:id<n){c:C}(hc:BC id (fO h' id)=some c):BC id (fO h id)=some c:=by
 cases ho:fO h' id with
 |none=>rw[ho]at hc;simp[BC]at hc
 |some o'=>
  rw[ho]at hc;obtain⟨o,h1,h2⟩:=(hs.ob id o' hi ho).resolve_right fun e=>by cases o'<;>simp[OU]at e<;>simp[BC]at hc
  rw[h1];cases o'<;>simp only[BC]at hc<;>first|cases hc;done|skip
  all_goals(cases o<;>simp only[tR]at h2<;>first|exact h2.elim|skip)
  .obtain ⟨_,rfl,h3,h4,_⟩:=h2;rw[<-hc];simp only[BC];rw[Gk h3 h4]
  .obtain ⟨_,rfl,h3,h4,_⟩:=h2;rw[<-hc];simp only[BC];rw[Gk h3 h4]
  .obtain ⟨_,h3⟩:=h2;obtain⟨rfl,h3⟩:=kf h3;cases h3;rw[<-hc];rfl
  all_goals simp at hc
theorem Ld(hs:ke n h h'){id:Nat}(hi:id<n){c:C}(hc:F0 id (fO h' id)=some c):F0 id (fO h id)=some c:=by
 cases ho:fO h' id with
 |none=>rw[ho]at hc;simp[F0]at hc
 |some o'=>
  rw[ho]at hc;obtain⟨o,h1,h2⟩:=(hs.ob id o' hi ho).resolve_right fun e=>by cases o'<;>simp[OU]at e<;>simp[F0]at hc
  rw[h1];cases o'<;>simp only[F0]at hc<;>first|cases hc;done|skip
  all_goals(cases o<;>simp only[tR]at h2<;>first|exact h2.elim|skip)
  .obtain ⟨rfl,h3,h4⟩:=h2;rw[<-hc];simp only[F0];exact congrArg some (Gk (t:=.sl _) h3 h4)
  all_goals simp at hc
theorem H8(hs:ke n h h'){id:Nat}(hi:id<n){u:Ty}{s:Sl (Sl (El u))}{ln:Option (Nat×Nat)}(ho:fO h' id=some (.rw u s ln)):∃s0 ln0,fO h id=some (.rw u s0 ln0)/\s0.fT=s.fT/\s0.l.length=s.l.length:=by
 obtain⟨o,h1,h2⟩:=(hs.ob id _ hi ho).resolve_right fun e=>by simp[OU]at e
 cases o<;>simp only[tR]at h2<;>first|exact h2.elim|skip
 obtain⟨rfl,h3,h4⟩:=h2;exact⟨_,_,h1,h3,h4⟩
theorem Lg(hs:ke n h h'){id:Nat}(hi:id<n){u:Ty}{s:Sl (El u)}{v:Nat}(ho:fO h' id=some (.ar u s v)\/fO h' id=some (.im u s v)):
  ∃s0 v0,(fO h id=some (.ar u s0 v0)\/fO h id=some (.im u s0 v0))/\s0.fT=s.fT/\s0.l.length=s.l.length:=by
 rcases ho with ho|ho
 all_goals
  obtain⟨o,h1,h2⟩:=(hs.ob id _ hi ho).resolve_right fun e=>by simp[OU]at e
  cases o<;>simp only[tR]at h2<;>first|exact h2.elim|skip
 .obtain ⟨_,rfl,h3,h4,_⟩:=h2;exact⟨_,_,.inl h1,h3,h4⟩
 .obtain ⟨_,rfl,h3,h4,_⟩:=h2;exact⟨_,_,.inl h1,h3,h4⟩
 .obtain ⟨rfl,h3⟩:=h2;obtain⟨rfl,h3⟩:=kf h3;cases h3;exact⟨_,_,.inr h1,rfl,rfl⟩
theorem uA(hs:ke n h h'){id:Nat}(hi:id<n){u:Ty}{s:Sl (El u)}{v:Nat}(ho:fO h' id=some (.ar u s v)\/fO h' id=some (.im u s v)):
  ∃s0 v0,(fO h id=some (.ar u s0 v0)\/fO h id=some (.im u s0 v0))/\v0<=v/\s0.l.length=s.l.length/\(v0=v->s0=s):=by
 rcases ho with ho|ho
 all_goals
  obtain⟨o,h1,h2⟩:=(hs.ob id _ hi ho).resolve_right fun e=>by simp[OU]at e
  cases o<;>simp only[tR]at h2<;>first|exact h2.elim|skip
 .obtain ⟨h3,rfl,_,h4,h5⟩:=h2;exact⟨_,_,.inl h1,h3,h4,fun e=>by have:=h5 e;simpa using this⟩
 .obtain ⟨h3,rfl,_,h4,h5⟩:=h2;exact⟨_,_,.inl h1,h3,h4,fun e=>by have:=h5 e;simpa using this⟩
 .obtain ⟨rfl,h3⟩:=h2;obtain⟨rfl,h3⟩:=kf h3;cases h3;exact⟨_,_,.inr h1,am _,rfl,fun _=>rfl⟩
theorem mH{id ver:Nat}(ha:Dw h id ver=true):∃u s,fO h id=some (.ar u s ver)\/fO h id=some (.im u s ver):=by
 unfold Dw at ha;split at ha
 .rename_i u s v ho;obtain rfl:v=ver:=by simpa using ha
  exact⟨u,s,.inl ho⟩
 .rename_i u s v ho;obtain rfl:v=ver:=by simpa using ha
  exact⟨u,s,.inr ho⟩
 .simp at ha
theorem hZ(hn:n<=n')(hs:ke n h h'):∀{v:V},fB n h v->fB n' h' v:=by
 intro v;induction v with
 |so id=>intro hv;simp only[fB]at hv|-;omega
 |sr id=>intro hv;simp only[fB]at hv|-;omega
 |om id=>intro hv;simp only[fB]at hv|-;omega
 |sb id ver lo t r=>
  rintro⟨h1,h2⟩;refine⟨by omega,fun u s v ho=>?_⟩;obtain⟨s0,v0,h3,h4,h5,h6⟩:=uA hs h1 ho;obtain⟨h7,h8⟩:=h2 u s0 v0 h3;refine⟨by omega,fun e=>?_⟩;have e2:v0=ver:=by omega
  have:=h6 (by omega);subst this;exact h8 e2
 |op id t p=>rintro⟨h1,h2⟩;exact⟨by omega,h2⟩
 |ep id m t p=>
  rintro⟨h1,h2,h3,h6⟩;refine⟨by omega,h2,fun u s v ho=>?_,fun u s v ho=>?_⟩
  .obtain ⟨s0,v0,h4,_,h5,_⟩:=uA hs h1 ho;have:=h3 u s0 v0 h4;omega
  .obtain ⟨s0,v0,h4,_,h5⟩:=H8 hs h1 ho;have:=h6 u s0 v0 h4;omega
 |fn z f l ih=>intro hv;exact ih hv
 |rc l ih=>intro hv;exact ih hv
 |tp l ih=>intro hv;exact ih hv
 |co a r iha ihr=>rintro⟨h1,h2⟩;exact⟨iha h1,ihr h2⟩
 |_=>intro _;trivial
theorem mG(hs:ke n h h'):∀{v:V}{cs:List C},fB n h v->fD h v cs->fD h' v cs:=by
 intro v;induction v with
 |so id=>rintro cs hi ⟨c,rfl,hc,hid⟩;exact⟨c,rfl,fun c' hc'=>hc c' (Le hs hi hc'),hid⟩
 |sr id=>rintro cs hi ⟨c,rfl,hc,hid⟩;exact⟨c,rfl,fun c' hc'=>hc c' (Ld hs hi hc'),hid⟩
 |sb id ver lo t r=>
  rintro cs ⟨hi,h2⟩ ⟨c,rfl,hc,hid⟩;refine⟨c,rfl,fun ha=>hc ?_,hid⟩;obtain⟨u,s,ho⟩:=mH ha;obtain⟨s0,v0,h3,h4,_,_⟩:=uA hs hi ho;obtain⟨h7,_⟩:=h2 u s0 v0 h3;have:v0=ver:=by omega
  subst this;unfold Dw;rcases h3 with h3|h3<;>rw[h3]<;>simp
 |fn z f l ih=>intro cs hv hc;cases z with|true=>exact hc|false=>obtain⟨xs,h1,h2⟩:=hc;exact⟨xs,ih hv h1,h2⟩
 |rc l ih=>intro cs hv hc;exact ih hv hc
 |co a r iha ihr=>rintro cs ⟨h1,h2⟩ ⟨x,y,rfl,h3,h4⟩;exact⟨x,y,rfl,iha h1 h3,ihr h2 h4⟩
 |_=>intro cs _ hc;exact hc
theorem xh(hs:ke n h h'){v:V}{x:TV}(hv:fB n h v)(hx:tX h v x):tX h' v x:=by obtain⟨cs,h1,h2⟩:=hx;exact⟨cs,mG hs hv h1,h2⟩
theorem I_(hs:ke n h h'):∀{v:V}{xs:List TV},fB n h v->Cw h v xs->Cw h' v xs:=by intro v;induction v with|co a r iha ihr=>rintro xs ⟨h1,h2⟩ ⟨x,ys,rfl,h3,h4⟩;exact⟨x,ys,rfl,xh hs h1 h3,ihr h2 h4⟩|ni=>intro xs _ h;exact h|_=>intro xs _ h;exact h.elim
theorem vT(hs:ke n h h'){v:V}{x:TV}(hv:fB n h v)(hx:gm h v x):gm h' v x:=by cases v with|tp l=>obtain⟨xs,h1,h2⟩:=hx;exact⟨xs,h1,I_ hs hv h2⟩|no=>exact hx|gn=>exact hx|_=>exact xh hs hv hx
theorem qB(hs:ke n h h'){o:O}{b:Option Ob}(ho:DE n h o)(hb:wx h o b):wx h' o b:=by cases o with|bx t c=>obtain⟨cs,h1,h2,h3⟩:=hb;exact⟨cs,h1,mG hs ho h2,h3⟩|_=>exact hb
theorem pu(hn:n<=n')(hs:ke n h h'){o:O}(ho:DE n h o):DE n' h' o:=by
 cases o with
 |bx t c=>exact hZ hn hs ho
 |rw t s ln=>cases ln with|none=>trivial|some q=>obtain⟨m,id⟩:=q;obtain⟨h1,h2,h3⟩:=ho;refine⟨h1,Nat.lt_of_lt_of_le h2 hn,fun u r v hu=>?_⟩;obtain⟨s0,v0,h4,h5,h6⟩:=Lg hs h2 hu;obtain⟨h7,h8⟩:=h3 u s0 v0 h4;exact⟨h5▸h7,h6▸h8⟩
 |_=>trivial
end
theorem iY{h:H2}:∀{v:V}{cs:List C},fD h v cs->cs.length=zp v:=by
 intro v;induction v with
 |x t v=>rintro cs ⟨_,rfl⟩;simp[zp,bO]
 |so id=>rintro cs ⟨c,rfl,_⟩;rfl
 |sr id=>rintro cs ⟨c,rfl,_⟩;rfl
 |sb id ver lo t r=>rintro cs ⟨c,rfl,_⟩;rfl
 |pt t v=>rintro cs ⟨_,rfl⟩;rfl
 |fn z f l ih=>intro cs hc;cases z with|true=>obtain⟨ds,_,rfl⟩:=hc;rfl|false=>obtain⟨ds,_,rfl⟩:=hc;rfl
 |rc l ih=>intro cs hc;exact ih hc
 |fl l=>rintro cs ⟨_,rfl⟩;simp[fL,zp]
 |ni=>rintro cs rfl;rfl
 |co a r iha ihr=>rintro cs ⟨x,y,rfl,h1,h2⟩;simp[zp,iha h1,ihr h2]
 |tp l=>intro cs hc;exact hc.elim
 |no=>intro cs hc;exact hc.elim
 |gn=>intro cs hc;exact hc.elim
 |_=>rintro cs rfl;rfl
theorem ie:∀(v:V)(ln:Bool)(t:Ty),eW v ln t=true->zp v=bY t:=by
 intro v;induction v with
 |rc l ih=>
  intro ln t hf;cases ln with
  |true=>cases t<;>simp[eW]at hf
  |false=>cases t with|st t=>exact ih true t hf|_=>simp[eW]at hf
 |co a r iha ihr=>
  intro ln t hf;cases ln with
  |false=>simp[eW]at hf
  |true=>
   cases t with
   |pr t u=>simp only[eW,ai]at hf;simp[zp,bY,iha _ _ hf.1,ihr _ _ hf.2]
   |_=>cases r with|ni=>have hf':eW a false _=true:=hf;simp[zp,iha _ _ hf']|_=>simp[eW]at hf
 |x u v=>intro ln t hf;cases ln with|false=>simp only[eW,decide_eq_true_eq]at hf;subst hf;rfl|true=>cases t<;>simp[eW]at hf
 |nl k=>intro ln t hf;cases ln<;>cases t<;>first|rfl|(simp[eW]at hf;done)|skip
 |_=>intro ln t hf;cases ln<;>cases t<;>first|rfl|(simp[eW]at hf;done)
section
variable{h:H2}
theorem qM{v:V}{u:Ty}{y:El u}{cs:List C}(hc:iL u v=some y)(hv:fD h v cs):cs=(aS u y).map .d:=by
 cases v with
 |x t v=>obtain⟨rfl,rfl⟩:=da hc;exact hv.2
 |kb c=>obtain⟨rfl,rfl⟩:=da (t:=.b) hc;exact hv
 |nl k=>
  cases k with
  |zero=>
   cases u<;>simp only[iL]at hc<;>first|cases hc;done|skip
   obtain rfl:=aa hc;exact hv
  |succ k=>simp[iL]at hc
 |fl l=>
  obtain⟨h1,rfl⟩:=hv;simp only[iL]at hc;cases ha:oI u
  .rw [ha]at hc;simp at hc
  rw[ha,cond_true]at hc;split at hc
  .rename_i x hx;obtain rfl:=aa hc;obtain⟨p,rfl,e⟩:=Kt u _ _ _ hx h1;rw[e];simp[fL]
  .simp at hc
 |_=>simp[iL]at hc
theorem jH:∀(v:V)(ln:Bool)(u:Ty)(y:El u)(cs:List C),lP v ln u=some y->fD h v cs->cs=(aS u y).map .d:=by
 intro v;induction v with
 |rc l ih=>
  intro ln u y cs hc hv;cases ln with
  |true=>cases u<;>simp[lP]at hc
  |false=>cases u with|st u=>exact ih true u y cs hc hv|_=>simp[lP,iL]at hc
 |co a r iha ihr=>
  intro ln u y cs hc hv;obtain⟨x1,x2,rfl,h1,h2⟩:=hv;cases ln with
  |false=>cases u<;>simp[lP,iL]at hc
  |true=>
   cases u with
   |pr t u=>
    simp only[lP]at hc;split at hc
    .rename_i p q hp hq;obtain rfl:=aa hc;rw[iha _ _ _ _ hp h1,ihr _ _ _ _ hq h2];simp[aS]
    .simp at hc
   |_=>cases r with|ni=>have hc':lP a false _=some y:=hc;obtain rfl:x2=[]:=h2;rw[aV];exact iha _ _ _ _ hc' h1|_=>simp[lP]at hc
 |_=>
  intro ln u y cs hc hv;cases ln with
  |true=>cases u<;>simp[lP]at hc
  |false=>first|exact qM hc hv|(simp[lP]at hc)
theorem FM{v:V}{u:Ty}{y:El u}(hc:iL u v=some y):uq v=oI u:=by
 cases v with
 |x t v=>obtain⟨rfl,_⟩:=da hc;rfl
 |kb c=>obtain⟨rfl,_⟩:=da (t:=.b) hc;rfl
 |nl k=>
  cases k with
  |zero=>cases u<;>simp only[iL]at hc<;>first|rfl|cases hc
  |succ k=>simp[iL]at hc
 |fl l=>
  simp only[iL]at hc;cases ha:oI u
  .rw [ha]at hc;simp at hc
  .rfl
 |_=>simp[iL]at hc
theorem xS{v:V}{u:Ty}{y:El u}(hc:uL u v=some y):uq v=oI u:=by
 cases v with
 |rc l=>cases u with|st u=>rfl|_=>simp[uL,lP,iL]at hc
 |co a r=>cases u<;>simp[uL,lP,iL]at hc
 |ni=>cases u<;>simp[uL,lP]at hc
 |_=>exact FM hc
theorem BV:∀(l:V)(t:Ty)(i:Nat)(w:V)(cs:List C),eW l true t=true->fD h l cs->tM l i=some w->
  ∃u cw,DG t i=some u/\eW w false u=true/\fD h w cw/\pV t i+bY u<=cs.length/\(cs.drop (pV t i)).take (bY u)=cw:=by
 intro l;induction l with
 |co a r iha ihr=>
  intro t i w cs hf hv hw;obtain⟨x,y,rfl,h1,h2⟩:=hv;have one:∀t,eW a false t=true->r=.ni->DG t 0=some t->pV t 0=0->i=0->∃u cw,DG t i=some u/\eW w false u=true/\fD h w cw/\pV t i+bY u<=(x++y).length/\((x++y).drop (pV t i)).take (bY u)=cw:=by intro t hf hr h3 h4 hi;subst hi;obtain rfl:=aa hw;have hs:=ie _ _ _ hf;have hl:=iY h1;refine⟨t,x,h3,hf,h1,by rw[h4];simp;omega,?_⟩;rw[h4,eG,<-hs,<-hl,List.take_left]
  cases t with
  |pr t u=>simp only[eW,ai]at hf;have hs:=ie _ _ _ hf.1;have hl:=iY h1;cases i with|zero=>obtain rfl:=aa hw;refine⟨t,x,rfl,hf.1,h1,by simp[pV];omega,?_⟩;simp only[pV,eG];rw[<-hs,<-hl,List.take_left]|succ i=>obtain⟨u',cw,q1,q2,q3,q4,q5⟩:=ihr u i w y hf.2 h2 hw;refine⟨u',cw,q1,q2,q3,by simp only[pV,au];omega,?_⟩;simp only[pV];rw[<-dT,<-hs,<-hl,List.drop_left,q5]
  |_=>
   cases r with
   |ni=>have hf':eW a false _=true:=hf;cases i with|zero=>exact one _ hf' rfl rfl rfl rfl|succ i=>simp[tM]at hw
   |_=>simp[eW]at hf
 |_=>intro t i w cs hf hv hw;simp[tM]at hw
theorem BO:∀(l:V)(t:Ty)(i:Nat)(w:V)(cs cw:List C)(u:Ty),eW l true t=true->fD h l cs->DG t i=some u->fD h w cw->cw.length=bY u->(∃w0,tM l i=some w0)->fD h (LB l i w) (aW cs (pV t i) cw):=by
 intro l;induction l with
 |co a r iha ihr=>
  intro t i w cs cw u hf hv hu hw hlen hn;obtain⟨x,y,rfl,h1,h2⟩:=hv;cases t with
  |pr t u'=>simp only[eW,ai]at hf;have hs:=ie _ _ _ hf.1;have hl:=iY h1;cases i with|zero=>obtain rfl:=aa hu;refine⟨cw,y,?_,hw,h2⟩;simp only[pV];rw[uy (by omega),nJ (by omega)]|succ i=>have:=ihr u' i w y cw u hf.2 h2 hu hw hlen hn;refine⟨x,_,?_,h1,this⟩;simp only[pV];rw[<-hs,<-hl,uz]
  |_=>
   cases r with
   |ni=>cases i with|zero=>obtain rfl:=aa hu;have hf':eW a false _=true:=hf;have hs:=ie _ _ _ hf';have hl:=iY h1;obtain rfl:y=[]:=h2;refine⟨cw,[],?_,hw,rfl⟩;simp only[pV,aV];rw[nJ (by omega)]|succ i=>obtain⟨w0,hn⟩:=hn;simp[tM]at hn
   |_=>simp[eW]at hf
 |_=>intro t i w cs cw u hf hv hu hw hlen hn;obtain⟨w0,hn⟩:=hn;simp[tM]at hn
theorem Cy:∀(t:Ty)(v:El t),lJ t=true->fD h (Jd t v) ((aS t v).map .d):=by intro t;induction t with|pr a c iha ihc=>intro v hd;simp only[lJ,ai]at hd;exact⟨(aS a v.1).map .d,(aS c v.2).map .d,by simp[aS],⟨hd.1,rfl⟩,ihc v.2 hd.2⟩|_=>intro v hd;exact⟨_,[],(aV _).symm,⟨hd,rfl⟩,rfl⟩
theorem N4:∀(t:Ty)(v:El t),eW (Jd t v) true t=true:=by intro t;induction t with|pr a c iha ihc=>intro v;simp[Jd,eW,ihc]|_=>intro v;simp[Jd,eW]
theorem N3:∀(t:Ty)(v:El t)(i:Nat)(w:V),Bn t v i=some w->tM (Jd t v) i=some w:=by
 intro t;induction t with
 |pr a c iha ihc=>intro v i w hw;cases i with|zero=>exact hw|succ i=>exact ihc v.2 i w hw
 |_=>intro v i w hw;cases i with|zero=>exact hw|succ i=>simp[Bn]at hw
theorem AC:∀(t:Ty)(i:Nat)(u:Ty),lJ t=true->DG t i=some u->lJ u=true:=by
 intro t;induction t with
 |pr a c iha ihc=>intro i u hd hu;simp only[lJ,ai]at hd;cases i with|zero=>obtain rfl:=aa hu;exact hd.1|succ i=>exact ihc i u hd.2 hu
 |_=>intro i u hd hu;cases i with|zero=>obtain rfl:=aa hu;exact hd|succ i=>simp[DG]at hu
theorem xA:∀(p:qU)(t u:Ty),sG t p=some u->JP t p->nU t p+bY u<=bY t:=by
 intro p;induction p with
 |nil=>
  intro t u hu _;have e2:sG t []=some t:=by cases t<;>rfl
  have e:nU t []=0:=by cases t<;>rfl
  obtain rfl:t=u:=by rw[e2]at hu;exact aa hu
  omega
 |cons q p ih=>
  intro t u hu hp;cases q with
  |fd i=>cases t with|st t=>obtain⟨a,ha,hp⟩:=hp;simp only[sG,ha]at hu;have:=ih a u hu hp;have:=Rh t i a ha;simp only[nU,ha,bY];omega|_=>exact hp.elim
  |ix k=>cases t with|ar n t=>obtain⟨hk,hp⟩:=hp;have:=ih t u hu hp;have h2:(k+1)*bY t<=n*bY t:=aH _ hk;rw[bB]at h2;simp only[nU,bY];omega|_=>exact hp.elim
theorem xM:∀(p:qU)(c:V)(t:Ty)(w:V)(cs:List C),eW c false t=true->fD h c cs->JP t p->qI c p=some w->
  ∃u cw,sG t p=some u/\eW w false u=true/\fD h w cw/\nU t p+bY u<=cs.length/\(cs.drop (nU t p)).take (bY u)=cw:=by
 intro p;induction p with
 |nil=>
  intro c t w cs hf hv _ hw;obtain rfl:c=w:=by simpa[qI]using hw
  have hs:=ie _ _ _ hf;have hl:=iY hv;refine⟨t,cs,by cases t<;>rfl,hf,hv,?_,?_⟩
  .cases t<;>simp[nU]<;>omega
  .have e:nU t []=0:=by cases t<;>rfl
   rw[e,eG,eY (by omega)]
 |cons q p ih=>
  intro c t w cs hf hv hp hw
  have sub:∀(o n:Nat)(c2:V)(u:Ty)(c3:List C),eW c2 false u=true->fD h c2 c3->(cs.drop o).take (bY u)=c3->o+bY u<=cs.length->JP u p->qI c2 p=some w->sG t (q::p)=sG u p->nU t (q::p)=o+nU u p->
    ∃u cw,sG t (q::p)=some u/\eW w false u=true/\fD h w cw/\nU t (q::p)+bY u<=cs.length/\(cs.drop (nU t (q::p))).take (bY u)=cw:=by
   intro o n c2 u c3 hf2 hv2 h3 h4 h5 h6 h7 h8;obtain⟨u',cw,q1,q2,q3,q4,q5⟩:=ih c2 u w c3 hf2 hv2 h5 h6;have hl:=iY hv2;rw[ie _ _ _ hf2]at hl;refine⟨u',cw,h7.trans q1,q2,q3,by rw[h8];omega,?_⟩;rw[h8,<-q5,<-h3,<-dT];rw[List.drop_take,List.take_take];congr 1;omega
  cases q with
  |fd i=>
   cases t with
   |st t=>
    obtain⟨u,hu,hp⟩:=hp;have e7:sG (.st t) (.fd i::p)=sG u p:=by simp only[sG,hu]
    have e8:nU (.st t) (.fd i::p)=pV t i+nU u p:=by simp only[nU,hu]
    cases c with
    |x t' v=>
     simp only[eW,decide_eq_true_eq]at hf;subst hf;obtain⟨hd,rfl⟩:=hv;simp only[qI]at hw;split at hw
     .rename_i y hy;obtain⟨u',y',rfl,h1,h2,h3⟩:=sj _ _ _ _ hy;obtain rfl:u=u':=by rw[hu]at h1;exact aa h1
      refine sub (pV t i) 0 (.x u y') u ((aS u y').map .d) (by simp[eW]) ⟨AC t _ _ hd hu,rfl⟩ ?_ ?_ hp hw e7 e8
      .rw [<-h3,iq,gJ];rfl
      .simp [bO,bY];exact h2
     .simp at hw
    |rc l=>
     simp only[qI]at hw;split at hw
     .rename_i y hy;obtain⟨u',cw,q1,q2,q3,q4,q5⟩:=BV l t i y cs hf hv hy;obtain rfl:u=u':=by rw[hu]at q1;exact aa q1
      exact sub (pV t i) 0 y u cw q2 q3 q5 q4 hp hw e7 e8
     .simp at hw
    |_=>simp[qI]at hw
   |_=>exact hp.elim
  |ix k=>
   cases t with
   |ar n t=>
    obtain⟨hk,hp⟩:=hp;cases c with
    |x t' v=>
     simp only[eW,decide_eq_true_eq]at hf;subst hf;obtain⟨hd,rfl⟩:=hv;simp only[qI]at hw;have hk':k<v.1.length:=by rw[v.2];exact hk
     have hg:=Ao (bO t) v.1 k hk';refine sub (k*bY t) 0 (.x t (gt v.1 k)) t ((aS t (gt v.1 k)).map .d) (by simp[eW]) ⟨hd,rfl⟩ ?_ ?_ hp hw rfl rfl
     .rw [<-hg,iq,gJ];rfl
     .simp only[aF,bO,bY];have:(k+1)*bY t<=n*bY t:=aH _ hk;rw[bB]at this;omega
    |_=>simp[qI]at hw
   |_=>exact hp.elim
theorem Jk:∀(t:Ty)(v:El t)(i:Nat)(w:V)(v':El t),Jl t v i w=some v'->∃u z,DG t i=some u/\iL u w=some z/\aS t v'=aW (aS t v) (pV t i) (aS u z):=by
 intro t;induction t with
 |pr a c iha ihc=>
  intro v i w v' hs;cases i with
  |zero=>
   simp only[Jl]at hs;split at hs
   .rename_i y hy;obtain rfl:=aa hs;refine⟨a,y,rfl,hy,?_⟩;simp only[aS,pV];rw[uy (by simp[bO]),nJ (by simp[bO])]
   .simp at hs
  |succ i=>
   simp only[Jl]at hs;split at hs
   .rename_i y hy;obtain rfl:=aa hs;obtain⟨u,z,h1,h2,h3⟩:=ihc _ _ _ _ hy;refine⟨u,z,h1,h2,?_⟩;simp only[aS,pV,h3];have:=uz (a:=aS a v.1) (b:=aS c v.2) (off:=pV c i) (p:=aS u z);rw[bO]at this;rw[this]
   .simp at hs
 |_=>intro v i w v' hs;cases i with|zero=>have hs':iL _ w=some v':=hs;exact⟨_,v',rfl,hs',by simp only[pV];rw[nJ (by simp[bO])]⟩|succ i=>simp[Jl]at hs
theorem xo:∀(p:qU)(c:V)(t:Ty)(w c':V)(cs cw:List C)(u:Ty),eW c false t=true->fD h c cs->JP t p->pI c p w=some c'->sG t p=some u->fD h w cw->cw.length=bY u->
  fD h c' (aW cs (nU t p) cw):=by
 intro p;induction p with
 |nil=>
  intro c t w c' cs cw u hf hv _ hs hu hw hlen;obtain rfl:w=c':=by simpa[pI]using hs
  have e:nU t []=0:=by cases t<;>rfl
  have e2:sG t []=some t:=by cases t<;>rfl
  obtain rfl:t=u:=by rw[e2]at hu;exact aa hu
  have:=iY hv;rw[ie _ _ _ hf]at this;rw[e,nJ (by omega)];exact hw
 |cons q p ih=>
  intro c t w c' cs cw u hf hv hp hs hu hw hlen;cases q with
  |fd i=>
   cases t with
   |st t=>
    obtain⟨a,ha,hp⟩:=hp;have hu':sG a p=some u:=by simpa only[sG,ha]using hu
    have e8:nU (.st t) (.fd i::p)=pV t i+nU a p:=by simp only[nU,ha]
    cases c with
    |x t' v=>
     simp only[eW,decide_eq_true_eq]at hf;subst hf;obtain⟨hd,rfl⟩:=hv;simp only[pI]at hs;split at hs
     .rename_i y hy;split at hs
      .rename_i y1 hy1;obtain⟨a',z,rfl,h1,h2,h3⟩:=sj _ _ _ _ hy;obtain rfl:a=a':=by rw[ha]at h1;exact aa h1
       have hz:fD h (.x a z) ((aS a z).map .d):=⟨AC t _ _ hd ha,rfl⟩
       have h4:=ih (.x a z) a w y1 ((aS a z).map .d) cw u (by simp[eW]) hz hp hy1 hu' hw hlen;have hle:nU a p+cw.length<=bY a:=by have:=xA p a u hu' hp;omega
       have h5:((aS (.st t) v).map C.d|>.drop (pV t i)).take (bY a)=(aS a z).map .d:=by rw[<-h3,iq,gJ];rfl
       have h6:aW ((aS (.st t) v).map C.d) (pV t i+nU a p) cw=aW ((aS (.st t) v).map C.d) (pV t i) (aW ((aS a z).map .d) (nU a p) cw):=(rC h5 (by simp[bO,bY];exact h2) hle).symm;rw[e8,h6];split at hs
       .rename_i v' hv';obtain rfl:=aa hs;obtain⟨a2,z2,k1,k2,k3⟩:=Jk _ _ _ _ _ hv';obtain rfl:a=a2:=by rw[ha]at k1;exact aa k1
        refine⟨hd,?_⟩;have:=qM k2 h4;rw[this];show _=(aS t v').map C.d;rw[k3,vo];rfl
       .obtain rfl:=aa hs;refine BO (Jd t v) t i y1 _ _ a (N4 t v) (Cy t v hd) ha h4 ?_ ⟨_,N3 t v i _ hy⟩;rw[vp (by simp[bO];exact hle)];simp[bO]
      .simp at hs
     .simp at hs
    |rc l=>
     simp only[pI]at hs;split at hs
     .rename_i y hy;split at hs
      .rename_i y1 hy1;obtain rfl:=aa hs;obtain⟨a',cw2,q1,q2,q3,q4,q5⟩:=BV l t i y cs hf hv hy;obtain rfl:a=a':=by rw[ha]at q1;exact aa q1
       have h4:=ih y a w y1 cw2 cw u q2 q3 hp hy1 hu' hw hlen;have hl:=iY q3;rw[ie _ _ _ q2]at hl;have hle:nU a p+cw.length<=bY a:=by have:=xA p a u hu' hp;omega
       rw[e8,<-rC q5 q4 hle];exact BO l t i y1 cs _ a hf hv ha h4 (by rw[vp (by omega),hl]) ⟨_,hy⟩
      .simp at hs
     .simp at hs
    |_=>simp[pI]at hs
   |_=>exact hp.elim
  |ix k=>
   cases t with
   |ar n t=>
    obtain⟨hk,hp⟩:=hp;have hu':sG t p=some u:=hu;cases c with
    |x t' v=>
     simp only[eW,decide_eq_true_eq]at hf;subst hf;obtain⟨hd,rfl⟩:=hv;simp only[pI]at hs;split at hs
     .rename_i y1 hy1;split at hs
      .rename_i z hz;obtain rfl:=aa hs;have hk':k<v.1.length:=by rw[v.2];exact hk
       have hg:=Ao (bO t) v.1 k hk';have h4:=ih (.x t (gt v.1 k)) t w y1 ((aS t (gt v.1 k)).map .d) cw u (by simp[eW]) ⟨hd,rfl⟩ hp hy1 hu' hw hlen;have h7:=qM hz h4;have hle:nU t p+cw.length<=bY t:=by have:=xA p t u hu' hp;omega
       have h5:((aS (.ar n t) v).map C.d|>.drop (k*bY t)).take (bY t)=(aS t (gt v.1 k)).map .d:=by rw[<-hg,iq,gJ];rfl
       have h8:k*bY t+bY t<=((aS (.ar n t) v).map C.d).length:=by simp only[aF,bO,bY];have:(k+1)*bY t<=n*bY t:=aH _ hk;rw[bB]at this;omega
       refine⟨hd,?_⟩;show aW _ (k*bY t+nU t p) cw=_;rw[<-rC h5 h8 hle,h7,<-vo];show _=((v.1.set k z).flatMap (aS t)).map C.d;rw[MS (bO t) v.1 k z hk'];rfl
      .simp at hs
     .simp at hs
    |_=>simp[pI]at hs
   |_=>exact hp.elim
theorem yZ{n:Nat}:∀(l:V)(i:Nat)(w:V),fB n h l->tM l i=some w->fB n h w:=by
 intro l;induction l with
 |co a r iha ihr=>intro i w hk hw;cases i with|zero=>obtain rfl:=aa hw;exact hk.1|succ i=>exact ihr i w hk.2 hw
 |_=>intro i w hk hw;simp[tM]at hw
theorem Ih{n:Nat}:∀(l:V)(i:Nat)(w:V),fB n h l->fB n h w->fB n h (LB l i w):=by
 intro l;induction l with
 |co a r iha ihr=>intro i w hk hw;cases i with|zero=>exact⟨hw,hk.2⟩|succ i=>exact⟨hk.1,ihr i w hk.2 hw⟩
 |_=>intro i w hk hw;exact hk
theorem IM{n:Nat}{t:Ty}{v:El t}{i:Nat}{w:V}(hw:Bn t v i=some w):fB n h w:=by obtain⟨u,y,rfl,_⟩:=sj _ _ _ _ hw;trivial
theorem Gc{n:Nat}:∀(t:Ty)(v:El t),fB n h (Jd t v):=by intro t;induction t with|pr a c iha ihc=>intro v;exact⟨trivial,ihc v.2⟩|_=>intro v;exact⟨trivial,trivial⟩
theorem C_{n:Nat}:∀(p:qU)(c w:V),fB n h c->qI c p=some w->fB n h w:=by
 intro p;induction p with
 |nil=>intro c w hk hw;obtain rfl:c=w:=by simpa[qI]using hw
       exact hk
 |cons q p ih=>
  intro c w hk hw;cases q with
  |fd i=>
   cases c with
   |x t v=>
    cases t with
    |st t=>
     simp only[qI]at hw;split at hw
     .rename_i y hy;exact ih y w (IM hy) hw
     .simp at hw
    |_=>simp[qI]at hw
   |rc l=>
    simp only[qI]at hw;split at hw
    .rename_i y hy;exact ih y w (yZ l _ _ hk hy) hw
    .simp at hw
   |_=>simp[qI]at hw
  |ix k=>
   cases c with
   |x t v=>cases t with|ar m t=>exact ih (.x t (gt v.1 k)) w trivial hw|_=>simp[qI]at hw
   |_=>simp[qI]at hw
theorem H7{n:Nat}:∀(p:qU)(c w c':V),fB n h c->fB n h w->pI c p w=some c'->fB n h c':=by
 intro p;induction p with
 |nil=>intro c w c' _ hw hs;obtain rfl:w=c':=by simpa[pI]using hs
       exact hw
 |cons q p ih=>
  intro c w c' hk hw hs;cases q with
  |fd i=>
   cases c with
   |x t v=>
    cases t with
    |st t=>
     simp only[pI]at hs;split at hs
     .rename_i y hy;split at hs
      .rename_i y1 hy1;split at hs
       .obtain rfl:=aa hs;trivial
       .obtain rfl:=aa hs;exact Ih _ _ _ (Gc t v) (ih y w y1 (IM hy) hw hy1)
      .simp at hs
     .simp at hs
    |_=>simp[pI]at hs
   |rc l=>
    simp only[pI]at hs;split at hs
    .rename_i y hy;split at hs
     .rename_i y1 hy1;obtain rfl:=aa hs;exact Ih l _ _ hk (ih y w y1 (yZ l _ _ hk hy) hw hy1)
     .simp at hs
    .simp at hs
   |_=>simp[pI]at hs
  |ix k=>
   cases c with
   |x t v=>
    cases t with
    |ar m t=>
     simp only[pI]at hs;split at hs
     .split at hs
      .obtain rfl:=aa hs;trivial
      .simp at hs
     .simp at hs
    |_=>simp[pI]at hs
   |_=>simp[pI]at hs
end
section
variable{h:H2}{n:Nat}{h1:bD}
theorem dV{v:V}{c:C}(ha:uq v=false)(hc:fD h v [c]):tX h v (.c c):=⟨[c],hc,fun e=>(by rw[ha]at e;cases e),fun _=>⟨c,rfl,rfl⟩⟩
theorem zm{v:V}{cs:List C}(ha:uq v=true)(hc:fD h v cs):tX h v (.agg cs):=⟨cs,hc,fun _=>rfl,fun e=>(by rw[ha]at e;cases e)⟩
theorem jM{v:V}{x:TV}(hx:tX h v x)(ha:uq v=false):∃c,x=.c c/\fD h v [c]:=by obtain⟨cs,h1,_,h2⟩:=hx;obtain⟨c,rfl,rfl⟩:=h2 ha;exact⟨c,rfl,h1⟩
theorem rV{v:V}{x:TV}(hx:tX h v x):∃cs,fD h v cs/\cellsOf x=some cs:=by obtain⟨cs,h1,h2,h3⟩:=hx;refine⟨cs,h1,?_⟩;cases ha:uq v with|true=>rw[h2 ha];rfl|false=>obtain⟨c,rfl,rfl⟩:=h3 ha;rfl
theorem lf{k:IntKind}{a:Int}{x:TV}(hx:gm h (.x (.i k) a) x):x=tI k a:=by obtain⟨c,rfl,_,hc⟩:=jM (v:=.x (.i k) a) hx rfl;obtain rfl:=(bT hc).1;rfl
theorem HY{a:Bool}{x:TV}(hx:gm h (.x .b a) x):x=tB a:=by obtain⟨c,rfl,_,hc⟩:=jM (v:=.x .b a) hx rfl;obtain rfl:=(bT hc).1;rfl
theorem x9{a:ByteArray}{x:TV}(hx:gm h (.x .s a) x):x=.c (.d (dS a)):=by obtain⟨c,rfl,_,hc⟩:=jM (v:=.x .s a) hx rfl;obtain rfl:=(bT hc).1;rfl
theorem zj{t:Ty}{s:Sl (El t)}{x:TV}(hx:gm h (.x (.sl t) s) x):x=.c (.d (xl (bY t) (aS t) s)):=by obtain⟨c,rfl,_,hc⟩:=jM (v:=.x (.sl t) s) hx rfl;obtain rfl:=(bT hc).1;rfl
theorem xg{a:Bool}{x:TV}(hx:gm h (.kb a) x):x=tB a:=by obtain⟨c,rfl,hc⟩:=jM (v:=.kb a) hx rfl;obtain rfl:=(bT hc).1;rfl
theorem xe{k:Nat}{x:TV}(hx:gm h (.nl k) x):x=.c (ER k):=by obtain⟨c,rfl,hc⟩:=jM (v:=.nl k) hx rfl;obtain rfl:=(bT hc).1;rfl
theorem zk{t:Ty}{a:El t}{x:TV}(hx:gm h (.pt t a) x):lJ t=true/\x=.c (.d (.pt (aS t a))):=by obtain⟨c,rfl,hd,hc⟩:=jM (v:=.pt t a) hx rfl;obtain rfl:=(bT hc).1;exact⟨hd,rfl⟩
theorem xd{id:Nat}{t:Ty}{p:qU}{x:TV}(hx:gm h (.op id t p) x):x=.c (.op id (nU t p)):=by obtain⟨c,rfl,hc⟩:=jM (v:=.op id t p) hx rfl;obtain rfl:=(bT hc).1;rfl
theorem tW{id m:Nat}{t:Ty}{p:qU}{x:TV}(hx:gm h (.ep id m t p) x):x=.c (.ep id m (nU t p)):=by obtain⟨c,rfl,hc⟩:=jM (v:=.ep id m t p) hx rfl;obtain rfl:=(bT hc).1;rfl
theorem F9{id:Nat}{x:TV}(hx:gm h (.om id) x):x=.c (.om id):=by obtain⟨c,rfl,hc⟩:=jM (v:=.om id) hx rfl;obtain rfl:=(bT hc).1;rfl
theorem tV{id:Nat}{c:C}{x:TV}(hx:gm h (.so id) x)(hc:BC id (fO h id)=some c):x=.c c:=by obtain⟨c',rfl,c2,h2,h3⟩:=jM (v:=.so id) hx rfl;obtain rfl:=(bT h2).1;rw[h3.1 c hc]
theorem K2{id:Nat}{c:C}{x:TV}(hx:gm h (.sr id) x)(hc:F0 id (fO h id)=some c):x=.c c:=by obtain⟨c',rfl,c2,h2,h3⟩:=jM (v:=.sr id) hx rfl;obtain rfl:=(bT h2).1;rw[h3.1 c hc]
theorem tY{id:Nat}{t:Ty}{s:Sl (Sl (El t))}{ln:Option (Nat×Nat)}(ho:fO h id=some (.rw t s ln)):F0 id (fO h id)=some (ny 1 (aS (.sl t)) id s):=by rw[ho];rfl
theorem rA{id ver lo:Nat}{t:Ty}{r:Sl (El t)}{x:TV}(hx:gm h (.sb id ver lo t r) x)(ha:iZ h (.sb id ver lo t r)=true):x=.c (zG id lo t r):=by obtain⟨c',rfl,c2,h2,h3⟩:=jM (v:=.sb id ver lo t r) hx rfl;obtain rfl:=(bT h2).1;rw[h3.1 (Bool.and_eq_true_iff.1 ha).2]
theorem F_{z:Bool}{f:Nat}{l:V}{x:TV}(hx:gm h (.fn z f l) x):(z=true/\∃ds,rQ l=some ds/\x=.c (.d (.fn f ds)))\/(z=false/\∃cs,fD h l cs/\x=.c (.pS f cs)):=by obtain⟨c',rfl,hc⟩:=jM (v:=.fn z f l) hx rfl;cases z with|true=>obtain⟨ds,h2,h3⟩:=hc;exact .inl ⟨rfl,ds,h2,by rw[(bT h3).1]⟩|false=>obtain⟨ds,h2,h3⟩:=hc;exact .inr ⟨rfl,ds,h2,by rw[(bT h3).1]⟩
theorem Qr{l:V}{x:TV}(hx:gm h (.tp l) x):∃xs,x=.jA xs/\Cw h l xs:=hx
def OA:V->Prop
 |.tp _|.no|.gn=>False
 |_=>True
theorem pQ{v:V}{x:TV}(hv:OA v)(hx:gm h v x):tX h v x:=by cases v<;>first|exact hx|exact hv.elim
theorem cj{v:V}{x:TV}(hx:tX h v x):gm h v x:=by cases v<;>first|exact hx|(obtain⟨cs,hc,_⟩:=hx;exact hc.elim)
theorem P9{v:V}{u:Ty}{y:El u}(hc:uL u v=some y):OA v:=by cases v<;>first|trivial|(simp[uL,lP,iL]at hc)
theorem wM{v:V}{u:Ty}{y:El u}{x:TV}(hx:gm h v x)(hc:uL u v=some y):(oI u=true->x=.agg ((aS u y).map .d))/\(oI u=false->∃d,aS u y=[d]/\x=.c (.d d)):=by
 obtain⟨cs,h2,h3,h4⟩:=pQ (P9 hc) hx;have h5:=jH v false u y cs hc h2;have ha:=xS hc;constructor
 .intro hu;rw[h3 (ha.trans hu),h5]
 .intro hu;obtain⟨c,rfl,rfl⟩:=h4 (ha.trans hu);cases he:aS u y with
  |nil=>rw[he]at h5;simp at h5
  |cons d ds=>
   rw[he]at h5;simp only[List.map_cons,List.cons.injEq]at h5;obtain⟨rfl,h6⟩:=h5;have:ds=[]:=by simpa using h6.symm
   subst this;exact⟨d,rfl,rfl⟩
theorem P8{v:V}{x:TV}{a:Bool}(hx:gm h v x)(hc:uL .b v=some a):x=tB a:=by obtain⟨d,h1,rfl⟩:=(wM hx hc).2 rfl;obtain rfl:=(bT h1).1;rfl
def nv(h:H2):List V->List TV->Prop
 |[],[]=>True
 |v::vs,x::xs=>gm h v x/\nv h vs xs
 |_,_=>False
theorem lY{xs:List TV}(hx:nv h [] xs):xs=[]:=by cases xs<;>first|rfl|exact hx.elim
theorem gz{v:V}{vs:List V}{xs:List TV}(hx:nv h (v::vs) xs):∃x ys,xs=x::ys/\gm h v x/\nv h vs ys:=by cases xs with|nil=>exact hx.elim|cons x ys=>exact⟨x,ys,rfl,hx.1,hx.2⟩
theorem iR{v:V}{xs:List TV}(hx:nv h [v] xs):∃x,xs=[x]/\gm h v x:=by obtain⟨x,ys,rfl,h1,h2⟩:=gz hx;obtain rfl:=lY h2;exact⟨x,rfl,h1⟩
theorem jz{v w:V}{xs:List TV}(hx:nv h [v,w] xs):∃x y,xs=[x,y]/\gm h v x/\gm h w y:=by obtain⟨x,ys,rfl,h1,h2⟩:=gz hx;obtain⟨y,rfl,h3⟩:=iR h2;exact⟨x,y,rfl,h1,h3⟩
theorem Qq{v w z:V}{xs:List TV}(hx:nv h [v,w,z] xs):∃x y u,xs=[x,y,u]/\gm h v x/\gm h w y/\gm h z u:=by obtain⟨x,ys,rfl,h1,h2⟩:=gz hx;obtain⟨y,u,rfl,h3⟩:=jz h2;exact⟨x,y,u,rfl,h1,h3⟩
theorem K1:∀{vs:List V}{xs:List TV},nv h vs xs->(∀v∈vs,OA v/\uq v=false)->∃cs,fD h (bw vs) cs/\xs=cs.map TV.c:=by intro vs;induction vs with|nil=>intro xs hx _;obtain rfl:=lY hx;exact⟨[],rfl,rfl⟩|cons v vs ih=>intro xs hx hv;obtain⟨x,ys,rfl,h1,h2⟩:=gz hx;obtain⟨hp,ha⟩:=hv v (by simp);obtain⟨c,rfl,h3⟩:=jM (pQ hp h1) ha;obtain⟨cs,h4,rfl⟩:=ih h2 fun w hw=>hv w (by simp[hw]);exact⟨c::cs,⟨[c],cs,rfl,h3,h4⟩,rfl⟩
theorem vr{id:Nat}{q:(t:Ty)×Sl (El t)×List Nat}(hs:uQ h (.so id)=some q):∃ver,(fO h id=some (.ar q.1 q.2.1 ver)\/fO h id=some (.im q.1 q.2.1 ver))/\q.2.2=[id]:=by
 simp only[uQ]at hs;split at hs
 .rename_i t s v ho;obtain rfl:=aa hs;exact⟨v,.inl ho,rfl⟩
 .rename_i t s v ho;obtain rfl:=aa hs;exact⟨v,.inr ho,rfl⟩
 .simp at hs
theorem nw{id ver:Nat}{t:Ty}{s:Sl (El t)}(ho:fO h id=some (.ar t s ver)\/fO h id=some (.im t s ver)):BC id (fO h id)=some (ny (bY t) (aS t) id s):=by rcases ho with ho|ho<;>rw[ho]<;>rfl
theorem Q_{id lo nx:Nat}{t:Ty}{r:Sl (El t)}{c:Call}{H:bD}:cI c (.len false) [some (.c (zG id lo t r))] H nx=some (tI .i64 r.l.length,[],[],nx):=by cases r with|nil=>rfl|mk l=>simp[cI,vc,zG,Sl.l,lv]
theorem Q8{v:V}{x:TV}{q:(t:Ty)×Sl (El t)×List Nat}{c:Call}{H:bD}{nx:Nat}(hx:gm h v x)(ha:iZ h v=true)(hs:uQ h v=some q):
  cI c (.len false) [some x] H nx=some (tI .i64 q.2.1.l.length,[],[],nx):=by
 cases v with
 |x t s=>cases t with|sl t=>obtain rfl:=aa hs;rw[zj hx];exact Q9|_=>simp[uQ]at hs
 |so id=>obtain⟨ver,ho,_⟩:=vr hs;rw[tV hx (nw ho)];exact P0
 |sb id ver lo t r=>obtain rfl:=aa hs;rw[rA hx ha];exact Q_
 |_=>simp[uQ]at hs
theorem Mx{id lo nx:Nat}{t:Ty}{r:Sl (El t)}{c:Call}{H:bD}{neg:Bool}:cI c (.ss 0 neg) [some (.c (zG id lo t r))] H nx=some (tB (if neg then !r.fT else r.fT),[],[],nx):=by cases r<;>rfl
theorem Q1{v:V}{x:TV}{q:(t:Ty)×Sl (El t)×List Nat}{c:Call}{H:bD}{nx:Nat}{neg:Bool}(hx:gm h v x)(ha:iZ h v=true)(hs:uQ h v=some q):
  cI c (.ss 0 neg) [some x] H nx=some (tB (if neg then !q.2.1.fT else q.2.1.fT),[],[],nx):=by
 cases v with
 |x t s=>cases t with|sl t=>obtain rfl:=aa hs;rw[zj hx];exact Q2|_=>simp[uQ]at hs
 |so id=>obtain⟨ver,ho,_⟩:=vr hs;rw[tV hx (nw ho)];exact SV
 |sb id ver lo t r=>obtain rfl:=aa hs;rw[rA hx ha];exact Mx
 |_=>simp[uQ]at hs
theorem pE{g:Bool}{m:Nat}{w:V}(hc:HC h g m w=true):uq w=g/\zp w=m/\(g=false->m=1)/\iZ h w=true:=by
 simp only[HC,ai,beq_iff_eq,Bool.or_eq_true]at hc;obtain⟨⟨⟨h1,h2⟩,h3⟩,h4⟩:=hc;refine⟨h1,h2,fun e=>?_,h4⟩;rcases h3 with h3|h3
 .rw [e]at h3;cases h3
 .exact h3
theorem qE{g:Bool}{m off:Nat}{cs cw:List C}{w:V}(hc:HC h g m w=true)(hw:fD h w cw)(hle:off+m<=cs.length)(he:(cs.drop off).take m=cw):∃x,Fb g m (cs.drop off)=some x/\gm h w x:=by
 obtain⟨ha,hs,hm,_⟩:=pE hc;cases g with
 |true=>refine⟨.agg cw,?_,cj (zm ha hw)⟩;simp only[Fb,if_true];rw[if_pos (by simp;omega),he]
 |false=>obtain rfl:=hm rfl;cases hd:cs.drop off with|nil=>have:=congrArg List.length hd;simp at this;omega|cons c r=>rw[hd]at he;subst he;exact⟨.c c,rfl,cj (dV ha hw)⟩
theorem C4{g:Bool}{m:Nat}{ds:List D}:P1 g m ds=Fb g m (ds.map .d):=by
 unfold P1 Fb;cases g
 .cases ds<;>simp
 .simp
theorem xF{p w:V}{l:List Nat}{g:Bool}{m nx:Nat}{c:Call}{x:TV}(hr:HR n h1 h)(hl:Ab h p=some (w,l))(hc:HC h g m w=true)(hx:gm h p x)(hok:fB n h p):
  ∃y,cI c (.load g m) [some x] h1 nx=some (y,[],l,nx)/\gm h w y/\fB n h w:=by
 cases p with
 |pt t v=>obtain⟨rfl,rfl⟩:=af (aa hl);obtain⟨hd,rfl⟩:=zk hx;obtain⟨_,hs,_,_⟩:=pE hc;have hs':bY t=m:=hs;obtain⟨y,h2,h3⟩:=qE (cs:=(aS t v).map .d) (off:=0) hc (show fD h (.x t v) ((aS t v).map .d)from⟨hd,rfl⟩) (by simp[bO];omega) (by rw[eG,eY (by simp[bO];omega)]);refine⟨y,?_,h3,trivial⟩;rw[eG,<-C4]at h2;simp only[cI,iC,h2]
 |op id t p=>
  obtain rfl:=xd hx;simp only[Ab]at hl;split at hl
  .rename_i u cc ho;obtain⟨_,hb,hko⟩:=hr.ob id _ ho;obtain⟨cs,h2,h3,h4⟩:=hb;by_cases hu:u=t
   .subst hu;simp only[decide_true,cond_true]at hl;split at hl
    .rename_i w' hw;obtain⟨rfl,rfl⟩:=af (aa hl);obtain⟨a,cw,q1,q2,q3,q4,q5⟩:=xM p cc u w' cs h4 h3 hok.2 hw;obtain⟨_,hs,_,_⟩:=pE hc;rw[ie _ _ _ q2]at hs;subst hs;obtain⟨y,h5,h6⟩:=qE hc q3 q4 q5;refine⟨y,?_,h6,C_ p cc w' hko hw⟩;simp only[cI,iC,h2,h5]
    .simp at hl
   .simp [hu]at hl
  .rename_i u v ho;obtain⟨_,hb,hko⟩:=hr.ob id _ ho;obtain⟨hd,h2⟩:=hb;by_cases hu:u=t
   .subst hu;simp only[decide_true,cond_true]at hl;split at hl
    .rename_i w' hw;obtain⟨rfl,rfl⟩:=af (aa hl);obtain⟨a,cw,q1,q2,q3,q4,q5⟩:=xM (h:=h) p (.x u v) u w' ((aS u v).map .d) (by simp[eW]) ⟨hd,rfl⟩ hok.2 hw;obtain⟨_,hs,_,_⟩:=pE hc;rw[ie _ _ _ q2]at hs;subst hs;obtain⟨y,h5,h6⟩:=qE hc q3 q4 q5;refine⟨y,?_,h6,C_ p (.x u v) w' trivial hw⟩;rw[<-gJ,<-C4]at h5;simp only[cI,iC,h2,h5]
    .simp at hl
   .simp [hu]at hl
  .simp at hl
 |ep id k t p=>
  obtain rfl:=tW hx;obtain⟨_,hp,hk,_⟩:=hok
  have main:∀(u:Ty)(s:Sl (El u))(ver:Nat),(fO h id=some (.ar u s ver)\/fO h id=some (.im u s ver))->(bif decide (u=t)then(match qI (.x u (gt s.l k)) p with|some w=>some (w,[id])|none=>none)else none)=some (w,l)->
    ∃y,cI c (.load g m) [some (.c (.ep id k (nU t p)))] h1 nx=some (y,[],l,nx)/\gm h w y/\fB n h w:=by
   intro u s ver ho hl;have hlt:=hk u s ver ho;by_cases hu:u=t
   .subst hu;simp only[decide_true,cond_true]at hl;split at hl
    .rename_i w' hw;obtain⟨rfl,rfl⟩:=af (aa hl);cases s with
     |nil=>simp[Sl.l]at hlt
     |mk ls=>
     have hrow:(ls.map (aS u))[k]?=some (aS u (gt ls k)):=C7 hlt;have hd:lJ u=true:=by rcases ho with ho|ho<;>exact(hr.ob id _ ho).2.1.1
     obtain⟨a,cw,q1,q2,q3,q4,q5⟩:=xM (h:=h) p (.x u (gt ls k)) u w' ((aS u (gt ls k)).map .d) (by simp[eW]) ⟨hd,rfl⟩ hp hw;obtain⟨_,hs,_,_⟩:=pE hc;rw[ie _ _ _ q2]at hs;subst hs;obtain⟨y,h5,h6⟩:=qE hc q3 q4 q5;refine⟨y,?_,h6,C_ p (.x u (gt ls k)) w' trivial hw⟩;rw[<-gJ,<-C4]at h5;rcases ho with ho|ho
     .have h2:=(hr.ob id _ ho).2.1.2.2 ls rfl;simp only[cI,iC,h2,hrow,h5]
     .have h2:=(hr.ob id _ ho).2.1.2.2 ls rfl;simp only[cI,iC,h2,hrow,h5]
    .simp at hl
   .simp [hu]at hl
  simp only[Ab]at hl;split at hl
  .rename_i u s ver ho;exact main u s ver (.inl ho) hl
  .rename_i u s ver ho;exact main u s ver (.inr ho) hl
  .simp at hl
 |_=>simp[Ab]at hl
end
end Go.Ev
