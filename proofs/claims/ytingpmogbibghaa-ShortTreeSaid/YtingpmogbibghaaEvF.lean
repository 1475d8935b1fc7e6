/- The abstract machine: deep data, cells, owned objects, operations and code, and their evaluation. Conditions: none, these are definitions. -/
import Derived.Orders
import Derived.Laws.CopyRow
open Array renaming getD->lw,getElem?_eq_none->gS,getElem?_eq_some_iff->bm
open BitVec renaming ofInt->de
open Bool renaming false_eq_true->aO
open List renaming all_eq_true->aT,append_nil->aV,flatMap_cons->bo,flatten_cons->eL,getElem?_append_left->bC,getElem?_append_right->bF,getElem?_drop->bR,getElem?_eq_getElem->aB,getElem?_eq_some_iff->ao,getElem?_map->aK,getElem?_take->e9,getElem_of_mem->ft,length_map->aF,length_set->fh,length_take->bW,map->nf,mem_append->ap,mem_cons->aJ,mem_cons_of_mem->av,mem_flatten->dO,mem_of_getElem?->aR,mem_singleton->aq,nodup_append->cC,nodup_cons->gX,nodup_nil->mz,range->bN,replicate->ak
open Nat renaming add_assoc->cX,add_zero->cT,le_refl->am,le_succ->bE,le_trans->bt,lt_of_lt_of_le->dp,lt_succ_self->bc,lt_trichotomy->iO,mul_le_mul_right->aH,mul_one->lh,zero_add->bJ,zero_mul->gP
open Option renaming bind_eq_some_iff->fI,map_eq_some_iff->aG
open Option.some renaming inj->aa,injEq->ce
open Prod.mk renaming inj->af
namespace Go.Ev
inductive D where
 |lit (v:Value)
 |sl (sz:Nat) (rows:List (List D))
 |pt (cells:List D)
 |fn (f:FuncId) (caps:List D)
 deriving Inhabited
inductive C where
 |d (x:D)
 |fK (sz id off len:Nat)
 |ep (id bw off:Nat)
 |op (id off:Nat)
 |pS (f:FuncId) (caps:List C)
 |om (id:Nat)
 deriving Inhabited
inductive TV where
 |c (x:C)
 |agg (cells:List C)
 |jA (xs:List TV)
 deriving Inhabited
inductive lU where
 |nil
 |bq (rows:List (List D))
 |ez (id len:Nat)
 deriving Inhabited
inductive Ob where
 |aL (sz:Nat) (rows:List (List D))
 |qH (sz:Nat) (rows:List (List D))
 |box (cells:List C)
 |py (cells:List D)
 |map (ka va:Bool) (es:List (List Value×List D×Nat)) (fH:Nat)
 |cap (sz:Nat) (rows:List (List D)) (cp:Nat)
 |nst (sz:Nat) (slots:List lU)
 deriving Inhabited
inductive T where
 |d (x:D)
 |sl (sz:Nat) (rows:List (List D))
 |pt (cells:List T)
 |AZ (sz:Nat) (rows:List (Option (List (List D))))
 |wK
 deriving Inhabited
inductive A where
 |d (x:D)
 |agg (cells:List D)
 |mt (t:T)
 deriving Inhabited
inductive R where
 |c (t:T)
 |agg (cells:List T)
 deriving Inhabited
def fg:Value->Bool
 |.bool _|.int _ _|.float _ _|.string _|.pointer none|.slice none 0 0|.map none|.nilFunc|.nilIface=>true
 |_=>false
def E7:Nat:=2147483648
def cn{α:Type}:List (Nat×α)->Nat->Option α
 |[],_=>none
 |(a,x)::r,k=>bif a==k then some x else cn r k
abbrev kA:=List (Nat×TV)
abbrev bD:=List (Nat×Option Ob)
abbrev fN:=List (Nat×Option Ob)
def az(h:bD)(id:Nat):Option Ob:=(cn h id).join
inductive Kd where
 |b
 |i (k:IntKind)
 |s
 deriving Inhabited,DecidableEq
inductive K where
 |mv
 |pick
 |alloc (zero:List Value)
 |box
 |build (zero:List Value) (places:List (Nat×Nat))
 |buildSlice (sz len:Nat) (zero:List Value) (places:List Nat)
 |load (agg:Bool) (n:Nat)
 |store (n:Nat)
 |nilCheck
 |AL (op:BinOp)
 |vH (neg:Bool)
 |ss (kind:Nat) (neg:Bool)
 |Ay (neg:Bool) (ks:List Kd)
 |un (op:UnOp)
 |wN (k:IntKind)
 |FG (k:FloatKind)
 |ul
 |J1 (f:FuncId)
 |makeSlice (zero:List Value)
 |slice (str:Bool) (sz:Nat) (lo hi:Bool)
 |fieldAddr (off n:Nat)
 |field (agg:Bool) (off n:Nat)
 |indexAddr (aL:Option Nat) (sz:Nat)
 |qG
 |index (agg:Bool) (len sz:Nat)
 |extract (i:Nat)
 |len (str:Bool)
 |tg (isMax:Bool)
 |append (sz:Nat)
 |copy (sz:Nat)
 |clear (zero:List Value)
 |CE (sz:Nat)
 |Nk
 |TB (zero:List Value)
 |Sx
 |call (ro:Bool) (ld:List Bool)
 |makeMap (ka va:Bool)
 |lookup (ka:Bool) (ks:List Kd) (va:Bool) (zero:List Value) (ok:Bool)
 |mapEntry (ka:Bool) (ks:List Kd) (va:Bool) (zero:List Value)
 |entryStore (va:Bool) (m:Nat)
 |BX (szi:Nat)
 |u6
 |gG
 deriving Inhabited
structure pk where
 dst:Option Nat
 k:K
 args:List Operand
 guard:Option (Nat×Bool)
 deriving Inhabited
inductive CC where
 |skip
 |region (ops:List pk) (nz:List Nat)
 |drawn (ops:List pk) (dyn:List (Nat×Nat)) (nz:List Nat)
 |seq (a b:CC)
 |cond (c:Operand) (a b:CC)
 |block (id:Nat) (a:CC)
 |loop (nz:List Nat) (a:CC)
 |exit (id:Nat)
 |ret
 |gG
 deriving Inhabited
structure St where
 dF:kA
 heap:bD
 next:Nat
 gh:List C
 deriving Inhabited
inductive tO where
 |normal
 |exit (id:Nat)
 |ret
 deriving Inhabited,DecidableEq
def Ta:Nat->Option D:=fun _ => none
def cv:Value->Option TV
 |.agg cs=>if cs.toList.all fg then some (.agg (cs.toList.map fun v=>.d (.lit v)))else none
 |v=>if fg v then some (.c (.d (.lit v)))else none
def lN(e:kA):Operand->Option TV
 |.tmp t=>cn e t
 |.const v=>cv v
 |.global g=>(Ta g).map fun d=>.c (.d d)
 |.func f=>some (.c (.d (.fn f [])))
def cellsOf:TV->Option (List C)
 |.c x=>some [x]
 |.agg cs=>some cs
 |.jA _=>none
def fL:List Value->List C:=nf fun v=>.d (.lit v)
def dg:List Value->List D:=nf D.lit
def aW{α:Type}(l:List α)(off:Nat)(p:List α):List α:=l.take off++p++l.drop (off+p.length)
def ot(cells:List C):List ((Nat×Nat)×TV)->Option (List C)
 |[]=>some cells
 |((off,n),v)::r=>match cellsOf v with|some cs=>if cs.length=n/\off+n<=cells.length then ot (aW cells off cs) r else none|none=>none
def nC{α:Type}(sz:Nat):Nat->List α->List (List α)
 |0,_=>[]
 |n+1,l=>l.take sz::nC sz n (l.drop sz)
def Lf(sz:Nat):lU->Option D
 |.nil=>some (.lit (.slice none 0 0))
 |.bq rows=>some (.sl sz rows)
 |.ez _ _=>none
def rD(sz:Nat):List lU->Option (List (List D))
 |[]=>some []
 |s::r=>match Lf sz s,rD sz r with|some x,some l=>some ([x]::l)|_,_=>none
def PS:lU->Option (Option (List (List D)))
 |.nil=>some none
 |.bq rows=>some (some rows)
 |.ez _ _=>none
def vq:List lU->Option (List (Option (List (List D))))
 |[]=>some []
 |s::r=>match PS s,vq r with|some x,some l=>some (x::l)|_,_=>none
def nX:Option (List (List D))->lU
 |none=>.nil
 |some rows=>.bq rows
mutual
def ei(h:bD):Nat->C->Option (D×List Nat)
 |_,.d x=>some (x,[])
 |_,.fK sz id off len=>match az h id with|some (.aL _ rows)|some (.qH _ rows)=>if off+len<=rows.length then some (.sl sz ((rows.drop off).take len),[id])else none|some (.nst szi slots)=>if off=0/\len=slots.length then(match rD szi slots with|some rows=>some (.sl sz rows,[id])|none=>none)else none|_=>none
 |_,.ep id bw off=>
  match az h id with
  |some (.aL _ rows)|some (.qH _ rows)=>match rows[bw]?with|some r=>if off<=r.length then some (.pt (r.drop off),[id])else none|none=>none
  |_=>none
 |0,_=>none
 |n+1,.op id off=>
  match az h id with
  |some (.py cells)=>if off<=cells.length then some (.pt (cells.drop off),[id])else none
  |some (.box cells)=>match gu h n cells with|some (ds,aw)=>if off<=ds.length then some (.pt (ds.drop off),id::aw)else none|none=>none
  |_=>none
 |n+1,.pS f caps=>match gu h n caps with|some (ds,aw)=>some (.fn f ds,aw)|none=>none
 |_+1,.om _=>none
def gu(h:bD):Nat->List C->Option (List D×List Nat)
 |_,[]=>some ([],[])
 |0,_=>none
 |n+1,c::cs=>match ei h n c,gu h n cs with|some (x,a),some (xs,b)=>some (x::xs,a++b)|_,_=>none
end
def kT(h:bD)(all:List Nat)(id:Nat):Option Ob:=
 match az h id with
 |some (.aL sz rows)=>some (.qH sz rows)
 |some (.qH sz rows)=>some (.qH sz rows)
 |some (.py cells)=>some (.py cells)
 |some (.box cells)=>match gu h 300 cells with|some (ds,aw)=>if aw.all (fun i=>all.contains i)then some (.py ds)else none|none=>none
 |some (.map _ _ _ _)=>none
 |some (.cap _ _ _)=>none
 |some (.nst szi slots)=>match rD szi slots with|some rows=>some (.qH 1 rows)|none=>none
 |none=>none
def dM(h:bD)(all:List Nat):List Nat->Option fN
 |[]=>some []
 |id::r=>match kT h all id,dM h all r with|some o,some u=>some ((id,some o)::u)|_,_=>none
def dU(h:bD):List C->Option (List D×List Nat)
 |[]=>some ([],[])
 |c::cs=>match ei h 300 c,dU h cs with|some (x,a),some (xs,b)=>some (x::xs,a++b)|_,_=>none
mutual
def fc(h:bD):Nat->C->Option (T×List Nat×List Nat)
 |_,.d x=>some (.d x,[],[])
 |_,.fK sz id off len=>match az h id with|some (.aL _ rows)=>if off+len<=rows.length then some (.sl sz ((rows.drop off).take len),[id],[id])else none|some (.qH _ rows)=>if off+len<=rows.length then some (.d (.sl sz ((rows.drop off).take len)),[],[id])else none|some (.nst szi slots)=>if off=0/\len=slots.length then(match vq slots with|some rows=>some (.AZ szi rows,[id],[id])|none=>none)else none|_=>none
 |0,_=>none
 |n+1,.op id 0=>
  match az h id with
  |some (.box cells)=>match jk h n cells with|some (ts,bq,aw)=>some (.pt ts,id::bq,id::aw)|none=>none
  |some (.py cells)=>some (.d (.pt cells),[],[id])
  |_=>none
 |_+1,_=>none
def jk(h:bD):Nat->List C->Option (List T×List Nat×List Nat)
 |_,[]=>some ([],[],[])
 |0,_=>none
 |n+1,c::cs=>match fc h n c,jk h n cs with|some (x,a,i),some (xs,b,j)=>some (x::xs,a++b,i++j)|_,_=>none
end
mutual
def lW(nxt:Nat):T->C×fN×Nat
 |.d x=>(.d x,[],nxt+1)
 |.wK=>(.d (.lit .nilFunc),[],nxt+1)
 |.sl sz rows=>(.fK sz nxt 0 rows.length,[(nxt,some (.aL sz rows))],nxt+1)
 |.AZ sz rows=>(.fK 1 nxt 0 rows.length,[(nxt,some (.nst sz (rows.map nX)))],nxt+1)
 |.pt ts=>let(cs,u,m):=jb (nxt+1) ts;(.op nxt 0,(nxt,some (.box cs))::u,m)
def jb(nxt:Nat):List T->List C×fN×Nat
 |[]=>([],[],nxt)
 |t::ts=>let(c,u,m):=lW nxt t;let(cs,v,k):=jb m ts;(c::cs,u++v,k)
end
def x8(nxt:Nat):R->TV×fN×Nat
 |.c t=>let(c,u,m):=lW nxt t;(.c c,u,m)
 |.agg ts=>let(cs,u,m):=jb nxt ts;(.agg cs,u,m)
def il(nxt:Nat):List R->List TV×fN×Nat
 |[]=>([],[],nxt)
 |r::rs=>let(v,u,m):=x8 nxt r;let(vs,w,k):=il m rs;(v::vs,u++w,k)
abbrev Call:=FuncId->List A->Option (List R×List T)
abbrev HO:=Option (TV×fN×List Nat×Nat)
def lv(v:Value):TV:=.c (.d (.lit v))
def pM(op:BinOp):Value->Value->Option Value
 |.int k a,.int k' b=>
  match op with
  |.shl=>if b<0 then none else some (.int k (k.wrap (a*2^(min b.toNat k.bits))))
  |.shr=>if b<0 then none else some (.int k (a.fdiv (2^(min b.toNat k.bits))))
  |op=>if k=k' then
   (match op with
   |.add=>some (.int k (k.wrap (a+b)))
   |.sub=>some (.int k (k.wrap (a-b)))
   |.mul=>some (.int k (k.wrap (a*b)))
   |.quo=>if b=0 then none else some (.int k (k.wrap (a.tdiv b)))
   |.rem=>if b=0 then none else some (.int k (a.tmod b))
   |.and=>some (.int k (k.wrap (de k.bits a&&&de k.bits b).toNat))
   |.or=>some (.int k (k.wrap (de k.bits a|||de k.bits b).toNat))
   |.xor=>some (.int k (k.wrap (de k.bits a^^^de k.bits b).toNat))
   |.andNot=>some (.int k (k.wrap (de k.bits a&&&~~~de k.bits b).toNat))
   |.eql=>some (.bool (a==b))
   |.neq=>some (.bool (a !=b))
   |.lss=>some (.bool (a<b))
   |.leq=>some (.bool (a<=b))
   |.gtr=>some (.bool (a>b))
   |.geq=>some (.bool (a>=b))
   |_=>none)else none
 |.float k a,.float k' b=>
  if k=k' then
   match op with|.add=>(k.format.add a b).map (.float k)|.sub=>(k.format.sub a b).map (.float k)|.mul=>(k.format.mul a b).map (.float k)|.quo=>(k.format.div a b).map (.float k)|.eql=>some (.bool (k.format.order a b==some .eq))|.neq=>some (.bool (k.format.order a b !=some .eq))|.lss=>some (.bool (k.format.order a b==some .lt))|.leq=>some (.bool (k.format.order a b==some .lt||k.format.order a b==some .eq))|.gtr=>some (.bool (k.format.order a b==some .gt))|.geq=>some (.bool (k.format.order a b==some .gt||k.format.order a b==some .eq))|_=>none
  else none
 |.string x,.string y=>match op with|.add=>if((x.size+y.size:Nat):Int)>IntKind.i64.max then none else some (.string (x++y))|.eql=>some (.bool (x.toList==y.toList))|.neq=>some (.bool !(x.toList==y.toList))|.lss=>some (.bool (Op.bytesLess x.toList y.toList))|.leq=>some (.bool (Op.bytesLess x.toList y.toList||x.toList==y.toList))|.gtr=>some (.bool !(Op.bytesLess x.toList y.toList||x.toList==y.toList))|.geq=>some (.bool !(Op.bytesLess x.toList y.toList))|_=>none
 |_,_=>none
def uS(k:FloatKind):Nat:=match k with|.f32=>0x7fc00000|.f64=>0x7ff8000000000001
def CW(op:BinOp):Value->Value->Option Value
 |.float k a,.float k' b=>
  if k=k' then
   match op with|.add=>if k.format.add a b=none then some (.float k (uS k))else none|.sub=>if k.format.sub a b=none then some (.float k (uS k))else none|.mul=>if k.format.mul a b=none then some (.float k (uS k))else none|.quo=>if k.format.div a b=none then some (.float k (uS k))else none|_=>none
  else none
 |_,_=>none
def o7(op:BinOp)(x y:Value):Option Value:=match pM op x y with|some v=>some v|none=>CW op x y
def Qn(op:UnOp):Value->Option Value
 |.bool b=>match op with|.not=>some (.bool !b)|_=>none
 |.int k n=>match op with|.neg=>some (.int k (k.wrap (0-n)))|.xor=>some (.int k (k.wrap (de k.bits (if k.signed then-1 else k.max)^^^de k.bits n).toNat))|_=>none
 |.float k b=>match op with|.neg=>some (.float k (Op.negFloat k b))|_=>none
 |_=>none
def DI:Kd->Value->Value->Option Bool
 |.i q,.int k a,.int k' b=>if k=q/\k'=q then some (a==b)else none
 |.b,.bool a,.bool b=>some (a==b)
 |.s,.string a,.string b=>some (a==b)
 |_,_,_=>none
def gH:List Kd->List Value->List Value->Option Bool
 |[],[],[]=>some true
 |k::ks,x::xs,y::ys=>match DI k x y,gH ks xs ys with|some a,some b=>some (a&&b)|_,_=>none
 |_,_,_=>none
def mO:List C->Option (List Value)
 |[]=>some []
 |.d (.lit v)::r=>match mO r with|some l=>some (v::l)|none=>none
 |_=>none
def DF(isMax:Bool):Value->Value->Option Value
 |.int k x,.int k' y=>if k=k' then some (.int k (if isMax then(if y>x then y else x)else(if y<x then y else x)))else none
 |.float k x,.float k' y=>
  if k=k' then match k.format.order x y with|none=>some (.float k (uS k))|some .lt=>some (.float k (if isMax then y else x))|some .gt=>some (.float k (if isMax then x else y))|some .eq=>some (.float k (if isMax then(if(k.decode x).neg then y else x)else(if(k.decode x).neg then x else y)))
  else none
 |_,_=>none
def L5(isMax:Bool):Value->List (Option TV)->Option Value
 |x,[]=>some x
 |x,some (.c (.d (.lit y)))::r=>match DF isMax x y with|some z=>L5 isMax z r|none=>none
 |_,_=>none
def Fb(agg:Bool)(n:Nat)(cells:List C):Option TV:=if agg then(if n<=cells.length then some (.agg (cells.take n))else none)else match cells with|x::_=>some (.c x)|[]=>none
def P1(agg:Bool)(n:Nat)(cells:List D):Option TV:=if agg then(if n<=cells.length then some (.agg ((cells.take n).map .d))else none)else match cells with|x::_=>some (.c (.d x))|[]=>none
def iC(agg:Bool)(n:Nat)(p:C)(h:bD):Option (TV×List Nat):=
 match p with
 |.d (.pt cells)=>match P1 agg n cells with|some v=>some (v,[])|none=>none
 |.ep id bw off=>
  match az h id with
  |some (.aL _ rows)|some (.qH _ rows)=>
   match rows[bw]?with
   |some r=>match P1 agg n (r.drop off)with|some v=>some (v,[id])|none=>none
   |none=>none
  |_=>none
 |.op id off=>
  match az h id with
  |some (.box cells)=>match Fb agg n (cells.drop off)with|some v=>some (v,[id])|none=>none
  |some (.py cells)=>match P1 agg n (cells.drop off)with|some v=>some (v,[id])|none=>none
  |_=>none
 |_=>none
def tw(id bw sz:Nat)(slots:List lU)(cs:List C)(h:bD):Option (fN×List Nat):=
 match cs with
 |[.d (.lit (.slice none 0 0))]=>some ([(id,some (.nst sz (slots.set bw .nil)))],[id])
 |[.fK sz' id2 0 len]=>match az h id2 with|some (.aL _ rows)=>if sz'=sz/\len=rows.length/\id2≠id then some ([(id,some (.nst sz (slots.set bw (.bq rows)))),(id2,none)],[id,id2])else none|_=>none
 |_=>none
def mF(agg:Bool)(n:Nat)(p:C)(h:bD)(nxt:Nat):HO:=
 match p with
 |.ep id bw 0=>
  match az h id with
  |some (.nst sz slots)=>if agg=false/\n=1 then
   (match slots[bw]?with
   |some .nil=>some (.c (.d (.lit (.slice none 0 0))),[],[id],nxt)
   |some (.bq rows)=>some (.c (.fK sz nxt 0 rows.length),[(nxt,some (.aL sz rows)),(id,some (.nst sz (slots.set bw (.ez nxt rows.length))))],[id],nxt+1)
   |_=>none)else none
  |_=>none
 |_=>none
def nq(n:Nat)(p:C)(v:TV)(h:bD):Option (fN×List Nat):=
 match cellsOf v with
 |none=>none
 |some cs=>
  if cs.length=n then
   match p with
   |.ep id bw off=>
    match az h id with
    |some (.aL sz rows)=>
     match rows[bw]?,dU h cs with
     |some r,some (ds,aw)=>match dM h aw aw with|some u=>if off+n<=r.length/\aw.contains id=false then some ((id,some (.aL sz (rows.set bw (aW r off ds))))::u,id::aw)else none|none=>none
     |_,_=>none
    |some (.nst sz slots)=>if off=0/\n=1/\bw<slots.length then tw id bw sz slots cs h else none
    |_=>none
   |.op id off=>match az h id with|some (.box cells)=>if off+n<=cells.length then some ([(id,some (.box (aW cells off cs)))],[id])else none|_=>none
   |_=>none
  else none
def cA:Option TV->Option Int
 |some (.c (.d (.lit (.int _ n))))=>some n
 |_=>none
def ge(str:Bool)(sz:Nat)(x:C)(lo hi:Option Int):Option C:=
 if str then match x with
 |.d (.lit (.string s))=>
  let h:=hi.getD s.size;let l:=lo.getD 0
  if 0<=l/\l<=h/\h<=s.size then some (.d (.lit (.string (s.extract l.toNat h.toNat))))else none
 |_=>none
 else match x with
 |.d (.lit (.slice none 0 0))=>if 0<=lo.getD 0/\lo.getD 0<=hi.getD 0/\hi.getD 0<=0 then some x else none
 |.fK sz' id off len=>
  let h:=hi.getD len;let l:=lo.getD 0
  if sz'=sz/\0<=l/\l<=h/\h<=len then some (.fK sz id (off+l.toNat) (h.toNat-l.toNat))else none
 |.d (.sl sz' rows)=>
  let h:=hi.getD rows.length;let l:=lo.getD 0
  if sz'=sz/\0<=l/\l<=h/\h<=rows.length then some (.d (.sl sz ((rows.drop l.toNat).take (h.toNat-l.toNat))))else none
 |_=>none
def o4(str:Bool)(sz:Nat)(x:C)(l u:Int)(h:bD):Option (C×List Nat):=
 match str,x with
 |false,.fK sz' id off _=>match az h id with|some (.aL _ rows)=>if sz'=sz/\0<=l/\l<=u/\off+u.toNat<=rows.length then some (.fK sz id (off+l.toNat) (u.toNat-l.toNat),[id])else none|some (.cap _ _ cp)=>if sz'=sz/\0<=l/\l<=u/\off+u.toNat<=cp then some (.fK sz id (off+l.toNat) (u.toNat-l.toNat),[id])else none|_=>none
 |_,_=>none
def MZ(sz:Nat)(x:C)(l u m:Int)(nxt:Nat):Option C:=match x with|.fK sz' _ _ len=>if sz'=sz/\0<=l/\l<=u/\u<=m/\m<=len then some (.fK sz nxt 0 (u.toNat-l.toNat))else none|_=>none
def qd(zero:List Value)(x:C)(h:bD):Option (fN×List Nat):=
 match x with
 |.fK sz id off len=>match az h id with|some (.aL _ rows)=>if sz=zero.length/\off+len<=rows.length then some ([(id,some (.aL sz (aW rows off (ak len (dg zero)))))],[id])else none|_=>none
 |_=>none
def lg(off n:Nat):C->Option C
 |.op id o=>some (.op id (o+off))
 |.ep id r o=>some (.ep id r (o+off))
 |.d (.pt cells)=>if off+n<=cells.length then some (.d (.pt ((cells.drop off).take n)))else none
 |_=>none
def jo(aL:Option Nat)(sz:Nat)(x:C)(i:Int):Option C:=
 match aL with
 |none=>match x with|.fK sz' id off len=>if 0<=i/\i<len/\sz'=sz then some (.ep id (off+i.toNat) 0)else none|.d (.sl sz' rows)=>if 0<=i/\sz'=sz then(match rows[i.toNat]?with|some r=>some (.d (.pt r))|none=>none)else none|_=>none
 |some n=>
  if 0<=i/\i<n then
   match x with|.op id o=>some (.op id (o+i.toNat*sz))|.ep id r o=>some (.ep id r (o+i.toNat*sz))|.d (.pt cells)=>if i.toNat*sz+sz<=cells.length then some (.d (.pt ((cells.drop (i.toNat*sz)).take sz)))else none|_=>none
  else none
def vc:Bool->C->Option Int
 |true,.d (.lit (.string s))=>some s.size
 |false,.d (.lit (.slice none 0 0))=>some 0
 |false,.fK _ _ _ len=>some len
 |false,.d (.sl _ rows)=>some rows.length
 |_,_=>none
def jV(sz:Nat)(h:bD):C->Option (List (List D)×List Nat)
 |.d (.lit (.slice none 0 0))=>some ([],[])
 |.d (.sl sz' rows)=>if sz'=sz then some (rows,[])else none
 |.fK sz' id off len=>match az h id with|some (.aL _ rows)|some (.qH _ rows)=>if sz'=sz/\off+len<=rows.length then some ((rows.drop off).take len,[id])else none|_=>none
 |_=>none
def pC(sz:Nat)(s x:C)(h:bD)(nxt:Nat):HO:=
 match jV sz h x with
 |none=>none
 |some (new,aw)=>
  match s with
  |.d (.lit (.slice none 0 0))=>
   if new.length<=E7 then
    match new with|[]=>some (.c s,[],aw,nxt)|new=>some (.c (.fK sz nxt 0 new.length),[(nxt,some (.aL sz new))],aw,nxt+1)
   else none
  |.fK sz' id off len=>
   match az h id with
   |some (.aL _ rows)=>
    if sz'=sz/\off+len<=rows.length/\len+new.length<=E7 then
     some (.c (.fK sz nxt 0 (len+new.length)),[(id,none),(nxt,some (.aL sz ((rows.drop off).take len++new++rows.drop (off+len+new.length))))],id::aw,nxt+1)
    else none
   |_=>none
  |_=>none
def qc(sz:Nat)(dst src:C)(h:bD):Option (Int×fN×List Nat):=
 match dst,src with
 |.fK sz' id off len,.fK sz2 id2 off2 len2=>
  match az h id,az h id2 with
  |some (.cap _ rows cp),some (.aL _ rows2)=>
   if sz'=sz/\sz2=sz/\off<=rows.length/\off2+min len2 len<=rows2.length then
    some ((min len2 len:Nat),[(id,some (.cap sz (aW rows off ((rows2.drop off2).take (min len2 len))) cp))],[id,id2])
   else none
  |some (.cap _ rows cp),some (.cap _ rows2 _)=>
   if sz'=sz/\sz2=sz/\off<=rows.length/\off2+min len2 len<=rows2.length then
    some ((min len2 len:Nat),[(id,some (.cap sz (aW rows off ((rows2.drop off2).take (min len2 len))) cp))],[id,id2])
   else none
  |_,_=>none
 |_,_=>none
def Cb(zero:List Value)(x:C)(k:Int)(h:bD)(nxt:Nat):HO:=
 match x with
 |.fK sz' id off len=>
  match az h id with
  |some (.cap _ rows cp)=>
   if sz'=zero.length/\0<=k/\len+k.toNat<=E7/\off+len<=rows.length/\cp<off+len+k.toNat then
    some (.c (.fK zero.length nxt 0 (len+k.toNat)),[(nxt,some (.aL zero.length ((rows.drop off).take len++ak k.toNat (dg zero))))],[id],nxt+1)
   else none
  |_=>none
 |_=>none
def Ax(x:C)(h:bD):Option (Nat×List Nat):=
 match x with
 |.fK _ id off _=>match az h id with|some (.cap _ _ cp)=>some (cp-off,[id])|_=>none
 |_=>none
def Aw(x y:C)(h:bD):Option (List Nat):=
 match x,y with
 |.fK _ a _ _,.fK _ b _ _=>match az h a,az h b with|some (.aL _ _),some (.cap _ _ cp)=>if a≠b/\0<cp then some [a,b]else none|_,_=>none
 |_,_=>none
def nB(sz:Nat)(dst src:C)(h:bD):Option (Int×fN×List Nat):=
 match jV sz h src,dst with
 |some (_,aw),.d (.lit (.slice none 0 0))=>some (0,[],aw)
 |some (new,aw),.fK sz' id off len=>
  match az h id with
  |some (.aL _ rows)=>
   if sz'=sz/\off+len<=rows.length then
    some ((min new.length len:Nat),[(id,some (.aL sz (aW rows off (new.take len))))],id::aw)
   else none
  |_=>none
 |_,_=>none
def gK(h:bD):List TV->List Bool->Option (List A×List Nat×List (C×List Nat×List Nat))
 |[],_=>some ([],[],[])
 |v::vs,ms=>
  match gK h vs ms.tail with
  |none=>none
  |some (as,aw,lent)=>
   if ms.headD false then
    match v with
    |.c c=>match fc h 300 c with|some (t,bq,rd)=>some (.mt t::as,aw,(c,bq,rd)::lent)|none=>none
    |_=>none
   else match v with
    |.c c=>match ei h 300 c with|some (x,i)=>some (.d x::as,i++aw,lent)|none=>none
    |.agg cs=>match dU h cs with|some (xs,i)=>some (.agg xs::as,i++aw,lent)|none=>none
    |.jA _=>none
def dX(nxt:Nat):List (C×List Nat×List Nat)->List T->Option (fN×Nat)
 |[],[]=>some ([],nxt)
 |(_,[],_)::r,.d _::ts=>dX nxt r ts
 |(.op id 0,bq,_)::r,.pt ts'::ts=>match dX (jb nxt ts').2.2 r ts with|some (w,k)=>if bq.contains id then some ((id,some (.box (jb nxt ts').1))::(jb nxt ts').2.1++bq.map (fun i=>(i,none))++w,k)else none|none=>none
 |(.fK sz id 0 len,bq,_)::r,.sl sz' rows::ts=>
  if rows.length=len/\sz'=sz/\bq=[id]then
   match dX nxt r ts with|some (w,k)=>some ((id,some (.aL sz rows))::w,k)|none=>none
  else none
 |(.fK sz id 0 len,bq,_)::r,.AZ szi rows::ts=>
  if rows.length=len/\sz=1/\bq=[id]then
   match dX nxt r ts with|some (w,k)=>some ((id,some (.nst szi (rows.map nX)))::w,k)|none=>none
  else none
 |(_,bq,_)::r,.wK::ts=>match dX nxt r ts with|some (w,k)=>some (bq.map (fun i=>(i,none))++w,k)|none=>none
 |_,_=>none
def xG:R->Bool
 |.c (.d (.lit _))=>true
 |.agg ts=>ts.all fun|.d (.lit _)=>true|_=>false
 |_=>false
def GL:T->Bool
 |.d (.lit _)=>true
 |.sl _ rows=>rows.all fun r=>r.all fun|.lit _=>true|_=>false
 |.wK=>true
 |_=>false
def t5:List TV->TV
 |[v]=>v
 |vs=>.jA vs
def eX{α:Type}:List (Option α)->Option (List α)
 |[]=>some []
 |some x::r=>match eX r with|some xs=>some (x::xs)|none=>none
 |none::_=>none
def eT(h:bD):List (C×List Nat×List Nat)->Bool
 |[]=>true
 |(.fK _ id off len,_)::r=>(match az h id with|some (.aL _ rows)=>off==0&&len==rows.length|some (.nst _ slots)=>off==0&&len==slots.length|_=>false)&&eT h r
 |_::r=>eT h r
def vG(call:Call)(ro:Bool)(ld:List Bool)(f:Option TV)(vs:List (Option TV))(h:bD)(nxt:Nat):HO:=
 match(match f with|some (.c (.d (.fn f caps)))=>some (f,caps.map C.d)|some (.c (.pS f caps))=>some (f,caps)|_=>none),eX vs with
 |some (f,caps),some vs=>
  match gK h (vs++caps.map TV.c) ld with
  |none=>none
  |some (as,aw,lent)=>
   if eT h lent/\(lent.flatMap (·.2.1)).Nodup/\(lent.flatMap (·.2.1)).all (fun i=>!aw.contains i)then
    match call f as with
    |none=>none
    |some (rs,outs)=>
     if ro then
      if rs.all xG/\outs.all GL then
       match dX nxt lent outs with
       |none=>none
       |some (bu,m)=>
        let(vs,u,k):=il m rs
        some (t5 vs,u++bu,aw++lent.flatMap (·.2.2),k)
      else none
     else
      match dM h aw aw with
      |none=>none
      |some fu=>
       match dX nxt lent outs with
       |none=>none
       |some (bu,m)=>
        let(vs,u,k):=il m rs
        some (t5 vs,u++bu++fu,aw++lent.flatMap (·.2.2),k)
   else none
 |_,_=>none
def rk:Nat->C->Option Bool
 |0,.d (.lit (.slice none 0 0))=>some true
 |0,.d (.sl _ _)|0,.fK _ _ _ _=>some false
 |1,.d (.lit (.pointer none))=>some true
 |1,.d (.pt _)|1,.ep _ _ _|1,.op _ _=>some false
 |2,.d (.lit .nilFunc)=>some true
 |2,.d (.fn _ _)|2,.pS _ _=>some false
 |_,_=>none
def AB:List C->Option (List D)
 |[]=>some []
 |.d x::r=>match AB r with|some l=>some (x::l)|none=>none
 |_=>none
abbrev ur:=List Value×List D×Nat
def oq(ks:List Kd)(key:List Value):List ur->Nat->Option (Option Nat)
 |[],_=>some none
 |e::r,i=>match gH ks key e.1 with|some true=>some (some i)|some false=>oq ks key r (i+1)|none=>none
def qn(va:Bool)(ds:List D):Option TV:=if va then some (.agg (ds.map .d))else match ds with|[x]=>some (.c (.d x))|_=>none
def J4:Kd->Value->Bool
 |.i q,.int k _=>decide (k=q)
 |.b,.bool _=>true
 |.s,.string _=>true
 |_,_=>false
def y6:List Kd->List Value->Bool
 |[],[]=>true
 |k::ks,x::xs=>J4 k x&&y6 ks xs
 |_,_=>false
def pU(ka:Bool)(ks:List Kd):TV->Option (List Value)
 |.agg cs=>if ka=true/\cs.length=ks.length then(match mO cs with|some l=>if y6 ks l=true then some l else none|none=>none)else none
 |.c x=>if ka=false/\ks.length=1 then(match mO [x]with|some l=>if y6 ks l=true then some l else none|none=>none)else none
 |.jA _=>none
def iX(ka:Bool)(ks:List Kd)(va:Bool)(zero:List Value)(ok:Bool)(m:C)(k:TV)(h:bD):Option (TV×List Nat):=
 match m,pU ka ks k with
 |.d (.lit (.map none)),some _=>match qn va (dg zero)with|some v=>some (if ok then .jA [v,lv (.bool false)]else v,[])|none=>none
 |.om id,some key=>
  match az h id with
  |some (.map ka' va' es _)=>
   if ka'=ka/\va'=va then
    match oq ks key es 0 with
    |some (some i)=>match qn va (es.getD i default).2.1 with|some v=>some (if ok then .jA [v,lv (.bool true)]else v,[id])|none=>none
    |some none=>match qn va (dg zero)with|some v=>some (if ok then .jA [v,lv (.bool false)]else v,[id])|none=>none
    |none=>none
   else none
  |_=>none
 |_,_=>none
def ow(ka:Bool)(ks:List Kd)(va:Bool)(zero:List Value)(m:C)(k:TV)(h:bD):Option (TV×fN×List Nat):=
 match m,pU ka ks k with
 |.om id,some key=>
  match az h id with
  |some (.map ka' va' es fH)=>
   if ka'=ka/\va'=va then
    match oq ks key es 0 with
    |some (some i)=>match qn va (es.getD i default).2.1 with|some v=>some (.jA [v,lv (.int .i64 (es.getD i default).2.2)],[(id,some (.map ka va es fH))],[id])|none=>none
    |some none=>match qn va (dg zero)with|some v=>some (.jA [v,lv (.int .i64 fH)],[(id,some (.map ka va (es++[(key,dg zero,fH)]) (fH+1)))],[id])|none=>none
    |none=>none
   else none
  |_=>none
 |_,_=>none
def y7:TV->Bool
 |.agg _=>true
 |_=>false
def oz(va:Bool)(n:Nat)(m:C)(st:Option TV)(x:TV)(h:bD):Option (fN×List Nat):=
 match m,cA st,(cellsOf x).bind AB with
 |.om id,some s,some ds=>
  match az h id with
  |some (.map ka va' es fH)=>
   if va'=va/\ds.length=n/\y7 x=va then
    match es.findIdx? (fun e=>decide ((e.2.2:Int)=s))with|some i=>some ([(id,some (.map ka va (es.set i ((es.getD i default).1,ds,(es.getD i default).2.2)) fH))],[id])|none=>none
   else none
  |_=>none
 |_,_,_=>none
def cI(call:Call)(k:K)(vs:List (Option TV))(h:bD)(nxt:Nat):HO:=
 match k,vs with
 |.mv,[some x]=>some (x,[],[],nxt)
 |.pick,[some (.c (.d (.lit (.bool c)))),a,b]=>match(if c then a else b)with|some v=>some (v,[],[],nxt)|none=>none
 |.alloc zero,[]=>some (.c (.op nxt 0),[(nxt,some (.box (fL zero)))],[],nxt+1)
 |.box,[some x]=>match cellsOf x with|some cs=>some (.c (.op nxt 0),[(nxt,some (.box cs))],[],nxt+1)|none=>none
 |.build zero places,vs=>
  match eX vs with
  |some xs=>match ot (fL zero) (places.zip xs)with|some cs=>some (.agg cs,[],[],nxt)|none=>none
  |none=>none
 |.buildSlice sz len zero places,vs=>
  match eX vs with
  |some xs=>
   match ot (fL zero) ((places.map fun i=>(i*sz,sz)).zip xs)with
   |some cs=>
    match dU h cs with
    |some (ds,aw)=>match dM h aw aw with|some u=>some (.c (.fK sz nxt 0 len),(nxt,some (.aL sz (nC sz len ds)))::u,aw,nxt+1)|none=>none
    |none=>none
   |none=>none
  |none=>none
 |.load agg n,[some (.c p)]=>match iC agg n p h with|some (v,aw)=>some (v,[],aw,nxt)|none=>none
 |.u6,[some (.c p)]=>match iC false 1 p h with|some (v,aw)=>some (v,[],aw,nxt)|none=>mF false 1 p h nxt
 |.store n,[some (.c p),some v]=>match nq n p v h with|some (u,aw)=>some (.jA [],u,aw,nxt)|none=>none
 |.nilCheck,[some (.c x)]=>match x with|.d (.pt _)|.d (.fn _ _)|.ep _ _ _|.op _ _|.pS _ _=>some (.c x,[],[],nxt)|_=>none
 |.AL op,[some (.c (.d (.lit x))),some (.c (.d (.lit y)))]=>match o7 op x y with|some v=>some (lv v,[],[],nxt)|none=>none
 |.vH neg,[some (.c (.d (.lit (.bool x)))),some (.c (.d (.lit (.bool y))))]=>some (lv (.bool (if neg then !(x==y)else x==y)),[],[],nxt)
 |.ss kind neg,[some (.c x)]=>match rk kind x with|some b=>some (lv (.bool (if neg then !b else b)),[],[],nxt)|none=>none
 |.Ay neg ks,[some (.agg xs),some (.agg ys)]=>
  match mO xs,mO ys with
  |some xs,some ys=>match gH ks xs ys with|some b=>some (lv (.bool (if neg then !b else b)),[],[],nxt)|none=>none
  |_,_=>none
 |.un op,[some (.c (.d (.lit x)))]=>match Qn op x with|some v=>some (lv v,[],[],nxt)|none=>none
 |.wN k,[some (.c (.d (.lit (.int _ n))))]=>some (lv (.int k (k.wrap n)),[],[],nxt)
 |.FG k,[some (.c (.d (.lit (.int _ n))))]=>some (lv (.float k (k.nearest n)),[],[],nxt)
 |.ul,[some (.c (.d (.lit (.string s))))]=>some (lv (.string s),[],[],nxt)
 |.J1 f,vs=>
  match eX vs with
  |some xs=>match eX (xs.map fun|.c c=>some c|_=>none)with|some cs=>some (.c (.pS f cs),[],[],nxt)|none=>none
  |none=>none
 |.makeSlice zero,[l,c]=>
  match cA l,cA c with
  |some l,some c=>
   if 0<=l/\l<=c/\c<=E7 then
    some (.c (.fK zero.length nxt 0 l.toNat),[(nxt,some (.aL zero.length (ak l.toNat (dg zero))))],[],nxt+1)
   else none
  |_,_=>none
 |.BX szi,[l,c]=>match cA l,cA c with|some l,some c=>if 0<=l/\l<=c/\c<=E7 then some (.c (.fK 1 nxt 0 l.toNat),[(nxt,some (.nst szi (ak l.toNat .nil)))],[],nxt+1)else none|_,_=>none
 |.slice str sz lo hi,some (.c x)::r=>
  match lo,hi,r with
  |false,false,[]=>match ge str sz x none none with|some y=>some (.c y,[],[],nxt)|none=>none
  |true,false,[l]=>match cA l with|some l=>(match ge str sz x (some l) none with|some y=>some (.c y,[],[],nxt)|none=>none)|none=>none
  |false,true,[u]=>match cA u with|some u=>(match ge str sz x none (some u)with|some y=>some (.c y,[],[],nxt)|none=>(match o4 str sz x 0 u h with|some (y,aw)=>some (.c y,[],aw,nxt)|none=>none))|none=>none
  |true,true,[l,u]=>
   match cA l,cA u with
   |some l,some u=>match ge str sz x (some l) (some u)with|some y=>some (.c y,[],[],nxt)|none=>(match o4 str sz x l u h with|some (y,aw)=>some (.c y,[],aw,nxt)|none=>none)
   |_,_=>none
  |_,_,_=>none
 |.CE sz,[some (.c x),l,u,m]=>
  match cA l,cA u,cA m with
  |some l,some u,some m=>match MZ sz x l u m nxt with|some y=>some (.c y,[],[],nxt+1)|none=>none
  |_,_,_=>none
 |.clear zero,[some (.c x)]=>match qd zero x h with|some (u,aw)=>some (.jA [],u,aw,nxt)|none=>none
 |.fieldAddr off n,[some (.c x)]=>match lg off n x with|some y=>some (.c y,[],[],nxt)|none=>none
 |.field agg off n,[some (.agg cs)]=>match Fb agg n (cs.drop off)with|some v=>some (v,[],[],nxt)|none=>none
 |.indexAddr aL sz,[some (.c x),i]=>
  match cA i with
  |some i=>match jo aL sz x i with|some y=>some (.c y,[],[],nxt)|none=>none
  |none=>none
 |.qG,[some (.c (.d (.lit (.string s)))),i]=>
  match cA i with
  |some i=>match(if 0<=i then s[i.toNat]?else none)with|some b=>some (lv (.int .u8 b.toNat),[],[],nxt)|none=>none
  |none=>none
 |.index agg len sz,[some (.agg cs),i]=>
  match cA i with
  |some i=>if 0<=i/\i<len then match Fb agg sz (cs.drop (i.toNat*sz))with|some v=>some (v,[],[],nxt)|none=>none else none
  |none=>none
 |.extract i,[some (.jA xs)]=>match xs[i]?with|some v=>some (v,[],[],nxt)|none=>none
 |.len str,[some (.c x)]=>match vc str x with|some n=>some (lv (.int .i64 n),[],[],nxt)|none=>none
 |.tg m,some (.c (.d (.lit x)))::r=>match L5 m x r with|some v=>some (lv v,[],[],nxt)|none=>none
 |.append sz,[some (.c s),some (.c x)]=>pC sz s x h nxt
 |.copy sz,[some (.c d),some (.c s)]=>match nB sz d s h with|some (i,u,aw)=>some (lv (.int .i64 i),u,aw,nxt)|none=>(match qc sz d s h with|some (i,u,aw)=>some (lv (.int .i64 i),u,aw,nxt)|none=>none)
 |.Nk,[some (.c x)]=>match Ax x h with|some (n,aw)=>some (lv (.int .i64 n),[],aw,nxt)|none=>none
 |.TB zero,[some (.c x),some (.c (.d (.lit (.int _ k))))]=>Cb zero x k h nxt
 |.Sx,[some (.c x),some (.c y)]=>match Aw x y h with|some aw=>some (lv (.bool false),[],aw,nxt)|none=>none
 |.call ro ld,f::vs=>vG call ro ld f vs h nxt
 |.makeMap ka va,[]=>some (.c (.om nxt),[(nxt,some (.map ka va [] 0))],[],nxt+1)
 |.lookup ka ks va zero ok,[some (.c m),some k]=>match iX ka ks va zero ok m k h with|some (v,aw)=>some (v,[],aw,nxt)|none=>none
 |.mapEntry ka ks va zero,[some (.c m),some k]=>match ow ka ks va zero m k h with|some (v,u,aw)=>some (v,u,aw,nxt)|none=>none
 |.entryStore va n,[some (.c m),s,some x]=>match oz va n m s x h with|some (u,aw)=>some (.jA [],u,aw,nxt)|none=>none
 |_,_=>none
def lx(e:kA):Option (Nat×Bool)->Option Bool
 |none=>some true
 |some (t,b)=>match cn e t with|some (.c (.d (.lit (.bool x))))=>some (x==b)|some (.jA [])=>some false|_=>none
def put(e:kA)(dst:Option Nat)(v:TV):kA:=match dst with|some d=>(d,v)::e|none=>e
def drop(e:kA)(dst:Option Nat):kA:=put e dst (.jA [])
def jE:Nat:=1000000
def oA(calls:Nat->Call)(aN:Nat):List pk->Nat->kA->bD->Option (kA×bD×List (List Nat×List Nat))
 |[],_,e,h=>some (e,h,[])
 |o::r,i,e,h=>
  match lx e o.guard with
  |some true=>
   match cI (calls i) o.k (o.args.map (lN e)) h (aN+jE*i)with
   |some (v,u,aw,n)=>
    if n<=aN+jE*(i+1)then
     match oA calls aN r (i+1) (put e o.dst v) (u++h)with|some (e,h,tr)=>some (e,h,(aw,u.map (·.1))::tr)|none=>none
    else none
   |none=>none
  |some false=>match oA calls aN r (i+1) (drop e o.dst) h with|some (e,h,tr)=>some (e,h,([],[])::tr)|none=>none
  |none=>none
def nc(a b:List Nat×List Nat):Bool:=a.2.all (fun i=>!b.1.contains i&&!b.2.contains i)&&b.2.all (fun i=>!a.1.contains i)
def Gh(tr:List (List Nat×List Nat))(i j:Nat):Bool:=
 match tr[i]?,tr[j]?with
 |some a,some b=>nc a b||(match a with|([id],[])=>((tr.take j).drop (i+1)).all (fun x=>!x.2.contains id)|_=>false)
 |_,_=>true
def Cd(tr:List (List Nat×List Nat))(dyn:List (Nat×Nat)):Bool:=dyn.all fun(i,j)=>if 1000<=j then Gh tr i (j-1000)else match tr[i]?,tr[j]?with|some a,some b=>nc a b|_,_=>true
def fo:C->List Nat
 |.d _=>[]
 |.fK _ id _ _|.ep id _ _|.op id _|.om id=>[id]
 |.pS _ caps=>nR caps
where nR:List C->List Nat
 |[]=>[]
 |c::r=>fo c++nR r
def m9:TV->List Nat
 |.c x=>fo x
 |.agg cs=>fo.nR cs
 |.jA xs=>Bm xs
where Bm:List TV->List Nat
 |[]=>[]
 |x::r=>m9 x++Bm r
inductive RV where
 |tmp (t:Nat)
 |cell (t:Nat) (agg:Bool) (n:Nat)
 deriving Inhabited
def enter:List A->Nat->Nat->kA×bD×Nat×List C
 |[],_,n=>([],[],n,[])
 |.d x::r,i,n=>let(e,h,m,l):=enter r (i+1) n;((i,.c (.d x))::e,h,m,l)
 |.agg xs::r,i,n=>let(e,h,m,l):=enter r (i+1) n;((i,.agg (xs.map .d))::e,h,m,l)
 |.mt t::r,i,n=>let(c,u,k):=lW n t;let(e,h,m,l):=enter r (i+1) k;((i,.c c)::e,u++h,m,c::l)
def yd(s:St):RV->Option TV
 |.tmp t=>cn s.dF t
 |.cell t agg n=>match cn s.dF t with|some (.c p)=>(match iC agg n p s.heap with|some (v,_)=>some v|none=>none)|_=>none
def tF(h:bD):TV->Option (R×List Nat)
 |.c c=>match fc h 300 c with|some (t,aw,_)=>some (.c t,aw)|none=>none
 |.agg cs=>match jk h 300 cs with|some (ts,aw,_)=>some (.agg ts,aw)|none=>none
 |.jA _=>none
def vA(h:bD):List TV->Option (List R×List Nat)
 |[]=>some ([],[])
 |v::vs=>match tF h v,vA h vs with|some (r,a),some (rs,b)=>some (r::rs,a++b)|_,_=>none
structure Fn where
 np:Nat
 ntmps:Nat
 lX:List RV
 body:CC
 deriving Inhabited
def yl(k:FloatKind)(n:Nat):Prop:=(k.format.read n).isNaN=true
inductive RD(S:Nat->Prop)(w:World):D->Value->Prop
 |lit {v:Value} (h:fg v=true):RD S w (.lit v) v
 |nan {k:FloatKind} {n m:Nat} (hn:yl k n) (hm:yl k m):RD S w (.lit (.float k n)) (.float k m)
 |ex {k:FloatKind} {n:Nat}:RD S w (.lit (.complex k n 0)) (.float k n)
 |sl {sz:Nat} {rows:List (List D)} {b off cap:Nat} (f:Nat->Nat->Value) (hb:S b) (hsz:0<sz) (hcap:rows.length<=cap)
   (hrow:∀(i:Nat)(r:List D),rows[i]?=some r->r.length=sz)
   (hcell:∀(i:Nat)(r:List D),rows[i]?=some r->∀(j:Nat)(x:D),r[j]?=some x->w.cell? ⟨b,off+i*sz+j,none⟩=some (f i j))
   (hrd:∀(i:Nat)(r:List D),rows[i]?=some r->∀(j:Nat)(x:D),r[j]?=some x->RD S w x (f i j)):
   RD S w (.sl sz rows) (.slice (some ⟨b,off,none⟩) rows.length cap)
 |uB {sz:Nat} {a:Addr} (hsz:0<sz):RD S w (.sl sz []) (.slice (some a) 0 0)
 |pt {cells:List D} {b off:Nat} (f:Nat->Value) (hb:S b)
   (hcell:∀(j:Nat)(x:D),cells[j]?=some x->w.cell? ⟨b,off+j,none⟩=some (f j))
   (hrd:∀(j:Nat)(x:D),cells[j]?=some x->RD S w x (f j)):
   RD S w (.pt cells) (.pointer (some ⟨b,off,none⟩))
 |fn {g:FuncId} {caps:List D} {vs:Array Value} (hlen:caps.length=vs.size)
   (hrd:∀(j:Nat)(x:D),caps[j]?=some x->RD S w x (vs.getD j undef)):
   RD S w (.fn g caps) (.func (.func g) #[] vs)
structure ia(S:Nat->Prop)(w:World)(S':Nat->Prop)(w':World):Prop where
 sub:∀b,S b->S' b
 same:∀b,S b->w'.heap[b]?=w.heap[b]?
theorem ia.refl(S:Nat->Prop)(w:World):ia S w S w:=⟨fun _ h=>h,fun _ _=>rfl⟩
theorem ia.trans{S S' S'':Nat->Prop}{w w' w'':World}(a:ia S w S' w')(b:ia S' w' S'' w''):ia S w S'' w'':=⟨fun x h=>b.sub x (a.sub x h),fun x h=>(b.same x (a.sub x h)).trans (a.same x h)⟩
theorem nD{w w':World}{b:Nat}(h:w'.heap[b]?=w.heap[b]?)(off:Nat):w'.cell? ⟨b,off,none⟩=w.cell? ⟨b,off,none⟩:=by simp[World.cell?,h]
theorem RD.mono{S S':Nat->Prop}{w w':World}(hs:ia S w S' w'){x:D}{v:Value}(h:RD S w x v):RD S' w' x v:=by induction h with|lit h=>exact .lit h|nan hn hm=>exact .nan hn hm|ex=>exact .ex|sl f hb hsz hcap hrow hcell hrd ih=>exact .sl f (hs.sub _ hb) hsz hcap hrow (fun i r hi j x hj=>(nD (hs.same _ hb) _).trans (hcell i r hi j x hj)) ih|uB h=>exact .uB h|pt f hb hcell hrd ih=>exact .pt f (hs.sub _ hb) (fun j x hj=>(nD (hs.same _ hb) _).trans (hcell j x hj)) ih|fn hlen hrd ih=>exact .fn hlen ih
structure gW where
 cQ:Nat
 aN:Nat
 sz:Nat
 ext:Nat
 cap:Nat
 deriving Inhabited
inductive RC(S:Nat->Prop)(w:World)(Kn:Nat->Prop)(φ:Nat->gW):C->Value->Prop
 |d {x:D} {v:Value} (h:RD S w x v):RC S w Kn φ (.d x) v
 |fK {id off len cap addr:Nat} (hk:Kn id) (hcap:len<=cap) (haddr:0<cap->addr=(φ id).aN+off*(φ id).sz) (hext:addr+cap*(φ id).sz<=(φ id).ext) (hc:off+cap=(φ id).cap):
   RC S w Kn φ (.fK (φ id).sz id off len) (.slice (some ⟨(φ id).cQ,addr,none⟩) len cap)
 |ep {id bw off:Nat} (hk:Kn id):RC S w Kn φ (.ep id bw off) (.pointer (some ⟨(φ id).cQ,(φ id).aN+bw*(φ id).sz+off,none⟩))
 |op {id off:Nat} (hk:Kn id):RC S w Kn φ (.op id off) (.pointer (some ⟨(φ id).cQ,(φ id).aN+off,none⟩))
 |pS {g:FuncId} {caps:List C} {vs:Array Value} (hlen:caps.length=vs.size)
   (hrc:∀(j:Nat)(x:C),caps[j]?=some x->RC S w Kn φ x (vs.getD j undef)):
   RC S w Kn φ (.pS g caps) (.func (.func g) #[] vs)
 |om {id:Nat} (hk:Kn id):RC S w Kn φ (.om id) (.map (some (φ id).cQ))
structure uO(Kn:Nat->Prop)(φ:Nat->gW)(Kn':Nat->Prop)(φ':Nat->gW):Prop where
 sub:∀i,Kn i->Kn' i
 same:∀i,Kn i->φ' i=φ i
theorem uO.refl(Kn:Nat->Prop)(φ:Nat->gW):uO Kn φ Kn φ:=⟨fun _ h=>h,fun _ _=>rfl⟩
theorem RC.mono{S S':Nat->Prop}{w w':World}{Kn Kn':Nat->Prop}{φ φ':Nat->gW}(hs:ia S w S' w')(hr:uO Kn φ Kn' φ'){x:C}{v:Value}
  (h:RC S w Kn φ x v):RC S' w' Kn' φ' x v:=by
 induction h with|d h=>exact .d (h.mono hs)|fK hk hcap haddr hext hc=>rw[<-hr.same _ hk]at hext haddr hc|-;exact .fK (hr.sub _ hk) hcap haddr hext hc|ep hk=>rw[<-hr.same _ hk];exact .ep (hr.sub _ hk)|op hk=>rw[<-hr.same _ hk];exact .op (hr.sub _ hk)|pS hlen hrc ih=>exact .pS hlen ih|om hk=>rw[<-hr.same _ hk];exact .om (hr.sub _ hk)
inductive gw(S:Nat->Prop)(w:World)(Kn:Nat->Prop)(φ:Nat->gW):TV->Value->Prop
 |c {x:C} {v:Value} (h:RC S w Kn φ x v):gw S w Kn φ (.c x) v
 |agg {cs:List C} {aL:Array Value} (hlen:cs.length=aL.size) (h:∀(i:Nat)(x:C),cs[i]?=some x->RC S w Kn φ x (aL.getD i undef)):gw S w Kn φ (.agg cs) (.agg aL)
 |jA {xs:List TV} {aL:Array Value} (hlen:xs.length=aL.size) (h:∀(i:Nat)(x:TV),xs[i]?=some x->gw S w Kn φ x (aL.getD i undef)):gw S w Kn φ (.jA xs) (.tuple aL)
theorem gw.mono{S S':Nat->Prop}{w w':World}{Kn Kn':Nat->Prop}{φ φ':Nat->gW}(hs:ia S w S' w')(hr:uO Kn φ Kn' φ'){x:TV}{v:Value}
  (h:gw S w Kn φ x v):gw S' w' Kn' φ' x v:=by
 induction h with|c h=>exact .c (h.mono hs hr)|agg hlen h=>exact .agg hlen fun i x hi=>(h i x hi).mono hs hr|jA hlen h ih=>exact .jA hlen ih
def one:Value->Bool
 |.agg _|.tuple _=>false
 |_=>true
theorem ww{v:Value}(h:fg v=true):one v=true:=by cases v<;>simp_all[fg,one]
theorem RD.one{S:Nat->Prop}{w:World}{x:D}{v:Value}(h:RD S w x v):one v=true:=by cases h with|lit h=>exact ww h|_=>rfl
theorem RC.one{S:Nat->Prop}{w:World}{Kn:Nat->Prop}{φ:Nat->gW}{x:C}{v:Value}(h:RC S w Kn φ x v):one v=true:=by cases h with|d h=>exact h.one|_=>rfl
theorem wP{v:Value}(h:one v=true):v.cells= #[v]:=by cases v<;>simp_all[Ev.one,Value.cells]
def pP(w:World)(b:Nat)(aL:Array Value):Prop:=∃t,w.heap[b]?=some (.cells aL t (0,0))
theorem pP.cell{w:World}{b:Nat}{aL:Array Value}(h:pP w b aL)(i:Nat):w.cell? ⟨b,i,none⟩=aL[i]?:=by obtain⟨t,h⟩:=h;simp[World.cell?,h]
theorem pP.lt{w:World}{b:Nat}{aL:Array Value}(h:pP w b aL):b<w.heap.size:=by obtain⟨t,h⟩:=h;exact(bm.1 h).1
theorem pP.oe{w w':World}{b:Nat}{aL:Array Value}(h:pP w b aL)(hs:w'.heap[b]?=w.heap[b]?):pP w' b aL:=by obtain⟨t,h⟩:=h;exact⟨t,hs.trans h⟩
def cO(S:Nat->Prop)(w:World)(sz:Nat)(get:Nat->Option Value)(aN:Nat)(rows:List (List D)):Prop:=
 (∀(i:Nat)(r:List D),rows[i]?=some r->r.length=sz)/\
 ∀(i:Nat)(r:List D),rows[i]?=some r->∀(j:Nat)(x:D),r[j]?=some x->∃v,get (aN+i*sz+j)=some v/\RD S w x v
def cL:Ob->Bool
 |.aL _ _|.box _|.map _ _ _ _|.cap _ _ _|.nst _ _=>true
 |_=>false
def I3(S:Nat->Prop)(w:World)(sz:Nat)(rows:List (List D))(v:Value)(b:Nat):Prop:=∃(addr cap:Nat)(aL:Array Value),v=.slice (some ⟨b,addr,none⟩) rows.length cap/\0<sz/\pP w b aL/\rows.length<=cap/\addr+cap*sz<=aL.size/\cO S w sz (fun i=>aL[i]?) addr rows
inductive AU(S K:Nat->Prop)(w:World)(Kn:Nat->Prop)(φ:Nat->gW)(sz:Nat):lU->Value->Prop
 |nil:AU S K w Kn φ sz .nil (.slice none 0 0)
 |bq {rows:List (List D)} {v:Value} {b:Nat} (h:I3 S w sz rows v b) (hS:¬S b) (hK:¬K b):AU S K w Kn φ sz (.bq rows) v
 |ez {id len:Nat} {v:Value} (h:RC S w Kn φ (.fK sz id 0 len) v):AU S K w Kn φ sz (.ez id len) v
def yG:Value->Option Nat
 |.slice (some a) _ _=>some a.block
 |_=>none
def tL(w:World)(l:gW)(slots:List lU)(k x:Nat):Prop:=∃rows v,slots[k]?=some (.bq rows)/\w.cell? ⟨l.cQ,l.aN+k,none⟩=some v/\yG v=some x
def KN(ka:Bool)(k:List Value)(v:Value):Prop:=(∀x∈k,fg x=true)/\if ka then v=.agg k.toArray else k=[v]
def xZ(S:Nat->Prop)(w:World)(va:Bool)(ds:List D)(v:Value):Prop:=if va then∃aL:Array Value,v=.agg aL/\ds.length=aL.size/\∀(i:Nat)(x:D),ds[i]?=some x->RD S w x (aL.getD i undef)else∃x,ds=[x]/\RD S w x v
theorem xZ.mono{S S':Nat->Prop}{w w':World}(hs:ia S w S' w'){va:Bool}{ds:List D}{v:Value}(h:xZ S w va ds v):xZ S' w' va ds v:=by
 unfold xZ at h|-;split
 .rename_i hv;rw[if_pos hv]at h;obtain⟨aL,h1,h2,h3⟩:=h;exact⟨aL,h1,h2,fun i x hi=>(h3 i x hi).mono hs⟩
 .rename_i hv;rw[if_neg hv]at h;obtain⟨x,h1,h2⟩:=h;exact⟨x,h1,h2.mono hs⟩
inductive RO(S:Nat->Prop)(K:Nat->Prop)(w:World)(Kn:Nat->Prop)(φ:Nat->gW)(l:gW):Ob->Prop
 |aL {sz:Nat} {rows:List (List D)} {aL:Array Value} (hsz:0<sz) (hl:l.sz=sz) (hS:¬S l.cQ) (hK:¬K l.cQ) (ho:pP w l.cQ aL) (hext:aL.size=l.ext)
   (hfit:l.aN+rows.length*sz<=l.ext) (hr:cO S w sz (fun i=>aL[i]?) l.aN rows) (hv:rows.length<=l.cap):RO S K w Kn φ l (.aL sz rows)
 |qH {sz:Nat} {rows:List (List D)} (hsz:0<sz) (hl:l.sz=sz) (hS:S l.cQ)
   (hr:cO S w sz (fun i=>w.cell? ⟨l.cQ,i,none⟩) l.aN rows):RO S K w Kn φ l (.qH sz rows)
 |box {cells:List C} {aL:Array Value} (hb:l.aN=0) (hS:¬S l.cQ) (hK:¬K l.cQ) (ho:pP w l.cQ aL) (hlen:cells.length=aL.size)
   (hr:∀(i:Nat)(x:C),cells[i]?=some x->RC S w Kn φ x (aL.getD i undef)):RO S K w Kn φ l (.box cells)
 |py {cells:List D} (hb:l.aN=0) (hS:S l.cQ)
   (hr:∀(i:Nat)(x:D),cells[i]?=some x->∃v,w.cell? ⟨l.cQ,i,none⟩=some v/\RD S w x v):RO S K w Kn φ l (.py cells)
 |map {ka va:Bool} {es:List (List Value×List D×Nat)} {fH:Nat} {ms:Array MapEntry} (hS:¬S l.cQ) (hK:¬K l.cQ) (ho:w.heap[l.cQ]?=some (.map ms fH)) (hlen:es.length=ms.size)
   (hr:∀(i:Nat)(e:List Value×List D×Nat)(m:MapEntry),es[i]?=some e->ms[i]?=some m->KN ka e.1 m.key/\xZ S w va e.2.1 m.val/\m.born=e.2.2):RO S K w Kn φ l (.map ka va es fH)
 |cap {sz:Nat} {rows:List (List D)} {cp:Nat} {aL:Array Value} (hsz:0<sz) (hl:l.sz=sz) (hS:¬S l.cQ) (hK:¬K l.cQ) (ho:pP w l.cQ aL) (hext:aL.size=l.ext)
   (hfit:l.aN+cp*sz<=l.ext) (hr:cO S w sz (fun i=>aL[i]?) l.aN rows) (hv:rows.length<=cp) (hc:l.cap=cp):RO S K w Kn φ l (.cap sz rows cp)
 |nst {sz:Nat} {slots:List lU} {aL:Array Value} (hsz:0<sz) (hl:l.sz=1) (hS:¬S l.cQ) (hK:¬K l.cQ) (ho:pP w l.cQ aL) (hext:aL.size=l.ext)
   (hfit:l.aN+slots.length<=l.ext) (hr:∀(i:Nat)(s:lU),slots[i]?=some s->∃v,aL[l.aN+i]?=some v/\AU S K w Kn φ sz s v) (hv:slots.length<=l.cap):RO S K w Kn φ l (.nst sz slots)
theorem cO.mono{S S':Nat->Prop}{w w':World}(hs:ia S w S' w'){sz aN:Nat}{get:Nat->Option Value}{rows:List (List D)}(h:cO S w sz get aN rows):
  cO S' w' sz get aN rows:=
 ⟨h.1,fun i r hi j x hj=>let⟨v,hg,hr⟩:=h.2 i r hi j x hj;⟨v,hg,hr.mono hs⟩⟩
def R9(S':Nat->Prop)(w w':World)(l:gW)(o:Ob):Prop:=∀sz slots,o=.nst sz slots->∀k x,tL w l slots k x->w'.heap[x]?=w.heap[x]?/\¬S' x
theorem I3.mono{S S':Nat->Prop}{w w':World}(hs:ia S w S' w'){sz b:Nat}{rows:List (List D)}{v:Value}(hb:w'.heap[b]?=w.heap[b]?)(h:I3 S w sz rows v b):I3 S' w' sz rows v b:=by obtain⟨a,c,aL,h1,h2,h3,h4,h5,h6⟩:=h;exact⟨a,c,aL,h1,h2,h3.oe hb,h4,h5,h6.mono hs⟩
theorem I3.cQ{S:Nat->Prop}{w:World}{sz b:Nat}{rows:List (List D)}{v:Value}(h:I3 S w sz rows v b):yG v=some b:=by obtain⟨a,c,aL,rfl,_⟩:=h;rfl
theorem I3.bq{S:Nat->Prop}{w:World}{sz b:Nat}{rows:List (List D)}{v:Value}(h:I3 S w sz rows v b):∃aL,pP w b aL:=by obtain⟨a,c,aL,_,_,h,_⟩:=h;exact⟨aL,h⟩
theorem RO.mono{S S' K:Nat->Prop}{w w':World}{Kn Kn':Nat->Prop}{φ φ':Nat->gW}{l:gW}(hs:ia S w S' w')(hr:uO Kn φ Kn' φ'){o:Ob}
  (hsame:cL o=true->w'.heap[l.cQ]?=w.heap[l.cQ]?/\¬S' l.cQ) (hkp:R9 S' w w' l o) (h:RO S K w Kn φ l o):RO S' K w' Kn' φ' l o:=by
 cases h with
 |aL hsz hl hS hK ho hext hfit hrr hv=>exact .aL hsz hl (hsame rfl).2 hK (ho.oe (hsame rfl).1) hext hfit (hrr.mono hs) hv
 |qH hsz hl hS hrr=>refine .qH hsz hl (hs.sub _ hS) ⟨hrr.1,fun i r hi j x hj=>?_⟩;obtain⟨v,hg,h⟩:=hrr.2 i r hi j x hj;exact⟨v,(nD (hs.same _ hS) _).trans hg,h.mono hs⟩
 |box hb hS hK ho hlen hrr=>exact .box hb (hsame rfl).2 hK (ho.oe (hsame rfl).1) hlen fun i x hi=>(hrr i x hi).mono hs hr
 |py hb hS hrr=>refine .py hb (hs.sub _ hS) fun i x hi=>?_;obtain⟨v,hg,h⟩:=hrr i x hi;exact⟨v,(nD (hs.same _ hS) _).trans hg,h.mono hs⟩
 |map hS hK ho hlen hrr=>exact .map (hsame rfl).2 hK ((hsame rfl).1.trans ho) hlen fun i e m hi hm=>let⟨h1,h2,h3⟩:=hrr i e m hi hm;⟨h1,h2.mono hs,h3⟩
 |cap hsz hl hS hK ho hext hfit hrr hv hc=>exact .cap hsz hl (hsame rfl).2 hK (ho.oe (hsame rfl).1) hext hfit (hrr.mono hs) hv hc
 |nst hsz hl hS hK ho hext hfit hrr hv=>refine .nst hsz hl (hsame rfl).2 hK (ho.oe (hsame rfl).1) hext hfit (fun i s hi=>?_) hv;obtain⟨v,h1,h2⟩:=hrr i s hi;refine⟨v,h1,?_⟩;cases h2 with|nil=>exact .nil|@bq rows _ b h hS hK=>obtain⟨k1,k2⟩:=hkp _ _ rfl i b ⟨rows,v,hi,(ho.cell _).trans h1,h.cQ⟩;exact .bq (h.mono hs k1) k2 hK|ez h=>exact .ez (h.mono hs hr)
def Io(w0 w:World):Prop:=w.os=w0.os/\w.output=w0.output/\w.tape=w0.tape/\w0.drawn<=w.drawn
theorem Io.trans{a b c:World}(h:Io a b)(h2:Io b c):Io a c:=⟨h2.1.trans h.1,h2.2.1.trans h.2.1,h2.2.2.1.trans h.2.2.1,bt h.2.2.2 h2.2.2.2⟩
theorem Io.refl(w:World):Io w w:=⟨rfl,rfl,rfl,am _⟩
structure I5(K:Nat->Prop)(w0 w:World):Prop where
 G8:∀b,K b->b<w0.heap.size
 nz:∀b,K b->w.heap[b]?=w0.heap[b]?
 grow:w0.heap.size<=w.heap.size
 B5:∀a,a.block<w0.heap.size->w.frozen? a=w0.frozen? a
 bq:∀b aL,pP w0 b aL->∃arr',pP w b arr'/\arr'.size=aL.size
 io:Io w0 w
def DB(S:Nat->Prop)(w:World):Prop:=∀g d,Ta g=some d->RD S w d (.pointer (some ⟨g,0,none⟩))
theorem DB.mono{S S':Nat->Prop}{w w':World}(h:DB S w)(hs:ia S w S' w'):DB S' w':=fun g d hg=>(h g d hg).mono hs
def VS(w:World)(φ:Nat->gW)(hf:Nat->Option Ob):Prop:=∀i sz sl k x,hf i=some (.nst sz sl)->tL w (φ i) sl k x->
 (∀j b,hf j=some b->cL b=true->(φ j).cQ≠x)/\∀j sz' sl' k',hf j=some (.nst sz' sl')->tL w (φ j) sl' k' x->j=i/\k'=k
structure Inv(S K:Nat->Prop)(w0:World)(Kn:Nat->Prop)(φ:Nat->gW)(hf:Nat->Option Ob)(w:World):Prop where
 vY:∀b,S b->b<w.heap.size
 sk:∀b,S b->¬K b
 oJ:I5 K w0 w
 jy:∀id o,hf id=some o->Kn id/\RO S K w Kn φ (φ id) o
 pL:∀i j a b,hf i=some a->hf j=some b->cL a=true->cL b=true->i≠j->(φ i).cQ≠(φ j).cQ
 C9:DB S w
 ye:VS w φ hf
def bn(u:fN)(hf:Nat->Option Ob)(id:Nat):Option Ob:=match cn u id with|some o=>o|none=>hf id
theorem ic{α:Type}(a b:List (Nat×α))(k:Nat):cn (a++b) k=match cn a k with|some x=>some x|none=>cn b k:=by induction a with|nil=>rfl|cons p r ih=>obtain⟨i,x⟩:=p;simp only[List.cons_append,cn];cases h:(i==k)<;>simp[ih]
theorem gU(u:fN)(h:bD):az (u++h)=bn u (az h):=by funext id;simp only[az,bn,ic];cases cn u id<;>simp
theorem fW(hf:Nat->Option Ob):bn [] hf=hf:=rfl
theorem bV(i:Nat)(o:Option Ob)(u:fN)(hf:Nat->Option Ob)(id:Nat):bn ((i,o)::u) hf id=if i=id then o else bn u hf id:=by
 simp only[bn,cn];by_cases h:i=id
 .simp [h]
 .have e:(i==id)=false:=by simpa using h
  simp[h,e]
theorem eP(u v:fN)(hf:Nat->Option Ob):bn (u++v) hf=bn u (bn v hf):=by funext id;simp only[bn,ic];cases cn u id<;>simp
theorem Inv.vX{S S' K:Nat->Prop}{w0 w w':World}{Kn Kn':Nat->Prop}{φ φ':Nat->gW}{hf hf':Nat->Option Ob}(h:Inv S K w0 Kn φ hf w)
  (hs:ia S w S' w') (hr:uO Kn φ Kn' φ') (hslt:∀b,S' b->b<w'.heap.size) (hsk:∀b,S' b->¬K b) (hfrm:I5 K w0 w')
  (hobj:∀id o,hf' id=some o->(hf id=some o/\(cL o=true->w'.heap[(φ id).cQ]?=w.heap[(φ id).cQ]?/\¬S' (φ id).cQ)/\R9 S' w w' (φ id) o)\/(Kn' id/\RO S' K w' Kn' φ' (φ' id) o))
  (hdist:∀i j a b,hf' i=some a->hf' j=some b->cL a=true->cL b=true->i≠j->(φ' i).cQ≠(φ' j).cQ) (hprv:VS w' φ' hf'):
  Inv S' K w0 Kn' φ' hf' w' where
 vY:=hslt
 sk:=hsk
 oJ:=hfrm
 pL:=hdist
 C9:=h.C9.mono hs
 ye:=hprv
 jy id o ho:=by
  rcases hobj id o ho with⟨h1,h2,h3⟩|h1
  .obtain ⟨hk,hro⟩:=h.jy id o h1;refine⟨hr.sub _ hk,?_⟩;rw[hr.same _ hk];exact hro.mono hs hr h2 h3
  .exact h1
theorem tL.same{w w':World}{l:gW}{sl:List lU}{k x:Nat}(h:w'.heap[l.cQ]?=w.heap[l.cQ]?):tL w' l sl k x<->tL w l sl k x:=by unfold tL;rw[show∀i,w'.cell? ⟨l.cQ,i,none⟩=w.cell? ⟨l.cQ,i,none⟩from fun i=>nD h i]
theorem RO.JB{S K:Nat->Prop}{w:World}{Kn:Nat->Prop}{φ:Nat->gW}{l:gW}{sz:Nat}{sl:List lU}{k x:Nat}(h:RO S K w Kn φ l (.nst sz sl))(hp:tL w l sl k x):
  ¬S x/\¬K x/\x<w.heap.size/\∃rows v,sl[k]?=some (.bq rows)/\w.cell? ⟨l.cQ,l.aN+k,none⟩=some v/\I3 S w sz rows v x:=by
 cases h with
 |nst hsz hl hS hK ho hext hfit hr hv=>
  obtain⟨rows,v,h1,h2,h3⟩:=hp;obtain⟨v',h4,h5⟩:=hr k _ h1;obtain rfl:v'=v:=by rw[ho.cell,h4]at h2;exact aa h2
  cases h5 with
  |@bq _ _ b h6 hS hK=>
   obtain rfl:b=x:=by rw[h6.cQ]at h3;exact aa h3
   obtain⟨aL,h7⟩:=h6.bq;exact⟨hS,hK,h7.lt,rows,v',h1,h2,h6⟩
theorem Inv.JB{S K:Nat->Prop}{w0 w:World}{Kn:Nat->Prop}{φ:Nat->gW}{hf:Nat->Option Ob}(h:Inv S K w0 Kn φ hf w){i sz k x:Nat}{sl:List lU}(hi:hf i=some (.nst sz sl))(hp:tL w (φ i) sl k x):
  ¬S x/\¬K x/\x<w.heap.size/\∃rows v,sl[k]?=some (.bq rows)/\w.cell? ⟨(φ i).cQ,(φ i).aN+k,none⟩=some v/\I3 S w sz rows v x:=(h.jy i _ hi).2.JB hp
def R7(S':Nat->Prop)(w w':World)(φ φ':Nat->gW)(hf hf':Nat->Option Ob):Prop:=∀id sz sl,hf' id=some (.nst sz sl)->hf id=some (.nst sz sl)/\w'.heap[(φ id).cQ]?=w.heap[(φ id).cQ]?/\
 ∀k x,tL w (φ id) sl k x->w'.heap[x]?=w.heap[x]?/\¬S' x/\∀j b,hf' j=some b->cL b=true->(φ' j).cQ≠x
theorem Inv.nW{S S' K:Nat->Prop}{w0 w w':World}{Kn Kn':Nat->Prop}{φ φ':Nat->gW}{hf hf':Nat->Option Ob}(h:Inv S K w0 Kn φ hf w)
  (hs:ia S w S' w') (hr:uO Kn φ Kn' φ') (hslt:∀b,S' b->b<w'.heap.size) (hsk:∀b,S' b->¬K b) (hfrm:I5 K w0 w')
  (hobj:∀id o,hf' id=some o->(hf id=some o/\(cL o=true->w'.heap[(φ id).cQ]?=w.heap[(φ id).cQ]?/\¬S' (φ id).cQ))\/(Kn' id/\RO S' K w' Kn' φ' (φ' id) o))
  (hdist:∀i j a b,hf' i=some a->hf' j=some b->cL a=true->cL b=true->i≠j->(φ' i).cQ≠(φ' j).cQ) (hrest:R7 S' w w' φ φ' hf hf'):
  Inv S' K w0 Kn' φ' hf' w':=by
 have e:∀id sz sl,hf' id=some (.nst sz sl)->φ' id=φ id:=fun id sz sl hi=>hr.same _ (h.jy id _ (hrest id sz sl hi).1).1;have hpat:∀id sz sl k x,hf' id=some (.nst sz sl)->tL w' (φ' id) sl k x->tL w (φ id) sl k x:=fun id sz sl k x hi hp=>by rw[e id sz sl hi]at hp;exact(tL.same (hrest id sz sl hi).2.1).1 hp
 refine h.vX hs hr hslt hsk hfrm (fun id o ho=>?_) hdist fun i sz sl k x hi hp=>?_
 .rcases hobj id o ho with⟨h1,h2⟩|h1
  .exact .inl ⟨h1,h2,fun sz sl eo k x hp=>by subst eo;obtain⟨a,b,_⟩:=(hrest id sz sl ho).2.2 k x hp;exact⟨a,b⟩⟩
  .exact .inr h1
 .have hp':=hpat i sz sl k x hi hp;refine⟨((hrest i sz sl hi).2.2 k x hp').2.2,fun j sz' sl' k' hj hpj=>?_⟩;exact(h.ye i sz sl k x (hrest i sz sl hi).1 hp').2 j sz' sl' k' (hrest j sz' sl' hj).1 (hpat j sz' sl' k' x hj hpj)
theorem js{w:World}{o:Obj}{b:Nat}(h:b<w.heap.size):({w with heap:=w.heap.push o}:World).heap[b]?=w.heap[b]?:=by simp[Array.getElem?_push,Nat.ne_of_lt h]
theorem Ez(w:World)(aL:Array Value)(t:TypeId):pP {w with heap:=w.heap.push (.cells aL t)} w.heap.size aL:=⟨t,by simp⟩
theorem Fo(w:World)(aL:Array Value)(t:TypeId)(a:Addr):({w with heap:=w.heap.push (.cells aL t)}:World).frozen? a=w.frozen? a:=by
 unfold World.frozen?;rcases iO a.block w.heap.size with h|h|h
 .rw [js h]
 .simp [h]
 .rw [gS (by simp;omega),gS (by omega)]
theorem I5.push{K:Nat->Prop}{w0 w:World}(h:I5 K w0 w)(aL:Array Value)(t:TypeId):I5 K w0 {w with heap:=w.heap.push (.cells aL t)}where
 G8:=h.G8
 nz b hb:=(js (dp (h.G8 b hb) h.grow)).trans (h.nz b hb)
 grow:=by have:=h.grow;simp;omega
 B5 a ha:=(Fo w aL t a).trans (h.B5 a ha)
 bq b a ha:=let⟨a',h1,h2⟩:=h.bq b a ha;⟨a',h1.oe (js h1.lt),h2⟩
 io:=h.io
theorem I5.zV{K:Nat->Prop}{w0 w w':World}(h:I5 K w0 w){c:Nat}(hother:∀b,b≠c->w'.heap[b]?=w.heap[b]?)
  (hsz:∀aL,pP w c aL->∃arr',pP w' c arr'/\arr'.size=aL.size) (b:Nat) (aL:Array Value) (ho:pP w0 b aL):∃arr',pP w' b arr'/\arr'.size=aL.size:=by
 obtain⟨a,h1,h2⟩:=h.bq b aL ho;by_cases e:b=c
 .subst e;obtain⟨a',h3,h4⟩:=hsz a h1;exact⟨a',h3,h4.trans h2⟩
 .exact ⟨a,h1.oe (hother b e),h2⟩
theorem I5.drew{K:Nat->Prop}{w0 w:World}(h:I5 K w0 w)(n:Nat)(hn:w.drawn<=n):I5 K w0 {w with drawn:=n}:=⟨h.G8,h.nz,h.grow,h.B5,h.bq,h.io.1,h.io.2.1,h.io.2.2.1,bt h.io.2.2.2 hn⟩
theorem ia.push{S:Nat->Prop}{w:World}(hs:∀b,S b->b<w.heap.size)(o:Obj):ia S w S {w with heap:=w.heap.push o}:=⟨fun _ h=>h,fun b h=>js (hs b h)⟩
theorem ia.drew(S:Nat->Prop)(w:World)(n:Nat):ia S w S {w with drawn:=n}:=⟨fun _ h=>h,fun _ _=>rfl⟩
theorem Inv.Ee{S K:Nat->Prop}{w0 w w':World}{Kn Kn':Nat->Prop}{φ φ':Nat->gW}{hf:Nat->Option Ob}(h:Inv S K w0 Kn φ hf w)(hr:uO Kn φ Kn' φ')(hs:∀b,b<w.heap.size->w'.heap[b]?=w.heap[b]?):R7 S w w' φ φ' hf hf:=fun id sz sl hi=>by
 obtain⟨_,h1⟩:=h.jy id _ hi;have hlt:(φ id).cQ<w.heap.size:=by cases h1 with|nst _ _ _ _ ho=>exact ho.lt
 refine⟨hi,hs _ hlt,fun k x hp=>?_⟩;obtain⟨h2,_,h3,_⟩:=h.JB hi hp;refine⟨hs x h3,h2,fun j b hj hb=>?_⟩;rw[hr.same j (h.jy j b hj).1];exact(h.ye id sz sl k x hi hp).1 j b hj hb
theorem Inv.BK{S K:Nat->Prop}{w0 w w':World}{Kn:Nat->Prop}{φ:Nat->gW}{hf:Nat->Option Ob}(h:Inv S K w0 Kn φ hf w)(hs:∀b,b<w.heap.size->w'.heap[b]?=w.heap[b]?):R7 S w w' φ φ hf hf:=h.Ee (uO.refl _ _) hs
theorem Inv.drew{S K:Nat->Prop}{w0 w:World}{Kn:Nat->Prop}{φ:Nat->gW}{hf:Nat->Option Ob}(h:Inv S K w0 Kn φ hf w)(n:Nat)(hn:w.drawn<=n):
  Inv S K w0 Kn φ hf {w with drawn:=n}:=
 h.nW (ia.drew S w n) (uO.refl _ _) h.vY h.sk (h.oJ.drew n hn) (fun id o ho=>.inl ⟨ho,fun hown=>⟨rfl,by obtain⟨_,hro⟩:=h.jy id o ho;cases hro<;>simp_all[cL]⟩⟩) h.pL (h.BK fun _ _=>rfl)
theorem RO.bq{S K:Nat->Prop}{w:World}{Kn:Nat->Prop}{φ:Nat->gW}{l:gW}{o:Ob}(h:RO S K w Kn φ l o)(ho:cL o=true):
  ¬S l.cQ/\¬K l.cQ/\l.cQ<w.heap.size:=by
 cases h with|aL hsz hl hS hK hown=>exact⟨hS,hK,hown.lt⟩|box hb hS hK hown=>exact⟨hS,hK,hown.lt⟩|map hS hK hmp=>exact⟨hS,hK,(bm.1 hmp).1⟩|cap hsz hl hS hK hown=>exact⟨hS,hK,hown.lt⟩|nst hsz hl hS hK hown=>exact⟨hS,hK,hown.lt⟩|_=>simp[cL]at ho
def ext(φ:Nat->gW)(i:Nat)(l:gW):Nat->gW:=fun j=>if j=i then l else φ j
theorem kC{Kn:Nat->Prop}{φ:Nat->gW}{i:Nat}(l:gW)(hi:¬Kn i):uO Kn φ (fun j=>Kn j\/j=i) (ext φ i l):=⟨fun _ h=>.inl h,fun j h=>by simp only[ext];rw[if_neg];rintro rfl;exact hi h⟩
abbrev I4(o:Ob):Prop:=∀sz sl(k:Nat)rows,o=.nst sz sl->sl[k]?≠some (lU.bq rows)
theorem Inv.Ir{S K:Nat->Prop}{w0 w w':World}{Kn:Nat->Prop}{φ:Nat->gW}{hf:Nat->Option Ob}(h:Inv S K w0 Kn φ hf w){i:Nat}{l:gW}{o:Ob}(hno:I4 o)
  (hsame:∀b,b<w.heap.size->w'.heap[b]?=w.heap[b]?) (hl:cL o=true->∀id sz sl k x,hf id=some (.nst sz sl)->tL w (φ id) sl k x->l.cQ≠x):VS w' (ext φ i l) (bn [(i,some o)] hf):=by
 have key:∀a sz sl k x,bn [(i,some o)] hf a=some (.nst sz sl)->tL w' (ext φ i l a) sl k x->hf a=some (.nst sz sl)/\tL w (φ a) sl k x:=by
  intro a sz sl k x ha hp;rw[bV]at ha;by_cases e:i=a
  .rw [if_pos e]at ha;obtain rfl:=aa ha;obtain⟨rows,v,h1,_⟩:=hp;exact absurd h1 (hno _ _ _ _ rfl)
  .rw [if_neg e,fW]at ha;refine⟨ha,?_⟩;have e1:ext φ i l a=φ a:=by simp only[ext];rw[if_neg (fun q=>e q.symm)]
   rw[e1]at hp;obtain⟨_,h1⟩:=h.jy a _ ha;exact(tL.same (hsame _ (by cases h1 with|nst _ _ _ _ ho=>exact ho.lt))).1 hp
 intro a sz sl k x ha hp;obtain⟨h1,h2⟩:=key a sz sl k x ha hp;obtain⟨p1,p2⟩:=h.ye a sz sl k x h1 h2;refine⟨fun j b hj hown=>?_,fun j sz' sl' k' hj hpj=>?_⟩
 .rw [bV]at hj;by_cases e:i=j
  .rw [if_pos e]at hj;obtain rfl:=aa hj;simp only[ext];rw[if_pos e.symm];exact hl hown a sz sl k x h1 h2
  .rw [if_neg e,fW]at hj;simp only[ext];rw[if_neg (fun q=>e q.symm)];exact p1 j b hj hown
 .obtain ⟨h3,h4⟩:=key j sz' sl' k' x hj hpj;exact p2 j sz' sl' k' h3 h4
theorem Inv.Fe{S K:Nat->Prop}{w0 w w':World}{Kn:Nat->Prop}{φ:Nat->gW}{hf:Nat->Option Ob}(h:Inv S K w0 Kn φ hf w){id:Nat}{o:Ob}(ho:hf id=some o)(hsame:∀b,b<w.heap.size->w'.heap[b]?=w.heap[b]?):R9 S w w' (φ id) o:=by intro sz sl e k x hp;subst e;obtain⟨h1,_,h2,_⟩:=h.JB ho hp;exact⟨hsame x h2,h1⟩
theorem Inv.alloc{S K:Nat->Prop}{w0 w:World}{Kn:Nat->Prop}{φ:Nat->gW}{hf:Nat->Option Ob}(h:Inv S K w0 Kn φ hf w){i:Nat}(hi:¬Kn i)
  (aL:Array Value) (t:TypeId) (sz c:Nat) (o:Ob)
  (hro:RO S K {w with heap:=w.heap.push (.cells aL t)} (fun j=>Kn j\/j=i) (ext φ i ⟨w.heap.size,0,sz,aL.size,c⟩) ⟨w.heap.size,0,sz,aL.size,c⟩ o) (hno:I4 o:=by intro _ _ _ _ e;cases e):
  Inv S K w0 (fun j=>Kn j\/j=i) (ext φ i ⟨w.heap.size,0,sz,aL.size,c⟩) (bn [(i,some o)] hf) {w with heap:=w.heap.push (.cells aL t)}:=by
 refine h.vX (ia.push h.vY _) (kC _ hi) (fun b hb=>by have:=h.vY b hb;simp;omega) h.sk (h.oJ.push aL t) ?_ ?_ (h.Ir hno (fun b hb=>js hb) fun _ id sz sl k x ha hp e=>by have:=(h.JB ha hp).2.2.1;simp only at e;omega)
 .intro id o' ho;rw[bV]at ho;by_cases e:i=id
  .subst e;rw[if_pos rfl]at ho;obtain rfl:o=o':=by simpa using ho
   refine .inr ⟨.inr rfl,?_⟩;simpa[ext]using hro
  .rw [if_neg e,fW]at ho;refine .inl ⟨ho,fun hown=>?_,h.Fe ho fun b hb=>js hb⟩;obtain⟨_,h2⟩:=h.jy id o' ho;obtain⟨a,b,c⟩:=h2.bq hown;exact⟨js c,a⟩
 .have key:∀j b,j≠i->hf j=some b->cL b=true->(ext φ i ⟨w.heap.size,0,sz,aL.size,c⟩ j).cQ<w.heap.size:=by intro j b hj hb hown;obtain⟨_,h2⟩:=h.jy j b hb;simpa[ext,hj]using(h2.bq hown).2.2
  intro a b oa ob ha hb hoa hob hne;rw[bV]at ha hb;by_cases ea:i=a
  .by_cases eb:i=b
   .exact absurd (ea.symm.trans eb) hne
   .rw [if_neg eb,fW]at hb;have:=key b ob (fun e=>eb e.symm) hb hob;have e1:(ext φ i ⟨w.heap.size,0,sz,aL.size,c⟩ a).cQ=w.heap.size:=by simp[ext,ea]
    omega
  .rw [if_neg ea,fW]at ha;have h1:=key a oa (fun e=>ea e.symm) ha hoa;by_cases eb:i=b
   .have e1:(ext φ i ⟨w.heap.size,0,sz,aL.size,c⟩ b).cQ=w.heap.size:=by simp[ext,eb]
    omega
   .rw [if_neg eb,fW]at hb;have:=h.pL a b oa ob ha hb hoa hob hne;have e1:¬a=i:=fun e=>ea e.symm;have e2:¬b=i:=fun e=>eb e.symm;simpa[ext,e1,e2]using this
theorem Dc{w:World}{o:Obj}(ho:∀c t r,o≠.cells c t r)(a:Addr):({w with heap:=w.heap.push o}:World).frozen? a=w.frozen? a:=by
 unfold World.frozen?;rcases iO a.block w.heap.size with h|h|h
 .rw [js h]
 .rw [h];simp only[Array.getElem?_push_size,gS (am _)];cases o with|cells c t r=>exact absurd rfl (ho c t r)|_=>rfl
 .rw [gS (by simp;omega),gS (by omega)]
theorem Inv.R0{S K:Nat->Prop}{w0 w:World}{Kn:Nat->Prop}{φ:Nat->gW}{hf:Nat->Option Ob}(h:Inv S K w0 Kn φ hf w){i:Nat}(hi:¬Kn i)
  {ob:Obj} (hob:∀c t r,ob≠.cells c t r) (l:gW) (hl:l.cQ=w.heap.size) (o:Ob)
  (hro:RO S K {w with heap:=w.heap.push ob} (fun j=>Kn j\/j=i) (ext φ i l) l o) (hno:I4 o:=by intro _ _ _ _ e;cases e):
  Inv S K w0 (fun j=>Kn j\/j=i) (ext φ i l) (bn [(i,some o)] hf) {w with heap:=w.heap.push ob}:=by
 have hfrm:I5 K w0 {w with heap:=w.heap.push ob}:=
  ⟨h.oJ.G8,fun b hb=>(js (dp (h.oJ.G8 b hb) h.oJ.grow)).trans (h.oJ.nz b hb),by have:=h.oJ.grow;simp;omega,fun a ha=>(Dc hob a).trans (h.oJ.B5 a ha),
   fun b a ha=>let⟨a',h1,h2⟩:=h.oJ.bq b a ha;⟨a',h1.oe (js h1.lt),h2⟩,h.oJ.io⟩
 refine h.vX (ia.push h.vY _) (kC _ hi) (fun b hb=>by have:=h.vY b hb;simp;omega) h.sk hfrm ?_ ?_ (h.Ir hno (fun b hb=>js hb) fun _ id sz sl k x ha hp e=>by have:=(h.JB ha hp).2.2.1;omega)
 .intro id o' ho;rw[bV]at ho;by_cases e:i=id
  .subst e;rw[if_pos rfl]at ho;obtain rfl:o=o':=by simpa using ho
   refine .inr ⟨.inr rfl,?_⟩;simpa[ext]using hro
  .rw [if_neg e,fW]at ho;refine .inl ⟨ho,fun hown=>?_,h.Fe ho fun b hb=>js hb⟩;obtain⟨_,h2⟩:=h.jy id o' ho;obtain⟨a,b,c⟩:=h2.bq hown;exact⟨js c,a⟩
 .have key:∀j b,j≠i->hf j=some b->cL b=true->(ext φ i l j).cQ<w.heap.size:=by intro j b hj hb hown;obtain⟨_,h2⟩:=h.jy j b hb;simpa[ext,hj]using(h2.bq hown).2.2
  intro a b oa ob ha hb hoa hob hne;rw[bV]at ha hb;by_cases ea:i=a
  .by_cases eb:i=b
   .exact absurd (ea.symm.trans eb) hne
   .rw [if_neg eb,fW]at hb;have:=key b ob (fun e=>eb e.symm) hb hob;have e1:(ext φ i l a).cQ=w.heap.size:=by simp[ext,ea,hl]
    omega
  .rw [if_neg ea,fW]at ha;have h1:=key a oa (fun e=>ea e.symm) ha hoa;by_cases eb:i=b
   .have e1:(ext φ i l b).cQ=w.heap.size:=by simp[ext,eb,hl]
    omega
   .rw [if_neg eb,fW]at hb;have:=h.pL a b oa ob ha hb hoa hob hne;have e1:¬a=i:=fun e=>ea e.symm;have e2:¬b=i:=fun e=>eb e.symm;simpa[ext,e1,e2]using this
theorem Inv.m8{S K:Nat->Prop}{w0 w:World}{Kn:Nat->Prop}{φ:Nat->gW}{hf hf':Nat->Option Ob}(h:Inv S K w0 Kn φ hf w)(hsub:∀id o,hf' id=some o->hf id=some o):
  Inv S K w0 Kn φ hf' w:=
 ⟨h.vY,h.sk,h.oJ,fun id o ho=>h.jy id o (hsub id o ho),fun i j a b ha hb=>h.pL i j a b (hsub _ _ ha) (hsub _ _ hb),h.C9,
  fun i sz sl k x hi hp=>let⟨a,b⟩:=h.ye i sz sl k x (hsub _ _ hi) hp;⟨fun j b hj=>a j b (hsub _ _ hj),fun j sz' sl' k' hj=>b j sz' sl' k' (hsub _ _ hj)⟩⟩
theorem Inv.set{S K:Nat->Prop}{w0 w w':World}{Kn:Nat->Prop}{φ:Nat->gW}{hf:Nat->Option Ob}(h:Inv S K w0 Kn φ hf w){id:Nat}{o o':Ob}
  (ho:hf id=some o) (hown:cL o=true) (hother:∀b,b≠(φ id).cQ->w'.heap[b]?=w.heap[b]?) (hsize:w'.heap.size=w.heap.size)
  (hfrz:∀a,w'.frozen? a=w.frozen? a) (hsz:∀aL,pP w (φ id).cQ aL->∃arr',pP w' (φ id).cQ arr'/\arr'.size=aL.size) (hio:Io w w') (hro:ia S w S w'->RO S K w' Kn φ (φ id) o') (hn:∀sz sl,o'≠.nst sz sl:=by intro _ _ e;cases e):
  ia S w S w'/\Inv S K w0 Kn φ (bn [(id,some o')] hf) w':=by
 obtain⟨hk,h0⟩:=h.jy id o ho;obtain⟨hS,hK,hlt⟩:=h0.bq hown;have hs:ia S w S w':=⟨fun _ h=>h,fun b hb=>hother b (fun e=>hS (e▸hb))⟩
 have fix:∀i a,bn [(id,some o')] hf i=some a->cL a=true->∃a',hf i=some a'/\cL a'=true:=by
  intro i a ha hoa;rw[bV]at ha;by_cases e:id=i
  .subst e;exact⟨o,ho,hown⟩
  .rw [if_neg e,fW]at ha;exact⟨a,ha,hoa⟩
 refine⟨hs,h.nW hs (uO.refl _ _) (fun b hb=>hsize▸h.vY b hb) h.sk ?_ ?_ ?_ ?_⟩
 .exact ⟨h.oJ.G8,fun b hb=>(hother b (fun e=>hK (e▸hb))).trans (h.oJ.nz b hb),hsize▸h.oJ.grow,fun a ha=>(hfrz a).trans (h.oJ.B5 a ha),h.oJ.zV hother hsz,h.oJ.io.trans hio⟩
 .intro i x hx;rw[bV]at hx;by_cases e:id=i
  .subst e;rw[if_pos rfl]at hx;obtain rfl:o'=x:=by simpa using hx
   exact .inr ⟨hk,hro hs⟩
  .rw [if_neg e,fW]at hx;refine .inl ⟨hx,fun hox=>⟨hother _ ?_,((h.jy i x hx).2.bq hox).1⟩⟩;exact(h.pL i id x o hx ho hox hown (fun e'=>e e'.symm))
 .intro i j a b ha hb hoa hob hne;obtain⟨a',ha',hoa'⟩:=fix i a ha hoa;obtain⟨b',hb',hob'⟩:=fix j b hb hob;exact h.pL i j a' b' ha' hb' hoa' hob' hne
 .intro a sz sl ha;rw[bV]at ha;by_cases e:id=a
  .rw [if_pos e]at ha;exact absurd (aa ha) (hn _ _)
  .rw [if_neg e,fW]at ha;refine⟨ha,hother _ (h.pL a id _ o ha ho rfl hown fun q=>e q.symm),fun k x hp=>?_⟩;obtain⟨p1,_⟩:=h.ye a sz sl k x ha hp;refine⟨hother x fun q=>p1 id o ho hown q.symm,(h.JB ha hp).1,fun j b hj hb=>?_⟩;obtain⟨b',hb',hob'⟩:=fix j b hj hb;exact p1 j b' hb' hob'
variable{P:Program}
def fX(P:Program)(t:TypeId):Option Nat:=(P.info? t).map (·.size)
def YW(P:Program)(t:TypeId):Option Bool:=(P.underlying t).map fun|.struct _|.array _ _=>true|_=>false
def kH(P:Program)(t:TypeId):Option (List Value):=match(P.info? t).bind (·.zero)with|some z=>if z.cells.toList.all fg then some z.cells.toList else none|none=>none
theorem qO(b off n:Nat):(⟨b,off,none⟩:Addr).add n=⟨b,off+n,none⟩:=by unfold Addr.add;split<;>simp_all
theorem iA{t:TypeId}{n:Nat}(h:fX P t=some n)(w:World):(sizeOf t).run P w=.ok n w:=by simp only[fX,aG]at h;obtain⟨i,hi,rfl⟩:=h;simp[sizeOf,typeInfo,hi]
theorem bZ{t:TypeId}{d:TypeDesc}(h:P.underlying t=some d)(w:World):(underlying t).run P w=.ok d w:=by simp[underlying,h]
theorem uD{t:TypeId}{g:Bool}(h:YW P t=some g)(w:World):(isAgg t).run P w=.ok g w:=by simp only[YW,aG]at h;obtain⟨d,hd,rfl⟩:=h;simp only[isAgg,Sem.run_bind,bZ hd,Result.andThen_ok];cases d<;>rfl
theorem qt{t:TypeId}{z:List Value}(h:kH P t=some z)(w:World):
  ∃v,(zeroValue t).run P w=.ok v w/\v.cells.toList=z/\∀x∈z,fg x=true:=by
 simp only[kH]at h;split at h
 .rename_i v hv;split at h
  .rename_i hp;obtain rfl:=aa h;obtain⟨i,hi,hz⟩:=fI.1 hv;exact⟨v,by simp[zeroValue,typeInfo,hi,hz],rfl,fun x hx=>aT.1 hp x hx⟩
  .simp at h
 .simp at h
section
variable{S K:Nat->Prop}{w0 w:World}{Kn:Nat->Prop}{φ:Nat->gW}{hf:Nat->Option Ob}
theorem G7(agg:Bool)(n:Nat)(cells:List D):P1 agg n cells=Fb agg n (cells.map .d):=by
 unfold P1 Fb;cases agg
 .cases cells<;>rfl
 .simp [List.map_take]
theorem xr{t:TypeId}{agg:Bool}{n:Nat}(ha:YW P t=some agg)(hn:fX P t=some n){cells:List C}{b o:Nat}{v:TV}
  (hc:∀(j:Nat)(x:C),cells[j]?=some x->∃u,w.cell? ⟨b,o+j,none⟩=some u/\RC S w Kn φ x u) (h:Fb agg n cells=some v):
  ∃val,(loadVar t ⟨b,o,none⟩).run P w=.ok val w/\gw S w Kn φ v val:=by
 unfold Fb at h;cases agg
 .simp only[aO,if_false]at h;cases cells with
  |nil=>simp at h
  |cons x r=>
   obtain rfl:TV.c x=v:=by simpa using h
   obtain⟨u,hu,hr⟩:=hc 0 x rfl;refine⟨u,?_,.c hr⟩;simp only[loadVar,Sem.run_bind,uD ha,Result.andThen_ok,aO,if_false,run_load];simp only[cT]at hu;simp[hu]
 .simp only[if_true]at h;split at h
  .rename_i hle;obtain rfl:=aa h
   have hcell:∀j,j<n->w.cell? ((⟨b,o,none⟩:Addr).add j)=some ((w.cell? ⟨b,o+j,none⟩).getD undef):=by
    intro j hj;have hj':j<cells.length:=by omega
    obtain⟨u,hu,_⟩:=hc j cells[j] (by simp[hj']);rw[qO,hu];rfl
   refine⟨.agg ((bN n).map fun j=>(w.cell? ⟨b,o+j,none⟩).getD undef).toArray,?_,.agg (by simp;omega) ?_⟩
   .simp only[loadVar,Sem.run_bind,uD ha,Result.andThen_ok,if_true,iA hn,run_loadCells w _ n _ hcell,Sem.run_pure]
   .intro i x hi;rw[e9]at hi;split at hi
    .rename_i hin;obtain⟨u,hu,hr⟩:=hc i x hi;have:((bN n).map fun j=>(w.cell? ⟨b,o+j,none⟩).getD undef).toArray.getD i undef=u:=by simp[lw,hin,hu]
     rw[this];exact hr
    .simp at hi
  .simp at h
theorem Dn{id bw:Nat}{sz:Nat}{rows:List (List D)}(hI:Inv S K w0 Kn φ hf w)(ho:hf id=some (.aL sz rows)\/hf id=some (.qH sz rows)){r:List D}(hr:rows[bw]?=some r)(off:Nat):
  (φ id).sz=sz/\r.length=sz/\∀(j:Nat)(x:C),((r.drop off).map C.d)[j]?=some x->∃u,w.cell? ⟨(φ id).cQ,(φ id).aN+bw*(φ id).sz+off+j,none⟩=some u/\RC S w Kn φ x u:=by
 rcases ho with ho|ho
 .obtain ⟨hk,h0⟩:=hI.jy _ _ ho;cases h0 with|aL hsz hl hS hK hown hext hfit hrr=>refine⟨hl,hrr.1 _ _ hr,fun j x hj=>?_⟩;rw[aK,bR]at hj;obtain⟨d,hd,rfl⟩:=aG.1 hj;obtain⟨u,hu,hrd⟩:=hrr.2 bw r hr (off+j) d hd;refine⟨u,?_,.d hrd⟩;rw[hown.cell,hl,<-hu];show _=_;congr 1;omega
 .obtain ⟨hk,h0⟩:=hI.jy _ _ ho;cases h0 with|qH hsz hl hS hrr=>refine⟨hl,hrr.1 _ _ hr,fun j x hj=>?_⟩;rw[aK,bR]at hj;obtain⟨d,hd,rfl⟩:=aG.1 hj;obtain⟨u,hu,hrd⟩:=hrr.2 bw r hr (off+j) d hd;refine⟨u,?_,.d hrd⟩;rw[hl,<-hu];simp only[cX]
theorem zK{t:TypeId}{agg:Bool}{n:Nat}(ha:YW P t=some agg)(hn:fX P t=some n){p:C}{H:bD}{v:TV}{aw:List Nat}{pv:Value}
  (hI:Inv S K w0 Kn φ (az H) w) (hp:RC S w Kn φ p pv) (h:iC agg n p H=some (v,aw)):
  ∃val,(Instr.loadAt t pv).run P w=.ok val w/\gw S w Kn φ v val:=by
 unfold iC at h;split at h
 .rename_i cells;split at h
  .rename_i v' hv;obtain⟨rfl,rfl⟩:v'=v/\[]=aw:=by simpa using h
   rw[G7]at hv;cases hp with
   |d hd=>cases hd with|pt f hb hcell hrd=>obtain⟨val,h1,h2⟩:=xr (Kn:=Kn) (φ:=φ) (S:=S) ha hn (cells:=cells.map .d) (fun j x hj=>by rw[aK]at hj;obtain⟨d,hd,rfl⟩:=aG.1 hj;exact⟨_,hcell j d hd,.d (hrd j d hd)⟩) hv;exact⟨val,by simp[Instr.loadAt,Instr.sureAddr,h1],h2⟩
  .simp at h
 .rename_i id bw off
  have key:∀sz rows,(az H id=some (.aL sz rows)\/az H id=some (.qH sz rows))->
    (match rows[bw]?with|some r=>(match P1 agg n (r.drop off)with|some v=>some (v,[id])|none=>none)|none=>none)=some (v,aw)->
    ∃val,(Instr.loadAt t pv).run P w=.ok val w/\gw S w Kn φ v val:=by
   intro sz rows ho h;split at h
   .rename_i r hr;split at h
    .rename_i v' hv;obtain⟨rfl,rfl⟩:v'=v/\[id]=aw:=by simpa using h
     rw[G7]at hv;obtain⟨hl,hrl,hc⟩:=Dn hI ho hr off;cases hp with|ep hk=>obtain⟨val,h1,h2⟩:=xr ha hn hc hv;exact⟨val,by simp[Instr.loadAt,Instr.sureAddr,h1],h2⟩
    .simp at h
   .simp at h
  split at h
  .rename_i sz rows ho;exact key sz rows (.inl ho) h
  .rename_i sz rows ho;exact key sz rows (.inr ho) h
  .simp at h
 .rename_i id off;split at h
  .rename_i cells ho;split at h
   .rename_i v' hv;obtain⟨rfl,rfl⟩:v'=v/\[id]=aw:=by simpa using h
    obtain⟨hk,h0⟩:=hI.jy _ _ ho;cases h0 with
    |box hb hS hK hown hlen hrr=>cases hp with|op hk=>obtain⟨val,h1,h2⟩:=xr (S:=S) (Kn:=Kn) (φ:=φ) ha hn (cells:=cells.drop off) (b:=(φ id).cQ) (o:=(φ id).aN+off) (fun j x hj=>by rw[bR]at hj;have hlt:=(ao.1 hj).1;rw[hlen]at hlt;refine⟨_,?_,hrr _ _ hj⟩;rw[hown.cell,hb];simp[lw,hlt]) hv;exact⟨val,by simp[Instr.loadAt,Instr.sureAddr,h1],h2⟩
   .simp at h
  .rename_i cells ho;split at h
   .rename_i v' hv;obtain⟨rfl,rfl⟩:v'=v/\[id]=aw:=by simpa using h
    rw[G7]at hv;obtain⟨hk,h0⟩:=hI.jy _ _ ho;cases h0 with
    |py hb hS hrr=>cases hp with|op hk=>obtain⟨val,h1,h2⟩:=xr (S:=S) (Kn:=Kn) (φ:=φ) ha hn (cells:=(cells.drop off).map .d) (b:=(φ id).cQ) (o:=(φ id).aN+off) (fun j x hj=>by rw[aK,bR]at hj;obtain⟨d,hd,rfl⟩:=aG.1 hj;obtain⟨u,hu,hr⟩:=hrr _ _ hd;exact⟨u,by rw[hb,<-hu];simp,.d hr⟩) hv;exact⟨val,by simp[Instr.loadAt,Instr.sureAddr,h1],h2⟩
   .simp at h
  .simp at h
 .simp at h
theorem Bo{w:World}{b:Nat}{old aL:Array Value}(h:pP w b old)(a:Addr):(w.setRow b aL).frozen? a=w.frozen? a:=by
 obtain⟨t,h⟩:=h;unfold World.frozen?;by_cases e:a.block=b
 .rw [e,setRow_heap w b old aL t _ h,h]
 .rw [setRow_other w b _ _ e]
theorem zW{w:World}{b:Nat}{old aL:Array Value}(h:pP w b old):pP (w.setRow b aL) b aL:=by obtain⟨t,h⟩:=h;exact⟨t,setRow_heap w b old aL t _ h⟩
theorem qA(v:Value):v.oneCell'=one v:=by cases v<;>rfl
theorem gw.cells{S:Nat->Prop}{w:World}{Kn:Nat->Prop}{φ:Nat->gW}{v:TV}{val:Value}{cs:List C}(h:gw S w Kn φ v val)(hc:cellsOf v=some cs):
  cs.length=val.cells.size/\(∀(i:Nat)(x:C),cs[i]?=some x->RC S w Kn φ x (val.cells.getD i undef))/\∀x∈val.cells.toList,one x=true:=by
 cases h with
 |@c x v h=>
  obtain rfl:[x]=cs:=by simpa[cellsOf]using hc
  have e:=wP h.one;refine⟨by rw[e];rfl,fun i y hi=>?_,fun y hy=>?_⟩
  .cases i with
   |zero=>
    rw[e];obtain rfl:x=y:=by simpa using hi
    exact h
   |succ i=>simp at hi
  .rw [e]at hy;obtain rfl:y=val:=by simpa using hy
   exact h.one
 |@agg cs' aL hlen h=>
  obtain rfl:cs'=cs:=by simpa[cellsOf]using hc
  refine⟨hlen,h,fun y hy=>?_⟩;obtain⟨i,hi,rfl⟩:=ft hy;have hi':i<aL.size:=by simpa[Value.cells]using hi
  have:=(h i (cs'[i]'(by omega)) (by simp[hlen,hi'])).one;simpa[lw,hi',Value.cells]using this
 |jA hlen h=>simp[cellsOf]at hc
theorem Of{t:TypeId}{n:Nat}(hn:fX P t=some n){b o:Nat}{aL:Array Value}{val:Value}(ho:pP w b aL)(hlen:val.cells.size=n)(hfit:o+n<=aL.size)
  (hone:∀x∈val.cells.toList,one x=true):
  (storeVar t ⟨b,o,none⟩ val).run P w=.ok () (w.setRow b (aL.toList.take o++val.cells.toList++aL.toList.drop (o+n)).toArray):=by
 obtain⟨ty,hb⟩:=ho;have:=run_storeCells_at P b o ty val.cells.toList 0 aL w hb (by simp;omega) (fun v hv=>by rw[qA];exact hone v hv);have e:val.cells.toList.length=n:=by simpa using hlen
 rw[e]at this;simp only[cT]at this;simp only[storeVar,Sem.run_bind,iA hn,Result.andThen_ok,hlen,ne_eq,not_true_eq_false,if_false];exact this
theorem ki{α:Type}(l:List α)(off:Nat)(p:List α)(hfit:off+p.length<=l.length)(i:Nat):
  (aW l off p)[i]?=if i<off then l[i]?else if i<off+p.length then p[i-off]?else l[i]?:=by
 unfold aW;by_cases h1:i<off
 .rw [List.append_assoc,bC (by simp;omega)];simp[h1]
 .by_cases h2:i<off+p.length
  .rw [bC (by simp;omega),bF (by simp;omega)];simp only[bW,h1,h2,if_true,if_false];congr 1;omega
  .rw [bF (by simp;omega)];simp only[List.length_append,bW,bR,h1,h2,if_false];congr 1;omega
theorem fm{α:Type}(l:List α)(off:Nat)(p:List α)(hfit:off+p.length<=l.length):(aW l off p).length=l.length:=by unfold aW;simp;omega
theorem QI{aL:Array Value}{vs:List Value}{o n:Nat}(hn:vs.length=n):aL.toList.take o++vs++aL.toList.drop (o+n)=aW aL.toList o vs:=by rw[<-hn];rfl
end
section
variable{S K:Nat->Prop}{w0 w:World}{Kn:Nat->Prop}{φ:Nat->gW}{hf:Nat->Option Ob}
theorem RD.BE{sz:Nat}{rows:List (List D)}{b off len cap:Nat}(hb:S b)(hsz:0<sz)(hlen:rows.length=len)(hcap:len<=cap)
  (h:cO S w sz (fun i=>w.cell? ⟨b,i,none⟩) off rows):RD S w (.sl sz rows) (.slice (some ⟨b,off,none⟩) len cap):=by
 subst hlen;refine .sl (fun i j=>(w.cell? ⟨b,off+i*sz+j,none⟩).getD undef) hb hsz hcap h.1 (fun i r hi j x hj=>?_) (fun i r hi j x hj=>?_)
 .obtain ⟨v,hv,_⟩:=h.2 i r hi j x hj;simp only at hv;rw[hv];rfl
 .obtain ⟨v,hv,hr⟩:=h.2 i r hi j x hj;simp only at hv;rw[hv];exact hr
theorem RD.zR{cells:List D}{b off:Nat}(hb:S b)(h:∀(j:Nat)(x:D),cells[j]?=some x->∃v,w.cell? ⟨b,off+j,none⟩=some v/\RD S w x v):
  RD S w (.pt cells) (.pointer (some ⟨b,off,none⟩)):=by
 refine .pt (fun j=>(w.cell? ⟨b,off+j,none⟩).getD undef) hb (fun j x hj=>?_) (fun j x hj=>?_)
 .obtain ⟨v,hv,_⟩:=h j x hj;rw[hv];rfl
 .obtain ⟨v,hv,hr⟩:=h j x hj;rw[hv];exact hr
def s_(w:World)(l:gW):List lU->Nat->List Nat
 |[],_=>[]
 |.bq _::r,k=>(match(w.cell? ⟨l.cQ,l.aN+k,none⟩).bind yG with|some b=>b::s_ w l r (k+1)|none=>s_ w l r (k+1))
 |_::r,k=>s_ w l r (k+1)
def iH(w:World)(φ:Nat->gW)(hf:Nat->Option Ob)(i:Nat):List Nat:=(φ i).cQ::(match hf i with|some (.nst _ sl)=>s_ w (φ i) sl 0|_=>[])
theorem Em{l:gW}{x:Nat}:∀{sl:List lU}{k0:Nat},x∈s_ w l sl k0<->∃k rows v,sl[k]?=some (.bq rows)/\w.cell? ⟨l.cQ,l.aN+(k0+k),none⟩=some v/\yG v=some x:=by
 intro sl;induction sl with
 |nil=>intro k0;simp[s_]
 |cons s sl ih=>
  intro k0;have tl:(∃k rows v,sl[k]?=some (.bq rows)/\w.cell? ⟨l.cQ,l.aN+(k0+1+k),none⟩=some v/\yG v=some x)->∃k rows v,(s::sl)[k]?=some (.bq rows)/\w.cell? ⟨l.cQ,l.aN+(k0+k),none⟩=some v/\yG v=some x:=by rintro⟨k,rows,v,h1,h2,h3⟩;exact⟨k+1,rows,v,by simpa using h1,by rw[<-h2,show k0+(k+1)=k0+1+k by omega],h3⟩
  have key:(∀rows,s≠.bq rows)->((∃k rows v,(s::sl)[k]?=some (.bq rows)/\w.cell? ⟨l.cQ,l.aN+(k0+k),none⟩=some v/\yG v=some x)->∃k rows v,sl[k]?=some (.bq rows)/\w.cell? ⟨l.cQ,l.aN+(k0+1+k),none⟩=some v/\yG v=some x):=by rintro hs ⟨k,rows,v,h1,h2,h3⟩;cases k with|zero=>exact absurd (by simpa using h1) (hs rows)|succ k=>exact⟨k,rows,v,by simpa using h1,by rw[<-h2,show k0+(k+1)=k0+1+k by omega],h3⟩
  cases s with
  |nil=>exact ih.trans ⟨tl,key fun _ e=>by cases e⟩
  |ez id len=>exact ih.trans ⟨tl,key fun _ e=>by cases e⟩
  |bq rows0=>
   simp only[s_];constructor
   .intro hx;split at hx
    .rename_i b hb;rcases aJ.1 hx with rfl|hx
     .obtain ⟨v,h1,h2⟩:=fI.1 hb;exact⟨0,rows0,v,rfl,h1,h2⟩
     .exact tl (ih.1 hx)
    .exact tl (ih.1 hx)
   .rintro ⟨k,rows,v,h1,h2,h3⟩;cases k with
    |zero=>
     have e:(w.cell? ⟨l.cQ,l.aN+k0,none⟩).bind yG=some x:=by rw[show l.aN+k0=l.aN+(k0+0)from rfl,h2];exact h3
     rw[e];simp
    |succ k=>
     have hm:=ih.2 ⟨k,rows,v,by simpa using h1,by rw[<-h2,show k0+(k+1)=k0+1+k by omega],h3⟩;split
     .exact av _ hm
     .exact hm
theorem Ii{l:gW}{x:Nat}{sl:List lU}:x∈s_ w l sl 0<->∃k,tL w l sl k x:=by rw[Em];simp only[bJ];exact Iff.rfl
theorem GH{l:gW}:∀{sl:List lU}{k0:Nat},(∀k k' x rows rows' v v',sl[k]?=some (.bq rows)->w.cell? ⟨l.cQ,l.aN+(k0+k),none⟩=some v->yG v=some x->sl[k']?=some (.bq rows')->w.cell? ⟨l.cQ,l.aN+(k0+k'),none⟩=some v'->yG v'=some x->k=k')->(s_ w l sl k0).Nodup:=by
 intro sl;induction sl with
 |nil=>intro k0 _;exact mz
 |cons s sl ih=>
  intro k0 h;have h':(s_ w l sl (k0+1)).Nodup:=ih fun k k' x rows rows' v v' h1 h2 h3 h4 h5 h6=>by have:=h (k+1) (k'+1) x rows rows' v v' (by simpa using h1) (by rw[<-h2,show k0+(k+1)=k0+1+k by omega]) h3 (by simpa using h4) (by rw[<-h5,show k0+(k'+1)=k0+1+k' by omega]) h6;omega
  cases s with
  |nil=>exact h'
  |ez id len=>exact h'
  |bq rows0=>
   simp only[s_];split
   .rename_i b hb;refine gX.2 ⟨fun hm=>?_,h'⟩;obtain⟨v0,h1,h2⟩:=fI.1 hb;obtain⟨k,rows,v,h3,h4,h5⟩:=Em.1 hm;have:=h 0 (k+1) b rows0 rows v0 v rfl h1 h2 (by simpa using h3) (by rw[<-h4,show k0+(k+1)=k0+1+k by omega]) h5;omega
   .exact h'
theorem dZ{i x:Nat}:x∈iH w φ hf i<->x=(φ i).cQ\/∃sz sl k,hf i=some (.nst sz sl)/\tL w (φ i) sl k x:=by
 unfold iH;rw[aJ];refine or_congr_right ?_;split
 .rename_i sz sl h;rw[Ii];exact⟨fun⟨k,hk⟩=>⟨sz,sl,k,h,hk⟩,fun⟨_,_,k,h1,hk⟩=>by rw[h]at h1;cases h1;exact⟨k,hk⟩⟩
 .rename_i h;exact⟨fun hx=>by simp at hx,fun⟨sz,sl,k,h1,_⟩=>(h sz sl h1).elim⟩
theorem pF(hI:Inv S K w0 Kn φ hf w){i:Nat}{o:Ob}(ho:hf i=some o)(hown:cL o=true){x:Nat}(hx:x∈iH w φ hf i):¬S x/\¬K x/\x<w.heap.size:=by
 rcases dZ.1 hx with rfl|⟨sz,sl,k,h1,h2⟩
 .exact (hI.jy i o ho).2.bq hown
 .obtain ⟨a,b,c,_⟩:=hI.JB h1 h2;exact⟨a,b,c⟩
theorem o6(hI:Inv S K w0 Kn φ hf w){i j:Nat}{a b:Ob}(hi:hf i=some a)(hj:hf j=some b)(ha:cL a=true)(hb:cL b=true)(hne:i≠j){x:Nat}(hx:x∈iH w φ hf i):x∉iH w φ hf j:=by
 intro hy;rcases dZ.1 hx with rfl|⟨sz,sl,k,h1,h2⟩<;>rcases dZ.1 hy with e|⟨sz',sl',k',h3,h4⟩
 .exact hI.pL i j a b hi hj ha hb hne e
 .exact (hI.ye j sz' sl' k' _ h3 h4).1 i a hi ha rfl
 .subst e;exact(hI.ye i sz sl k _ h1 h2).1 j b hj hb rfl
 .exact hne (((hI.ye i sz sl k x h1 h2).2 j sz' sl' k' h3 h4).1).symm
theorem HI(hI:Inv S K w0 Kn φ hf w){i:Nat}{o:Ob}(ho:hf i=some o)(hown:cL o=true):(iH w φ hf i).Nodup:=by
 unfold iH;refine gX.2 ⟨fun hm=>?_,?_⟩
 .split at hm
  .rename_i sz sl h;obtain⟨k,hk⟩:=Ii.1 hm;exact(hI.ye i sz sl k _ h hk).1 i o ho hown rfl
  .simp at hm
 .split
  .rename_i sz sl h;refine GH fun k k' x rows rows' v v' h1 h2 h3 h4 h5 h6=>?_;rw[bJ]at h2 h5;exact(((hI.ye i sz sl k x h ⟨rows,v,h1,h2,h3⟩).2 i sz sl k' h ⟨rows',v',h4,h5,h6⟩).2).symm
  .exact mz
theorem lQ(i:Nat):(φ i).cQ∈iH w φ hf i:=dZ.2 (.inl rfl)
def SB(S:Nat->Prop)(w:World)(φ:Nat->gW)(hf:Nat->Option Ob)(aw:List Nat)(b:Nat):Prop:=S b\/∃i∈aw,b∈iH w φ hf i
theorem SB.DC(a b:List Nat)(h:∀i∈a,i∈b):ia (SB S w φ hf a) w (SB S w φ hf b) w:=⟨fun _ hb=>hb.imp id fun⟨i,hi,e⟩=>⟨i,h i hi,e⟩,fun _ _=>rfl⟩
theorem SB.vn(b:List Nat):ia S w (SB S w φ hf b) w:=⟨fun _ hb=>.inl hb,fun _ _=>rfl⟩
theorem I3.rd{sz b:Nat}{rows:List (List D)}{v:Value}(h:I3 S w sz rows v b){T:Nat->Prop}(hT:ia S w T w)(hb:T b):RD T w (.sl sz rows) v:=by obtain⟨addr,cap,aL,rfl,h2,h3,h4,_,h6⟩:=h;exact .BE hb h2 rfl h4 ⟨h6.1,fun i r hi j x hj=>let⟨v,hv,hr⟩:=h6.2 i r hi j x hj;⟨v,(h3.cell _).trans hv,hr.mono hT⟩⟩
theorem EP{l:gW}{szi:Nat}{slots:List lU}(h:RO S K w Kn φ l (.nst szi slots)){rows:List (List D)}(hd:rD szi slots=some rows){T:Nat->Prop}(hT:ia S w T w)(hp:∀k x,tL w l slots k x->T x):
  rows.length=slots.length/\cO T w 1 (fun i=>w.cell? ⟨l.cQ,i,none⟩) l.aN rows:=by
 have key:∀(slots:List lU)(rows:List (List D)),rD szi slots=some rows->rows.length=slots.length/\∀(i:Nat)(r:List D),rows[i]?=some r->∃s x,slots[i]?=some s/\Lf szi s=some x/\r=[x]:=by
  intro slots;induction slots with
  |nil=>intro rows h;obtain rfl:=aa h;exact⟨rfl,fun i r hi=>by simp at hi⟩
  |cons s slots ih=>
   intro rows h;simp only[rD]at h;split at h
   .rename_i x l hx hl;obtain rfl:=aa h;obtain⟨h1,h2⟩:=ih l hl;refine⟨by simp[h1],fun i r hi=>?_⟩;cases i with|zero=>exact⟨s,x,rfl,hx,(by simpa using hi:[x]=r).symm⟩|succ i=>obtain⟨s',x',e1,e2,e3⟩:=h2 i r (by simpa using hi);exact⟨s',x',by simpa using e1,e2,e3⟩
   .simp at h
 obtain⟨k1,k2⟩:=key slots rows hd;cases h with
 |nst hsz hl hS hK ho hext hfit hr hv=>
  refine⟨k1,fun i r hi=>by obtain⟨_,_,_,_,rfl⟩:=k2 i r hi;rfl,fun i r hi j x hj=>?_⟩;obtain⟨s,y,e1,e2,rfl⟩:=k2 i r hi;cases j with
  |succ j=>simp at hj
  |zero=>
   obtain rfl:y=x:=by simpa using hj
   obtain⟨v,h1,h2⟩:=hr i s e1;refine⟨v,by rw[lh,cT];exact(ho.cell _).trans h1,?_⟩;cases h2 with|nil=>obtain rfl:=aa e2;exact .lit rfl|@bq rows' _ b h3 _ _=>obtain rfl:=aa e2;exact h3.rd hT (hp i b ⟨rows',v,e1,(ho.cell _).trans h1,h3.cQ⟩)|ez _=>simp[Lf]at e2
theorem oU{id sz:Nat}{rows:List (List D)}(hI:Inv S K w0 Kn φ hf w)(ho:hf id=some (.aL sz rows)\/hf id=some (.qH sz rows)):
  0<sz/\(φ id).sz=sz/\cO S w sz (fun i=>w.cell? ⟨(φ id).cQ,i,none⟩) (φ id).aN rows:=by
 rcases ho with ho|ho
 .obtain ⟨_,h0⟩:=hI.jy _ _ ho;cases h0 with|aL hsz hl hS hK hown hext hfit hrr=>exact⟨hsz,hl,hrr.1,fun i r hi j x hj=>let⟨v,hv,hr⟩:=hrr.2 i r hi j x hj;⟨v,(hown.cell _).trans hv,hr⟩⟩
 .obtain ⟨_,h0⟩:=hI.jy _ _ ho;cases h0 with|qH hsz hl hS hrr=>exact⟨hsz,hl,hrr⟩
theorem cO.sub{sz aN:Nat}{get:Nat->Option Value}{rows:List (List D)}(h:cO S w sz get aN rows)(off len:Nat):
  cO S w sz get (aN+off*sz) ((rows.drop off).take len):=by
 have key:∀i(r:List D),((rows.drop off).take len)[i]?=some r->rows[off+i]?=some r:=by
  intro i r hi;rw[e9]at hi;split at hi
  .rwa [bR]at hi
  .simp at hi
 refine⟨fun i r hi=>h.1 _ _ (key i r hi),fun i r hi j x hj=>?_⟩;obtain⟨v,hv,hr⟩:=h.2 _ _ (key i r hi) j x hj;refine⟨v,?_,hr⟩;rw[<-hv];congr 1;rw[Nat.add_mul];omega
theorem cO.yy{sz aN addr:Nat}{get:Nat->Option Value}{rows:List (List D)}(h:cO S w sz get aN rows)(off len:Nat)(ha:0<len->addr=aN+off*sz):
  cO S w sz get addr ((rows.drop off).take len):=by
 cases len with|zero=>exact⟨fun i r hi=>by simp at hi,fun i r hi=>by simp at hi⟩|succ n=>rw[ha (Nat.succ_pos _)];exact h.sub off _
theorem DK{sz id off len:Nat}{rows:List (List D)}{v:Value}{szo:Nat}(hI:Inv S K w0 Kn φ hf w)(hc:RC S w Kn φ (.fK sz id off len) v)
  (ho:hf id=some (.aL szo rows)\/hf id=some (.qH szo rows)) (hle:off+len<=rows.length) {T:Nat->Prop} (hT:ia S w T w) (hb:T (φ id).cQ):
  RD T w (.sl sz ((rows.drop off).take len)) v:=by
 obtain⟨hsz,hl,hr⟩:=oU hI ho;subst hl;cases hc with|fK hk hcap haddr hext=>exact .BE hb hsz (by simp;omega) hcap ((hr.yy off len fun h=>haddr (by omega)).mono hT)
theorem NZ{id bw off sz:Nat}{rows:List (List D)}{r:List D}{v:Value}(hI:Inv S K w0 Kn φ hf w)(hc:RC S w Kn φ (.ep id bw off) v)
  (ho:hf id=some (.aL sz rows)\/hf id=some (.qH sz rows)) (hr:rows[bw]?=some r) {T:Nat->Prop} (hT:ia S w T w) (hb:T (φ id).cQ):
  RD T w (.pt (r.drop off)) v:=by
 obtain⟨hsz,hl,hrr⟩:=oU hI ho;cases hc with|ep hk=>refine .zR hb fun j x hj=>?_;rw[bR]at hj;obtain⟨u,hu,hd⟩:=hrr.2 bw r hr (off+j) x hj;refine⟨u,?_,hd.mono hT⟩;rw[<-hu,hl];simp only[cX]
theorem Bx{H:bD}(hI:Inv S K w0 Kn φ (az H) w)(n:Nat)(c:C)(x:D)(aw:List Nat)(v:Value)(hleaf:match c with|.op _ _|.pS _ _=>False|_=>True)
  (h:ei H n c=some (x,aw)) (hc:RC S w Kn φ c v):RD (SB S w φ (az H) aw) w x v:=by
 cases c with
 |d y=>simp only[ei,ce,Prod.mk.injEq]at h;obtain⟨rfl,rfl⟩:=h;cases hc with|d hd=>exact hd.mono (SB.vn _)
 |fK sz id off len=>
  simp only[ei]at h
  have key:∀szo rows,(az H id=some (.aL szo rows)\/az H id=some (.qH szo rows))->(if off+len<=rows.length then some (D.sl sz ((rows.drop off).take len),[id])else none)=some (x,aw)->RD (SB S w φ (az H) aw) w x v:=by
   intro szo rows ho h;split at h
   .rename_i hle;obtain⟨rfl,rfl⟩:=af (aa h);exact DK hI hc ho hle (SB.vn _) (.inr ⟨_,by simp,lQ _⟩)
   .simp at h
  split at h
  .exact key _ _ (.inl (by assumption)) h
  .exact key _ _ (.inr (by assumption)) h
  .rename_i szi slots ho;split at h
   .rename_i he;obtain⟨rfl,rfl⟩:=he;split at h
    .rename_i rows hd;obtain⟨rfl,rfl⟩:=af (aa h);obtain⟨_,hro⟩:=hI.jy _ _ ho;obtain⟨h1,h2⟩:=EP hro hd (SB.vn (hf:=az H) (φ:=φ) [id]) fun k x hp=>.inr ⟨id,by simp,dZ.2 (.inr ⟨szi,slots,k,ho,hp⟩)⟩;cases hro with
     |nst hsz hl=>
      cases hc with
      |fK hk hcap haddr hext=>rw[hl];refine .BE (.inr ⟨id,by simp,lQ id⟩) Nat.one_pos h1 hcap ?_;cases hs:slots with|nil=>have:rows=[]:=List.length_eq_zero_iff.1 (by rw[h1,hs];rfl);rw[this];exact⟨fun i r hi=>by simp at hi,fun i r hi=>by simp at hi⟩|cons s r=>rw[hs]at hcap;have:=haddr (by simp at hcap;omega);rw[this,hl,gP,cT];exact h2
    .simp at h
   .simp at h
  .simp at h
 |ep id bw off=>
  simp only[ei]at h
  have key:∀szo rows,(az H id=some (.aL szo rows)\/az H id=some (.qH szo rows))->
    (match rows[bw]?with|some r=>if off<=r.length then some (D.pt (r.drop off),[id])else none|none=>none)=some (x,aw)->RD (SB S w φ (az H) aw) w x v:=by
   intro szo rows ho h;split at h
   .rename_i r hr;split at h
    .obtain ⟨rfl,rfl⟩:=af (aa h);exact NZ hI hc ho hr (SB.vn _) (.inr ⟨_,by simp,lQ _⟩)
    .simp at h
   .simp at h
  split at h
  .exact key _ _ (.inl (by assumption)) h
  .exact key _ _ (.inr (by assumption)) h
  .simp at h
 |op id off=>exact hleaf.elim
 |pS f caps=>exact hleaf.elim
 |om id=>cases n<;>simp[ei]at h
theorem vh{H:bD}(hI:Inv S K w0 Kn φ (az H) w):∀n,
  (∀c x aw v,ei H n c=some (x,aw)->RC S w Kn φ c v->RD (SB S w φ (az H) aw) w x v)/\
  (∀cs xs aw,gu H n cs=some (xs,aw)->∀(get:Nat->Option Value),(∀(i:Nat)(c:C),cs[i]?=some c->∃v,get i=some v/\RC S w Kn φ c v)->
   xs.length=cs.length/\∀(i:Nat)(x:D),xs[i]?=some x->∃v,get i=some v/\RD (SB S w φ (az H) aw) w x v):=by
 intro n;induction n with
 |zero=>
  refine⟨fun c x aw v h hc=>?_,fun cs xs aw h get hg=>?_⟩
  .cases c with|op id off=>simp[ei]at h|pS f caps=>simp[ei]at h|_=>exact Bx hI 0 _ x aw v trivial h hc
  .cases cs with
   |nil=>
    obtain⟨rfl,rfl⟩:[]=xs/\[]=aw:=by simpa[gu]using h
    exact⟨rfl,fun i x hi=>by simp at hi⟩
   |cons c cs=>simp[gu]at h
 |succ n ih=>
  obtain⟨ihc,ihl⟩:=ih;refine⟨fun c x aw v h hc=>?_,fun cs xs aw h get hg=>?_⟩
  .cases c with
   |op id off=>
    simp only[ei]at h;split at h
    .rename_i cells ho;split at h
     .obtain ⟨rfl,rfl⟩:=af (aa h);obtain⟨_,h0⟩:=hI.jy _ _ ho;cases h0 with
      |py hb hS hr=>cases hc with|op hk=>refine .zR (.inl hS) fun j x hj=>?_;rw[bR]at hj;obtain⟨u,hu,hd⟩:=hr _ _ hj;exact⟨u,by rw[<-hu,hb,bJ],hd.mono (SB.vn _)⟩
     .simp at h
    .rename_i cells ho;split at h
     .rename_i ds ids' hv;split at h
      .obtain ⟨rfl,rfl⟩:=af (aa h);obtain⟨_,h0⟩:=hI.jy _ _ ho;cases h0 with
       |@box _ aL hb hS hK hown hlen hr=>cases hc with|op hk=>obtain⟨h1,h2⟩:=ihl cells ds ids' hv (fun i=>w.cell? ⟨(φ id).cQ,i,none⟩) (fun i c hi=>by have hlt:=(ao.1 hi).1;rw[hlen]at hlt;exact⟨aL.getD i undef,by rw[hown.cell];simp[lw,hlt],hr i c hi⟩);refine .zR (.inr ⟨id,by simp,lQ _⟩) fun j x hj=>?_;rw[bR]at hj;obtain⟨u,hu,hd⟩:=h2 _ _ hj;exact⟨u,by rw[<-hu,hb,bJ],hd.mono (SB.DC _ _ fun i hi=>by simp[hi])⟩
      .simp at h
     .simp at h
    .simp at h
   |pS f caps=>
    simp only[ei]at h;split at h
    .rename_i ds ids' hv;obtain⟨rfl,rfl⟩:=af (aa h);cases hc with
     |@pS _ _ vs hlen hr=>
      obtain⟨h1,h2⟩:=ihl caps ds ids' hv (fun i=>vs[i]?) (fun i c hi=>by have hlt:=(ao.1 hi).1;rw[hlen]at hlt;exact⟨vs.getD i undef,by simp[lw,hlt],hr i c hi⟩);refine .fn (h1.trans hlen) fun j x hj=>?_;obtain⟨u,hu,hd⟩:=h2 j x hj;have hu':vs[j]?=some u:=hu;have:vs.getD j undef=u:=by simp[hu']
      rw[this];exact hd
    .simp at h
   |_=>exact Bx hI (n+1) _ x aw v trivial h hc
  .cases cs with
   |nil=>
    obtain⟨rfl,rfl⟩:[]=xs/\[]=aw:=by simpa[gu]using h
    exact⟨rfl,fun i x hi=>by simp at hi⟩
   |cons c cs=>
    simp only[gu]at h;split at h
    .rename_i x0 a xs0 b hx hxs;obtain⟨rfl,rfl⟩:=af (aa h);obtain⟨v0,hv0,hc0⟩:=hg 0 c rfl;have h0:=ihc c x0 a v0 hx hc0;obtain⟨h1,h2⟩:=ihl cs xs0 b hxs (fun i=>get (i+1)) (fun i c hi=>hg (i+1) c (by simpa using hi));refine⟨by simp[h1],fun i x hi=>?_⟩;cases i with
     |zero=>
      obtain rfl:x0=x:=by simpa using hi
      exact⟨v0,hv0,h0.mono (SB.DC _ _ fun i hi=>by simp[hi])⟩
     |succ i=>obtain⟨u,hu,hd⟩:=h2 i x (by simpa using hi);exact⟨u,hu,hd.mono (SB.DC _ _ fun i hi=>by simp[hi])⟩
    .simp at h
theorem sK{H:bD}(hI:Inv S K w0 Kn φ (az H) w):∀cs xs aw,dU H cs=some (xs,aw)->∀(get:Nat->Option Value),(∀(i:Nat)(c:C),cs[i]?=some c->∃v,get i=some v/\RC S w Kn φ c v)->
   xs.length=cs.length/\∀(i:Nat)(x:D),xs[i]?=some x->∃v,get i=some v/\RD (SB S w φ (az H) aw) w x v:=by
 intro cs;induction cs with
 |nil=>
  intro xs aw h get hg;obtain⟨rfl,rfl⟩:[]=xs/\[]=aw:=by simpa[dU]using h
  exact⟨rfl,fun i x hi=>by simp at hi⟩
 |cons c cs ih=>
  intro xs aw h get hg;simp only[dU]at h;split at h
  .rename_i x0 a xs0 b hx hxs;obtain⟨rfl,rfl⟩:=af (aa h);obtain⟨v0,hv0,hc0⟩:=hg 0 c rfl;have h0:=(vh hI 300).1 c x0 a v0 hx hc0;obtain⟨h1,h2⟩:=ih xs0 b hxs (fun i=>get (i+1)) (fun i c hi=>hg (i+1) c (by simpa using hi));refine⟨by simp[h1],fun i x hi=>?_⟩;cases i with
   |zero=>
    obtain rfl:x0=x:=by simpa using hi
    exact⟨v0,hv0,h0.mono (SB.DC _ _ fun i hi=>by simp[hi])⟩
   |succ i=>obtain⟨u,hu,hd⟩:=h2 i x (by simpa using hi);exact⟨u,hu,hd.mono (SB.DC _ _ fun i hi=>by simp[hi])⟩
  .simp at h
theorem mw{H:bD}{all:List Nat}:∀(l:List Nat)(u:fN),dM H all l=some u->
  ∀id,(id∈l->∃o,kT H all id=some o/\cn u id=some (some o))/\(id∉l->cn u id=none):=by
 intro l;induction l with
 |nil=>
  intro u h id;obtain rfl:[]=u:=by simpa[dM]using h
  exact⟨fun h=>by simp at h,fun _=>rfl⟩
 |cons a l ih=>
  intro u h id;simp only[dM]at h;split at h
  .rename_i o u' ho hu;obtain rfl:=aa h;by_cases e:a=id
   .subst e;exact⟨fun _=>⟨o,ho,by simp[cn]⟩,fun hn=>absurd (List.mem_cons_self ..) hn⟩
   .obtain ⟨h1,h2⟩:=ih u' hu id;have e':(a==id)=false:=by simpa using e
    refine⟨fun hm=>?_,fun hn=>?_⟩
    .obtain ⟨o',ho',hf'⟩:=h1 ((aJ.1 hm).resolve_left (fun e2=>e e2.symm));exact⟨o',ho',by simp[cn,e',hf']⟩
    .simp only[cn,e',cond_false];exact h2 (fun hm=>hn (av _ hm))
  .simp at h
theorem B6{H:bD}{all:List Nat}{id:Nat}{o:Ob}(hI:Inv S K w0 Kn φ (az H) w)(hmem:id∈all)(h:kT H all id=some o):
  cL o=false/\(∃o0,az H id=some o0)/\RO (SB S w φ (az H) all) K w Kn φ (φ id) o:=by
 unfold kT at h;have hb:SB S w φ (az H) all (φ id).cQ:=.inr ⟨id,hmem,lQ _⟩;split at h
 .rename_i sz rows ho;obtain rfl:=aa h;obtain⟨hsz,hl,hr⟩:=oU hI (.inl ho);exact⟨rfl,⟨_,ho⟩,.qH hsz hl hb (hr.mono (SB.vn _))⟩
 .rename_i sz rows ho;obtain rfl:=aa h;obtain⟨hsz,hl,hr⟩:=oU hI (.inr ho);exact⟨rfl,⟨_,ho⟩,.qH hsz hl hb (hr.mono (SB.vn _))⟩
 .rename_i cells ho;obtain rfl:=aa h;obtain⟨_,h0⟩:=hI.jy _ _ ho;cases h0 with|py hbase hS hr=>exact⟨rfl,⟨_,ho⟩,.py hbase hb fun i x hi=>let⟨v,hv,hd⟩:=hr i x hi;⟨v,hv,hd.mono (SB.vn _)⟩⟩
 .rename_i cells ho;split at h
  .rename_i ds aw hv;split at h
   .rename_i hall;obtain rfl:=aa h;obtain⟨_,h0⟩:=hI.jy _ _ ho;cases h0 with|@box _ aL hbase hS hK hown hlen hr=>obtain⟨h1,h2⟩:=(vh hI 300).2 cells ds aw hv (fun i=>w.cell? ⟨(φ id).cQ,i,none⟩) (fun i c hi=>by have hlt:=(ao.1 hi).1;rw[hlen]at hlt;exact⟨aL.getD i undef,by rw[hown.cell];simp[lw,hlt],hr i c hi⟩);refine⟨rfl,⟨_,ho⟩,.py hbase hb fun i x hi=>?_⟩;obtain⟨u,hu,hd⟩:=h2 i x hi;exact⟨u,hu,hd.mono (SB.DC _ _ fun i hi=>by simpa using aT.1 hall i hi)⟩
   .simp at h
  .simp at h
 .simp at h
 .simp at h
 .rename_i szi slots ho;split at h
  .rename_i rows hd;obtain rfl:=aa h;obtain⟨_,hro⟩:=hI.jy _ _ ho;obtain⟨_,h2⟩:=EP hro hd (SB.vn (hf:=az H) (φ:=φ) all) fun k x hp=>.inr ⟨id,hmem,dZ.2 (.inr ⟨szi,slots,k,ho,hp⟩)⟩;cases hro with|nst hsz hl=>exact⟨rfl,⟨_,ho⟩,.qH Nat.one_pos hl hb h2⟩
  .simp at h
 .simp at h
theorem Inv.Hg{H:bD}{aw:List Nat}{u:fN}(hI:Inv S K w0 Kn φ (az H) w)(h:dM H aw aw=some u):
  Inv (SB S w φ (az H) aw) K w0 Kn φ (bn u (az H)) w:=by
 have hfr:∀id∈aw,∃o,cn u id=some (some o)/\cL o=false/\(∃o0,az H id=some o0)/\RO (SB S w φ (az H) aw) K w Kn φ (φ id) o:=by
  intro id hid;obtain⟨o,ho,hfn⟩:=((mw aw u h id).1 hid)
  exact⟨o,hfn,B6 hI hid ho⟩
 have hold:∀id o,bn u (az H) id=some o->cL o=true->id∉aw/\az H id=some o:=by
  intro id o ho hown;by_cases hm:id∈aw
  .obtain ⟨o',hfn,hno,_⟩:=hfr id hm;simp only[bn,hfn]at ho;obtain rfl:=aa ho;rw[hno]at hown;simp at hown
  .refine ⟨hm,?_⟩;simpa only[bn,(mw aw u h id).2 hm]using ho
 have hnb:∀id o,az H id=some o->cL o=true->id∉aw->∀x∈iH w φ (az H) id,¬SB S w φ (az H) aw x:=by
  intro id o ho hown hm x hx hb;have hx1:=(pF hI ho hown hx).1;rcases hb with hb|⟨i,hi,e⟩
  .exact hx1 hb
  .obtain ⟨_,_,_,⟨o0,ho0⟩,_⟩:=hfr i hi;by_cases hoi:cL o0=true
   .exact o6 hI ho ho0 hown hoi (fun e'=>hm (e'▸hi)) hx e
   .obtain ⟨_,h1⟩:=hI.jy i o0 ho0;rcases dZ.1 e with rfl|⟨sz,sl,k,h2,_⟩
    .exact hx1 (by
      cases h1 with
      |qH hsz hl hS _=>exact hS
      |py hb hS _=>exact hS
      |_=>simp[cL]at hoi)
    .rw [ho0]at h2;obtain rfl:=aa h2;simp[cL]at hoi
 refine hI.nW (SB.vn _) (uO.refl _ _) ?_ ?_ hI.oJ ?_ ?_ ?_
 .intro b hb;rcases hb with hb|⟨i,hi,hb⟩
  .exact hI.vY b hb
  .obtain ⟨_,_,_,⟨o0,ho0⟩,_⟩:=hfr i hi;by_cases hoi:cL o0=true
   .exact (pF hI ho0 hoi hb).2.2
   .obtain ⟨_,h1⟩:=hI.jy i o0 ho0;rcases dZ.1 hb with rfl|⟨sz,sl,k,h2,h3⟩
    .cases h1 with|qH hsz hl hS=>exact hI.vY _ hS|py hb hS=>exact hI.vY _ hS|_=>simp[cL]at hoi
    .exact (hI.JB h2 h3).2.2.1
 .intro b hb;rcases hb with hb|⟨i,hi,hb⟩
  .exact hI.sk b hb
  .obtain ⟨_,_,_,⟨o0,ho0⟩,_⟩:=hfr i hi;by_cases hoi:cL o0=true
   .exact (pF hI ho0 hoi hb).2.1
   .obtain ⟨_,h1⟩:=hI.jy i o0 ho0;rcases dZ.1 hb with rfl|⟨sz,sl,k,h2,h3⟩
    .cases h1 with|qH hsz hl hS=>exact hI.sk _ hS|py hb hS=>exact hI.sk _ hS|_=>simp[cL]at hoi
    .exact (hI.JB h2 h3).2.1
 .intro id o ho;by_cases hm:id∈aw
  .obtain ⟨o',hfn,hno,⟨o0,ho0⟩,hro⟩:=hfr id hm;simp only[bn,hfn]at ho;obtain rfl:=aa ho;exact .inr ⟨(hI.jy id o0 ho0).1,hro⟩
  .have ho':az H id=some o:=by simpa only[bn,(mw aw u h id).2 hm]using ho
   exact .inl ⟨ho',fun hown=>⟨rfl,hnb id o ho' hown hm _ (lQ _)⟩⟩
 .intro i j a b ha hb hoa hob hne;exact hI.pL i j a b (hold i a ha hoa).2 (hold j b hb hob).2 hoa hob hne
 .intro id sz sl hi;obtain⟨h1,h2⟩:=hold id _ hi rfl;refine⟨h2,rfl,fun k x hp=>⟨rfl,hnb id _ h2 rfl h1 x (dZ.2 (.inr ⟨sz,sl,k,h2,hp⟩)),fun j b hj hb=>?_⟩⟩;exact(hI.ye id sz sl k x h2 hp).1 j b (hold j b hj hb).2 hb
end
def Dz(S:Nat->Prop)(w:World)(sz:Nat):Option (List (List D))->Value->List Nat->Prop
 |none,v,fp=>v=.slice none 0 0/\fp=[]
 |some rows,v,fp=>∃b,fp=[b]/\I3 S w sz rows v b
inductive RT(S:Nat->Prop)(w:World):T->Value->List Nat->Prop
 |d {x:D} {v:Value} (h:RD S w x v):RT S w (.d x) v []
 |sl {sz:Nat} {rows:List (List D)} {b off len cap:Nat} {aL:Array Value} (hsz:0<sz) (ho:pP w b aL) (hlen:rows.length=len) (hcap:len<=cap)
   (hext:off+cap*sz<=aL.size) (hr:cO S w sz (fun i=>aL[i]?) off rows):RT S w (.sl sz rows) (.slice (some ⟨b,off,none⟩) len cap) [b]
 |pt {ts:List T} {b:Nat} {aL:Array Value} {fps:List (List Nat)} (ho:pP w b aL) (hlen:ts.length=aL.size) (hfl:fps.length=ts.length)
   (h:∀(i:Nat)(t:T)(fp:List Nat),ts[i]?=some t->fps[i]?=some fp->RT S w t (aL.getD i undef) fp):
   RT S w (.pt ts) (.pointer (some ⟨b,0,none⟩)) (b::fps.flatten)
 |AZ {sz:Nat} {rows:List (Option (List (List D)))} {b off cap:Nat} {aL:Array Value} {fps:List (List Nat)} (hsz:0<sz) (ho:pP w b aL) (hcap:rows.length<=cap) (hext:off+cap<=aL.size) (hfl:fps.length=rows.length)
   (h:∀(i:Nat)(r:Option (List (List D)))(fp:List Nat),rows[i]?=some r->fps[i]?=some fp->∃v,aL[off+i]?=some v/\Dz S w sz r v fp):
   RT S w (.AZ sz rows) (.slice (some ⟨b,off,none⟩) rows.length cap) (b::fps.flatten)
theorem Dz.mono{S S':Nat->Prop}{w w':World}(hs:ia S w S' w'){sz:Nat}{r:Option (List (List D))}{v:Value}{fp:List Nat}(h:Dz S w sz r v fp)(hb:∀b∈fp,w'.heap[b]?=w.heap[b]?):Dz S' w' sz r v fp:=by cases r with|none=>exact h|some rows=>obtain⟨b,rfl,h⟩:=h;exact⟨b,rfl,h.mono hs (hb b (by simp))⟩
theorem Dz.lt{S:Nat->Prop}{w:World}{sz:Nat}{r:Option (List (List D))}{v:Value}{fp:List Nat}(h:Dz S w sz r v fp):∀b∈fp,b<w.heap.size:=by cases r with|none=>obtain⟨_,rfl⟩:=h;intro b hb;simp at hb|some rows=>obtain⟨b,rfl,h⟩:=h;intro b' hb;obtain rfl:=aq.1 hb;obtain⟨aL,h⟩:=h.bq;exact h.lt
theorem RT.mono{S S':Nat->Prop}{w w':World}(hs:ia S w S' w'){t:T}{v:Value}{fp:List Nat}(h:RT S w t v fp)(hb:∀b∈fp,w'.heap[b]?=w.heap[b]?):RT S' w' t v fp:=by induction h with|d h=>exact .d (h.mono hs)|sl hsz ho hlen hcap hext hr=>exact .sl hsz (ho.oe (hb _ (by simp))) hlen hcap hext (hr.mono hs)|pt ho hlen hfl h ih=>refine .pt (ho.oe (hb _ (by simp))) hlen hfl fun i t fp hi hf=>ih i t fp hi hf fun b hbm=>hb b ?_;exact av _ (dO.2 ⟨fp,aR hf,hbm⟩)|AZ hsz ho hcap hext hfl h=>refine .AZ hsz (ho.oe (hb _ (by simp))) hcap hext hfl fun i r fp hi hf=>?_;obtain⟨v,h1,h2⟩:=h i r fp hi hf;exact⟨v,h1,h2.mono hs fun b hbm=>hb b (av _ (dO.2 ⟨fp,aR hf,hbm⟩))⟩
theorem RT.lt{S:Nat->Prop}{w:World}{t:T}{v:Value}{fp:List Nat}(h:RT S w t v fp):∀b∈fp,b<w.heap.size:=by
 induction h with
 |d h=>intro b hb;simp at hb
 |sl hsz ho=>intro b hb;obtain rfl:=aq.1 hb;exact ho.lt
 |pt ho hlen hfl h ih=>
  intro b hb;rcases aJ.1 hb with rfl|hb
  .exact ho.lt
  .obtain ⟨fp,hfp,hbf⟩:=dO.1 hb;obtain⟨i,hi,rfl⟩:=ft hfp;exact ih i _ _ (aB (by omega:i<_)) (aB hi) b hbf
 |AZ hsz ho hcap hext hfl h=>
  intro b hb;rcases aJ.1 hb with rfl|hb
  .exact ho.lt
  .obtain ⟨fp,hfp,hbf⟩:=dO.1 hb;obtain⟨i,hi,rfl⟩:=ft hfp;obtain⟨v,_,h2⟩:=h i _ _ (aB (by omega:i<_)) (aB hi);exact h2.lt b hbf
section
variable{S K:Nat->Prop}{w0 w:World}{Kn:Nat->Prop}{φ:Nat->gW}{hf:Nat->Option Ob}
theorem qN{id:Nat}(h:∀sz sl,hf id≠some (.nst sz sl)):iH w φ hf id=[(φ id).cQ]:=by
 unfold iH;split
 .rename_i sz sl e;exact absurd e (h sz sl)
 .rfl
theorem Jh{l:gW}{sz:Nat}{get:Nat->Option Value}(hget:∀i,w.cell? ⟨l.cQ,i,none⟩=get i):∀(slots:List lU)(k0:Nat)(rows:List (Option (List (List D)))),(∀(i:Nat)(s:lU),slots[i]?=some s->∃v,get (l.aN+(k0+i))=some v/\AU S K w Kn φ sz s v)->vq slots=some rows->
  rows.length=slots.length/\∃fps:List (List Nat),fps.length=rows.length/\fps.flatten=s_ w l slots k0/\∀(i:Nat)(r:Option (List (List D)))(fp:List Nat),rows[i]?=some r->fps[i]?=some fp->∃v,get (l.aN+(k0+i))=some v/\Dz S w sz r v fp:=by
 intro slots;induction slots with
 |nil=>intro k0 rows _ h;obtain rfl:=aa h;exact⟨rfl,[],rfl,rfl,fun i r fp hi=>by simp at hi⟩
 |cons s slots ih=>
  intro k0 rows hr h;simp only[vq]at h;split at h
  .rename_i x rs hx hrs;obtain rfl:=aa h;obtain⟨h1,fps,h2,h3,h4⟩:=ih (k0+1) rs (fun i s hi=>by obtain⟨v,e1,e2⟩:=hr (i+1) s (by simpa using hi);exact⟨v,by rw[<-e1,show k0+(i+1)=k0+1+i by omega],e2⟩) hrs;obtain⟨v,e1,e2⟩:=hr 0 s rfl
   have rO:∀fp0,Dz S w sz x v fp0->fp0++s_ w l slots (k0+1)=s_ w l (s::slots) k0->(x::rs).length=(s::slots).length/\∃fps:List (List Nat),fps.length=(x::rs).length/\fps.flatten=s_ w l (s::slots) k0/\∀(i:Nat)(r:Option (List (List D)))(fp:List Nat),(x::rs)[i]?=some r->fps[i]?=some fp->∃v,get (l.aN+(k0+i))=some v/\Dz S w sz r v fp:=by
    intro fp0 h5 h6;refine⟨by simp[h1],fp0::fps,by simp[h2],by rw[eL,h3,h6],fun i r fp hi hf=>?_⟩;cases i with
    |zero=>
     obtain rfl:x=r:=by simpa using hi
     obtain rfl:fp0=fp:=by simpa using hf
     exact⟨v,e1,h5⟩
    |succ i=>obtain⟨v',q1,q2⟩:=h4 i r fp (by simpa using hi) (by simpa using hf);exact⟨v',by rw[<-q1,show k0+(i+1)=k0+1+i by omega],q2⟩
   cases e2 with|nil=>obtain rfl:=aa hx;exact rO [] ⟨rfl,rfl⟩ rfl|@bq rows0 _ b q1 _ _=>obtain rfl:=aa hx;refine rO [b] ⟨b,rfl,q1⟩ ?_;simp only[s_];rw[show l.aN+k0=l.aN+(k0+0)from rfl,hget,e1];simp only[Option.bind_some,q1.cQ,List.singleton_append]|ez _=>simp[PS]at hx
  .simp at h
theorem Et{H:bD}{sz id off len:Nat}{t:T}{bq rd:List Nat}{v:Value}(hI:Inv S K w0 Kn φ (az H) w)(hc:RC S w Kn φ (.fK sz id off len) v)
  (h:(match az H id with
  |some (.aL _ rows)=>if off+len<=rows.length then some (T.sl sz ((rows.drop off).take len),[id],[id])else none
  |some (.qH _ rows)=>if off+len<=rows.length then some (.d (.sl sz ((rows.drop off).take len)),[],[id])else none
  |some (.nst szi slots)=>if off=0/\len=slots.length then(match vq slots with|some rows=>some (.AZ szi rows,[id],[id])|none=>none)else none
  |_=>none)=some (t,bq,rd)):
  RT S w t v (bq.flatMap (iH w φ (az H)))/\∀i∈bq,∃o,az H i=some o/\cL o=true:=by
 split at h
 .rename_i szo rows ho;split at h
  .rename_i hle;obtain⟨rfl,rfl,rfl⟩:T.sl sz ((rows.drop off).take len)=t/\[id]=bq/\[id]=rd:=by simpa using h
   obtain⟨hk,h0⟩:=hI.jy _ _ ho;cases h0 with
   |aL hsz hl hS hK hown hext hfit hr=>
    subst hl;cases hc with
    |fK hk hcap haddr hx=>
     rw[bo,List.flatMap_nil,aV,qN fun _ _ e=>by rw[ho]at e;cases e];refine⟨.sl hsz hown (by simp;omega) hcap (by omega) (hr.yy off len fun h=>haddr (by omega)),fun i hi=>?_⟩
     .obtain rfl:=aq.1 hi;exact⟨_,ho,rfl⟩
  .simp at h
 .rename_i szo rows ho;split at h
  .rename_i hle;obtain⟨rfl,rfl,rfl⟩:T.d (.sl sz ((rows.drop off).take len))=t/\[]=bq/\[id]=rd:=by simpa using h
   obtain⟨hk,h0⟩:=hI.jy _ _ ho;have hS:S (φ id).cQ:=by cases h0 with|qH hsz hl hS _=>exact hS
   exact⟨.d (DK hI hc (.inr ho) hle (ia.refl _ _) hS),fun i hi=>by simp at hi⟩
  .simp at h
 .rename_i szi slots ho;split at h
  .rename_i he;obtain⟨rfl,rfl⟩:=he;split at h
   .rename_i rows hrows;obtain⟨rfl,rfl,rfl⟩:T.AZ szi rows=t/\[id]=bq/\[id]=rd:=by simpa using h
    obtain⟨hk,h0⟩:=hI.jy _ _ ho;cases h0 with
    |@nst _ _ aL hsz hl hS hK hown hext hfit hr hv=>
     obtain⟨h1,fps,h2,h3,h4⟩:=Jh (get:=fun i=>aL[i]?) hown.cell slots 0 rows (fun i s hi=>by rw[bJ];exact hr i s hi) hrows;cases hc with
     |@fK _ _ _ cap addr hk hcap haddr hx hcc=>
      rw[bo,List.flatMap_nil,aV];have e:iH w φ (az H) id=(φ id).cQ::fps.flatten:=by unfold iH;rw[ho,h3]
      rw[e,<-h1];refine⟨.AZ (sz:=szi) (rows:=rows) hsz hown (by omega) (by rw[hl,lh]at hx;omega) h2 fun i r fp hi hf=>?_,fun i hi=>?_⟩
      .obtain ⟨v,q1,q2⟩:=h4 i r fp hi hf;have hlt:=(ao.1 hi).1;rw[bJ]at q1;exact⟨v,by rw[haddr (by omega),gP,cT];exact q1,q2⟩
      .obtain rfl:=aq.1 hi;exact⟨_,ho,rfl⟩
   .simp at h
  .simp at h
 .simp at h
theorem te{H:bD}(hI:Inv S K w0 Kn φ (az H) w):∀n,
  (∀c t bq rd v,fc H n c=some (t,bq,rd)->RC S w Kn φ c v->RT S w t v (bq.flatMap (iH w φ (az H)))/\∀i∈bq,∃o,az H i=some o/\cL o=true)/\
  (∀cs ts bq rd,jk H n cs=some (ts,bq,rd)->∀(get:Nat->Value),(∀(i:Nat)(c:C),cs[i]?=some c->RC S w Kn φ c (get i))->
   ts.length=cs.length/\(∃fps:List (List Nat),fps.length=ts.length/\fps.flatten=bq.flatMap (iH w φ (az H))/\
    ∀(i:Nat)(t:T)(fp:List Nat),ts[i]?=some t->fps[i]?=some fp->RT S w t (get i) fp)/\∀i∈bq,∃o,az H i=some o/\cL o=true):=by
 intro n;induction n with
 |zero=>
  refine⟨fun c t bq rd v h hc=>?_,fun cs ts bq rd h get hg=>?_⟩
  .cases c with
   |d x=>
    obtain⟨rfl,rfl,rfl⟩:T.d x=t/\[]=bq/\[]=rd:=by simpa[fc]using h
    cases hc with|d hd=>exact⟨.d hd,fun i hi=>by simp at hi⟩
   |fK sz id off len=>simp only[fc]at h;exact Et hI hc h
   |_=>simp[fc]at h
  .cases cs with
   |nil=>
    obtain⟨rfl,rfl,rfl⟩:[]=ts/\[]=bq/\[]=rd:=by simpa[jk]using h
    exact⟨rfl,⟨[],rfl,rfl,fun i t fp hi=>by simp at hi⟩,fun i hi=>by simp at hi⟩
   |cons c cs=>simp[jk]at h
 |succ n ih=>
  obtain⟨ihc,ihl⟩:=ih;refine⟨fun c t bq rd v h hc=>?_,fun cs ts bq rd h get hg=>?_⟩
  .cases c with
   |d x=>
    obtain⟨rfl,rfl,rfl⟩:T.d x=t/\[]=bq/\[]=rd:=by simpa[fc]using h
    cases hc with|d hd=>exact⟨.d hd,fun i hi=>by simp at hi⟩
   |fK sz id off len=>simp only[fc]at h;exact Et hI hc h
   |op id off=>
    cases off with
    |succ off=>simp[fc]at h
    |zero=>
     simp only[fc]at h;split at h
     .rename_i cells ho;split at h
      .rename_i ts own' rd' hp;obtain⟨rfl,rfl,rfl⟩:T.pt ts=t/\id::own'=bq/\id::rd'=rd:=by simpa using h
       obtain⟨hk,h0⟩:=hI.jy _ _ ho;cases h0 with
       |@box _ aL hb hS hK hown hlen hr=>
        obtain⟨h1,⟨fps,h2,h3,h4⟩,h5⟩:=ihl cells ts own' rd' hp (fun i=>aL.getD i undef) hr;cases hc with
        |op hk=>
         rw[hb];refine⟨?_,fun i hi=>?_⟩
         .rw [bo,<-h3,qN fun _ _ e=>by rw[ho]at e;cases e];exact .pt hown (h1.trans hlen) h2 h4
         .rcases aJ.1 hi with rfl|hi
          .exact ⟨_,ho,rfl⟩
          .exact h5 i hi
      .simp at h
     .rename_i cells ho;obtain⟨rfl,rfl,rfl⟩:T.d (.pt cells)=t/\[]=bq/\[id]=rd:=by simpa using h
      obtain⟨hk,h0⟩:=hI.jy _ _ ho;cases h0 with
      |py hb hS hr=>cases hc with|op hk=>exact⟨.d (.zR hS fun j x hj=>by obtain⟨u,hu,hd⟩:=hr j x hj;exact⟨u,by rw[<-hu,hb];simp,hd⟩),fun i hi=>by simp at hi⟩
     .simp at h
   |ep id bw off=>simp[fc]at h
   |pS f caps=>simp[fc]at h
   |om id=>simp[fc]at h
  .cases cs with
   |nil=>
    obtain⟨rfl,rfl,rfl⟩:[]=ts/\[]=bq/\[]=rd:=by simpa[jk]using h
    exact⟨rfl,⟨[],rfl,rfl,fun i t fp hi=>by simp at hi⟩,fun i hi=>by simp at hi⟩
   |cons c cs=>
    simp only[jk]at h;split at h
    .rename_i t0 a i0 ts0 b j0 hx hxs;obtain⟨rfl,rfl,rfl⟩:t0::ts0=ts/\a++b=bq/\i0++j0=rd:=by simpa using h
     obtain⟨p1,p2⟩:=ihc c t0 a i0 (get 0) hx (hg 0 c rfl);obtain⟨h1,⟨fps,h2,h3,h4⟩,h5⟩:=ihl cs ts0 b j0 hxs (fun i=>get (i+1)) (fun i c hi=>hg (i+1) c (by simpa using hi));refine⟨by simp[h1],⟨(a.flatMap (iH w φ (az H)))::fps,by simp[h2],by simp[h3],fun i t fp hi hfp=>?_⟩,fun i hi=>?_⟩
     .cases i with
      |zero=>
       obtain rfl:t0=t:=by simpa using hi
       obtain rfl:(a.flatMap (iH w φ (az H)))=fp:=by simpa using hfp
       exact p1
      |succ i=>exact h4 i t fp (by simpa using hi) (by simpa using hfp)
     .rcases ap.1 hi with hi|hi
      .exact p2 i hi
      .exact h5 i hi
    .simp at h
theorem Co{bq:List Nat}(hI:Inv S K w0 Kn φ hf w)(hn:bq.Nodup)(ho:∀i∈bq,∃o,hf i=some o/\cL o=true):(bq.flatMap (iH w φ hf)).Nodup:=by induction bq with|nil=>exact mz|cons a l ih=>rw[gX]at hn;obtain⟨o1,h1,h2⟩:=ho a (by simp);rw[bo,cC];refine⟨HI hI h1 h2,ih hn.2 fun i hi=>ho i (av _ hi),fun x hx y hy e=>?_⟩;subst e;obtain⟨i,hi,hy⟩:=List.mem_flatMap.1 hy;obtain⟨o2,h3,h4⟩:=ho i (av _ hi);exact o6 hI h1 h3 h2 h4 (fun e'=>hn.1 (e'▸hi)) hx hy
def qi(Kn:Nat->Prop)(a b:Nat)(j:Nat):Prop:=Kn j\/(a<=j/\j<b)
theorem Inv.name(h:Inv S K w0 Kn φ hf w){i:Nat}(hi:¬Kn i)(l:gW)(o:Ob)(hfree:cL o=true->∀j b,hf j=some b->cL b=true->l.cQ∉iH w φ hf j)
  (hro:RO S K w (fun j=>Kn j\/j=i) (ext φ i l) l o)
  (hp:∀sz sl k x,o=.nst sz sl->tL w l sl k x->x≠l.cQ/\(∀j b,hf j=some b->cL b=true->x∉iH w φ hf j)/\∀k',tL w l sl k' x->k'=k:=by intro _ _ _ _ e;cases e):
  Inv S K w0 (fun j=>Kn j\/j=i) (ext φ i l) (bn [(i,some o)] hf) w:=by
 have hold:∀j b,bn [(i,some o)] hf j=some b->(j=i/\b=o/\ext φ i l j=l)\/(j≠i/\hf j=some b/\ext φ i l j=φ j):=by
  intro j b hj;rw[bV]at hj;by_cases e:i=j
  .rw [if_pos e]at hj;exact .inl ⟨e.symm,(aa hj).symm,by simp[ext,e]⟩
  .rw [if_neg e,fW]at hj;have e1:¬j=i:=fun q=>e q.symm;exact .inr ⟨e1,hj,by simp[ext,e1]⟩
 refine h.vX (ia.refl _ _) (kC _ hi) h.vY h.sk h.oJ ?_ ?_ ?_
 .intro id o' ho;rcases hold id o' ho with⟨rfl,rfl,e⟩|⟨_,ho,_⟩
  .exact .inr ⟨.inr rfl,by rw[e];exact hro⟩
  .exact .inl ⟨ho,fun hown=>⟨rfl,((h.jy id o' ho).2.bq hown).1⟩,h.Fe ho fun _ _=>rfl⟩
 .intro a b oa ob ha hb hoa hob hne;rcases hold a oa ha with⟨h1,h2,e1⟩|⟨_,ha',e1⟩<;>rcases hold b ob hb with⟨h3,h4,e2⟩|⟨_,hb',e2⟩
  .exact absurd (h1.trans h3.symm) hne
  .rw [e1,e2];exact fun e=>hfree (h2▸hoa) b ob hb' hob (dZ.2 (.inl e))
  .rw [e1,e2];exact fun e=>hfree (h4▸hob) a oa ha' hoa (dZ.2 (.inl e.symm))
  .rw [e1,e2];exact h.pL a b oa ob ha' hb' hoa hob hne
 .intro a sz sl k x ha hpa;rcases hold a _ ha with⟨ea,eo,e1⟩|⟨hne,ha',e1⟩<;>rw[e1]at hpa
  .obtain ⟨p1,p2,p3⟩:=hp sz sl k x eo.symm hpa;refine⟨fun j b hj hown=>?_,fun j sz' sl' k' hj hpj=>?_⟩
   .rcases hold j b hj with⟨_,_,e2⟩|⟨_,hj',e2⟩<;>rw[e2]
    .exact fun e=>p1 e.symm
    .exact fun e=>p2 j b hj' hown (dZ.2 (.inl e.symm))
   .rcases hold j _ hj with⟨ej,eo2,e2⟩|⟨_,hj',e2⟩<;>rw[e2]at hpj
    .rw [<-eo]at eo2;cases eo2;exact⟨ej.trans ea.symm,p3 k' hpj⟩
    .exact absurd (dZ.2 (.inr ⟨sz',sl',k',hj',hpj⟩)) (p2 j _ hj' rfl)
  .obtain ⟨p1,p2⟩:=h.ye a sz sl k x ha' hpa;refine⟨fun j b hj hown=>?_,fun j sz' sl' k' hj hpj=>?_⟩
   .rcases hold j b hj with⟨_,eo,e2⟩|⟨_,hj',e2⟩<;>rw[e2]
    .exact fun e=>hfree (eo▸hown) a _ ha' rfl (dZ.2 (.inr ⟨sz,sl,k,ha',e▸hpa⟩))
    .exact p1 j b hj' hown
   .rcases hold j _ hj with⟨_,eo,e2⟩|⟨_,hj',e2⟩<;>rw[e2]at hpj
    .exact absurd (dZ.2 (.inr ⟨sz,sl,k,ha',hpa⟩)) ((hp sz' sl' k' x eo.symm hpj).2.1 a _ ha' rfl)
    .exact p2 j sz' sl' k' hj' hpj
theorem Inv.kn{Kn':Nat->Prop}(h:Inv S K w0 Kn φ hf w)(hs:∀i,Kn i->Kn' i):Inv S K w0 Kn' φ hf w:=h.nW (ia.refl _ _) ⟨hs,fun _ _=>rfl⟩ h.vY h.sk h.oJ (fun id o ho=>.inl ⟨ho,fun hown=>⟨rfl,((h.jy id o ho).2.bq hown).1⟩⟩) h.pL (h.BK fun _ _=>rfl)
structure tD(S K:Nat->Prop)(w0 w:World)(Kn:Nat->Prop)(φ:Nat->gW)(hf:Nat->Option Ob)(fp:List Nat)(nxt m:Nat)(u:fN)(φ':Nat->gW):Prop where
 le:nxt<=m
 t6:uO Kn φ (qi Kn nxt m) φ'
 inv:Inv S K w0 (qi Kn nxt m) φ' (bn u hf) w
 gV:∀p∈u,nxt<=p.1/\p.1<m
 cQ:∀p∈u,∀x∈iH w φ' (bn u hf) p.1,x∈fp
theorem rb(a b:Nat):uO Kn φ (qi Kn a b) φ:=⟨fun _ h=>.inl h,fun _ _=>rfl⟩
theorem tD.nil(h:Inv S K w0 Kn φ hf w)(fp:List Nat)(n:Nat):tD S K w0 w Kn φ hf fp n n [] φ:=⟨am _,rb _ _,h.kn fun _ hi=>.inl hi,fun p hp=>by simp at hp,fun p hp=>by simp at hp⟩
theorem tD.skip(h:Inv S K w0 Kn φ hf w)(fp:List Nat)(n:Nat):tD S K w0 w Kn φ hf fp n (n+1) [] φ:=⟨bE _,rb _ _,h.kn fun _ hi=>.inl hi,fun p hp=>by simp at hp,fun p hp=>by simp at hp⟩
theorem mu{α:Type}{u:List (Nat×α)}{id:Nat}(h:∀p∈u,p.1≠id):cn u id=none:=by
 induction u with
 |nil=>rfl
 |cons p r ih=>
  obtain⟨i,x⟩:=p;have e:(i==id)=false:=by simpa using h (i,x) (by simp)
  simp only[cn,e,cond_false];exact ih fun q hq=>h q (by simp[hq])
def uZ(w:World)(φ:Nat->gW)(hf:Nat->Option Ob)(fp:List Nat):Prop:=∀j b,hf j=some b->cL b=true->∀x∈iH w φ hf j,x∉fp
theorem tj{a b c:Nat}(h1:a<=b)(h2:b<=c)(j:Nat):qi (qi Kn a b) b c j<->qi Kn a c j:=by
 unfold qi;constructor
 .rintro ((h|h)|h)
  .exact .inl h
  .exact .inr (by omega)
  .exact .inr (by omega)
 .rintro (h|h)
  .exact .inl (.inl h)
  .by_cases e:j<b
   .exact .inl (.inr (by omega))
   .exact .inr (by omega)
theorem Inv.yB{Kn':Nat->Prop}(h:Inv S K w0 Kn φ hf w)(hs:∀i,Kn i<->Kn' i):Inv S K w0 Kn' φ hf w:=h.kn fun i hi=>(hs i).1 hi
theorem RC.kn{Kn':Nat->Prop}{c:C}{v:Value}(h:RC S w Kn φ c v)(hs:∀i,Kn i->Kn' i):RC S w Kn' φ c v:=h.mono (ia.refl _ _) ⟨hs,fun _ _=>rfl⟩
theorem gO{φ':Nat->gW}{hf':Nat->Option Ob}{i:Nat}(h1:φ i=φ' i)(h2:hf i=hf' i):iH w φ hf i=iH w φ' hf' i:=by unfold iH;rw[h1,h2]
theorem tD.qR{fa fb:List Nat}{n m k:Nat}{u v:fN}{φ1 φ2:Nat->gW}(a:tD S K w0 w Kn φ hf fa n m u φ1)(b:tD S K w0 w (qi Kn n m) φ1 (bn u hf) fb m k v φ2):
  tD S K w0 w Kn φ hf (fa++fb) n k (v++u) φ2 where
 le:=bt a.le b.le
 t6:=⟨fun i h=>.inl h,fun i h=>(b.t6.same i (.inl h)).trans (a.t6.same i h)⟩
 inv:=by rw[eP];exact b.inv.yB fun i=>tj a.le b.le i
 gV p hp:=by
  have:=a.le;have:=b.le;rcases ap.1 hp with h|h
  .have:=b.gV p h;omega
  .have:=a.gV p h;omega
 cQ p hp:=by
  intro x hx;rcases ap.1 hp with h|h
  .rw [eP]at hx;exact List.mem_append_right _ (b.cQ p h x hx)
  .have hn:cn v p.1=none:=mu fun q hq e=>by have:=a.gV p h;have:=b.gV q hq;omega
   have e:bn (v++u) hf p.1=bn u hf p.1:=by simp only[bn,ic,hn]
   have e2:=gO (w:=w) (b.t6.same p.1 (.inr (a.gV p h))) e;rw[e2]at hx;exact List.mem_append_left _ (a.cQ p h x hx)
theorem nH{u v:fN}(h:∀p∈u,∀q∈v,p.1≠q.1):bn (u++v) hf=bn (v++u) hf:=by
 funext id;simp only[bn,ic];cases hu:cn u id with
 |none=>cases cn v id<;>simp
 |some x=>
  have:cn v id=none:=by
   refine mu fun q hq e=>?_
   have hm:∃p∈u,p.1=id:=by
    clear h;induction u with
    |nil=>simp[cn]at hu
    |cons p r ih=>
     obtain⟨i,y⟩:=p;by_cases e':i=id
     .exact ⟨(i,y),by simp,e'⟩
     .have e2:(i==id)=false:=by simpa using e'
      simp only[cn,e2,cond_false]at hu;obtain⟨p,hp,hpe⟩:=ih hu;exact⟨p,by simp[hp],hpe⟩
   obtain⟨p,hp,hpe⟩:=hm;exact h p hp q hq (hpe.trans e.symm)
  simp[this]
theorem rz(nxt:Nat)(ts:List T):lW nxt (.pt ts)=(.op nxt 0,(nxt,some (.box (jb (nxt+1) ts).1))::(jb (nxt+1) ts).2.1,(jb (nxt+1) ts).2.2):=rfl
theorem rU(nxt:Nat)(t:T)(ts:List T):jb nxt (t::ts)=((lW nxt t).1::(jb (lW nxt t).2.2 ts).1,(lW nxt t).2.1++(jb (lW nxt t).2.2 ts).2.1,(jb (lW nxt t).2.2 ts).2.2):=rfl
theorem Ft{x:Nat}:∀{fps:List (List Nat)}{k k':Nat},fps.flatten.Nodup->fps[k]?=some [x]->fps[k']?=some [x]->k=k':=by
 intro fps;induction fps with
 |nil=>intro k k' _ h;simp at h
 |cons fp fps ih=>
  intro k k' hn h1 h2;rw[eL,cC]at hn;have hm:∀k,fps[k]?=some [x]->x∈fps.flatten:=fun k h=>dO.2 ⟨[x],aR h,by simp⟩;cases k with
  |zero=>
   obtain rfl:fp=[x]:=by simpa using h1
   cases k' with|zero=>rfl|succ k'=>exact absurd rfl (hn.2.2 x (by simp) x (hm k' (by simpa using h2)))
  |succ k=>
   cases k' with
   |zero=>
    obtain rfl:fp=[x]:=by simpa using h2
    exact absurd rfl (hn.2.2 x (by simp) x (hm k (by simpa using h1)))
   |succ k'=>exact congrArg Nat.succ (ih hn.2.1 (by simpa using h1) (by simpa using h2))
mutual
theorem KY(t:T):∀nxt,nxt<=(lW nxt t).2.2:=by intro nxt;cases t with|d x=>exact bE _|wK=>exact bE _|sl sz rows=>exact bE _|AZ sz rows=>exact bE _|pt ts=>rw[rz];exact Nat.le_of_succ_le (w9 ts (nxt+1))
theorem w9(ts:List T):∀nxt,nxt<=(jb nxt ts).2.2:=by intro nxt;cases ts with|nil=>exact am _|cons t ts=>rw[rU];exact bt (KY t nxt) (w9 ts _)
end
mutual
theorem w_(t:T):∀{Kn:Nat->Prop}{φ:Nat->gW}{hf:Nat->Option Ob}(nxt:Nat)(v:Value)(fp:List Nat),Inv S K w0 Kn φ hf w->(∀j,nxt<=j->j<(lW nxt t).2.2->¬Kn j)->
  RT S w t v fp->fp.Nodup->(∀b∈fp,¬S b/\¬K b)->uZ w φ hf fp->
  ∃φ',tD S K w0 w Kn φ hf fp nxt (lW nxt t).2.2 (lW nxt t).2.1 φ'/\RC S w (qi Kn nxt (lW nxt t).2.2) φ' (lW nxt t).1 v:=by
 intro Kn φ hf nxt v fp hI hfr hr hnd hSK haw;cases t with
 |wK=>cases hr
 |d x=>cases hr with|d hd=>exact⟨φ,tD.skip hI _ _,.d hd⟩
 |sl sz rows=>
  cases hr with
  |@sl _ _ b off len cap aL hsz ho hlen hcap hext hrr=>
   have hnx:¬Kn nxt:=hfr nxt (am _) (bc _);refine⟨ext φ nxt ⟨b,off,sz,aL.size,cap⟩,?_,?_⟩
   .have hin:=hI.name (hnx) ⟨b,off,sz,aL.size,cap⟩ (.aL sz rows) (fun _ j o hj hown hm=>haw j o hj hown _ hm (by simp))
     (.aL hsz rfl (hSK b (by simp)).1 (hSK b (by simp)).2 ho rfl (by have:rows.length*sz<=cap*sz:=aH _ (by omega);simp only;omega) hrr (by simp only;omega))
    refine⟨bE _,⟨fun i h=>.inl h,(kC _ (hnx)).same⟩,hin.yB fun i=>?_,fun p hp=>?_,fun p hp=>?_⟩
    .simp only[qi,lW];constructor
     .rintro (h|rfl)
      .exact .inl h
      .exact .inr (by omega)
     .rintro (h|h)
      .exact .inl h
      .exact .inr (by omega)
    .obtain rfl:p=_:=by simpa[lW]using hp
     simp[lW]
    .obtain rfl:p=_:=by simpa[lW]using hp
     rw[qN fun _ _ e=>by simp[lW,bn,cn]at e];simp[ext]
   .have e:(ext φ nxt ⟨b,off,sz,aL.size,cap⟩) nxt=⟨b,off,sz,aL.size,cap⟩:=by simp[ext]
    have:=RC.fK (S:=S) (w:=w) (Kn:=qi Kn nxt (nxt+1)) (φ:=ext φ nxt ⟨b,off,sz,aL.size,cap⟩) (id:=nxt) (off:=0) (len:=rows.length) (cap:=cap) (addr:=off) (.inr (by omega)) (by omega) (by rw[e];simp) (by rw[e];simpa using hext) (by rw[e];simp);rw[e]at this;simpa[lW,hlen]using this
 |AZ sz rows=>
  cases hr with
  |@AZ _ _ b off cap aL fps hsz ho hcap hext hfl hrr=>
   have hnx:¬Kn nxt:=hfr nxt (am _) (bc _);rw[gX]at hnd;have hget:∀i,w.cell? ⟨b,i,none⟩=aL[i]?:=ho.cell;have hpat:∀k x,tL w ⟨b,off,1,aL.size,cap⟩ (rows.map nX) k x->∃fp,fps[k]?=some fp/\fp=[x]:=by rintro k x ⟨rs,v,h1,h2,h3⟩;rw[aK]at h1;obtain⟨r,hr1,hr2⟩:=aG.1 h1;have hlt:=(ao.1 hr1).1;have hf:fps[k]?=some fps[k]:=aB (by omega);obtain⟨v',q1,q2⟩:=hrr k r fps[k] hr1 hf;simp only[hget,q1,ce]at h2;subst h2;cases r with|none=>cases hr2|some rows'=>obtain⟨b',q3,q4⟩:=q2;rw[q4.cQ]at h3;obtain rfl:=aa h3;exact⟨_,hf,q3⟩
   have hmem:∀k x,tL w ⟨b,off,1,aL.size,cap⟩ (rows.map nX) k x->x∈fps.flatten:=fun k x hp=>by obtain⟨fp,h1,rfl⟩:=hpat k x hp;exact dO.2 ⟨[x],aR h1,by simp⟩
   have hin:=hI.name (hnx) ⟨b,off,1,aL.size,cap⟩ (.nst sz (rows.map nX)) (fun _ j o hj hown hm=>haw j o hj hown _ hm (by simp))
    (.nst hsz rfl (hSK b (by simp)).1 (hSK b (by simp)).2 ho rfl (by simp only[aF];omega) (fun i s hi=>by
     rw[aK]at hi;obtain⟨r,hr1,rfl⟩:=aG.1 hi;have hlt:=(ao.1 hr1).1;have hf:fps[i]?=some fps[i]:=aB (by omega);obtain⟨v,q1,q2⟩:=hrr i r fps[i] hr1 hf;refine⟨v,q1,?_⟩;cases r with
     |none=>obtain⟨rfl,_⟩:=q2;exact .nil
     |some rows'=>obtain⟨b',q3,q4⟩:=q2;have hm:b'∈fps.flatten:=dO.2 ⟨fps[i],List.getElem_mem _,by rw[q3];simp⟩;exact .bq q4 (hSK b' (av _ hm)).1 (hSK b' (av _ hm)).2) (by simp only[aF];omega))
    (fun sz' sl' k x eo hp=>by cases eo;have hm:=hmem k x hp;refine⟨fun e=>hnd.1 (by have e:x=b:=e;rw[<-e];exact hm),fun j b' hj hown hx=>haw j b' hj hown x hx (av _ hm),fun k' hp'=>?_⟩;obtain⟨fp,h1,rfl⟩:=hpat k x hp;obtain⟨fp',h2,rfl⟩:=hpat k' x hp';exact Ft hnd.2 h2 h1)
   refine⟨ext φ nxt ⟨b,off,1,aL.size,cap⟩,?_,?_⟩
   .refine ⟨bE _,⟨fun i h=>.inl h,(kC _ (hnx)).same⟩,hin.yB fun i=>?_,fun p hp=>?_,fun p hp x hx=>?_⟩
    .simp only[qi,lW];constructor
     .rintro (h|rfl)
      .exact .inl h
      .exact .inr (by omega)
     .rintro (h|h)
      .exact .inl h
      .exact .inr (by omega)
    .obtain rfl:p=_:=by simpa[lW]using hp
     simp[lW]
    .obtain rfl:p=_:=by simpa[lW]using hp
     have e:bn (lW nxt (T.AZ sz rows)).2.1 hf nxt=some (.nst sz (rows.map nX)):=by simp[lW,bn,cn]
     rcases dZ.1 hx with rfl|⟨sz',sl',k,h1,h2⟩
     .simp [ext]
     .rw [e]at h1;cases h1;simp only[ext,if_true]at h2;exact av _ (hmem k x h2)
   .have e:(ext φ nxt ⟨b,off,1,aL.size,cap⟩) nxt=⟨b,off,1,aL.size,cap⟩:=by simp[ext]
    have:=RC.fK (S:=S) (w:=w) (Kn:=qi Kn nxt (nxt+1)) (φ:=ext φ nxt ⟨b,off,1,aL.size,cap⟩) (id:=nxt) (off:=0) (len:=rows.length) (cap:=cap) (addr:=off) (.inr (by omega)) (by omega) (by rw[e];simp) (by rw[e];simpa using hext) (by rw[e];simp);rw[e]at this;simpa[lW]using this
 |pt ts=>
  cases hr with
  |@pt _ b aL fps ho hlen hfl h=>
   rw[gX]at hnd;have hnx:¬Kn nxt:=hfr nxt (am _) (by rw[rz];exact w9 ts (nxt+1))
   obtain⟨φ1,hL,hrc⟩:=uv ts (Kn:=Kn) (φ:=φ) (hf:=hf) (nxt+1) (fun i=>aL.getD i undef) fps hI (fun j hj hj2=>hfr j (by omega) (by rw[rz];exact hj2)) hfl h hnd.2
    (fun b' hb'=>hSK b' (by simp[hb'])) (fun j o hj hown x hx hm=>haw j o hj hown x hx (av _ hm))
   have hm:=hL.le
   have hnk:¬qi Kn (nxt+1) (jb (nxt+1) ts).2.2 nxt:=by
    rintro(h|h)
    .exact hnx h
    .omega
   refine⟨ext φ1 nxt ⟨b,0,1,aL.size,0⟩,?_,?_⟩
   .have hin:=hL.inv.name hnk ⟨b,0,1,aL.size,0⟩ (.box (jb (nxt+1) ts).1) (fun _ j o hj hown hm=>by
      by_cases hu:∃p∈(jb (nxt+1) ts).2.1,p.1=j
      .obtain ⟨p,hp,rfl⟩:=hu;exact hnd.1 (hL.cQ p hp _ hm)
      .have hfn:cn (jb (nxt+1) ts).2.1 j=none:=mu fun p hp e=>hu ⟨p,hp,e⟩;have hj':=hj;simp only[bn,hfn]at hj';have hk:=(hI.jy j o hj').1;rw[gO (hL.t6.same j hk) (hj.trans hj'.symm)]at hm;exact haw j o hj' hown _ hm (by simp))
     (.box rfl (hSK b (by simp)).1 (hSK b (by simp)).2 ho (hrc.1.trans hlen) fun i c hi=>(hrc.2 i c hi).mono (ia.refl _ _) (kC _ hnk))
    refine⟨?_,⟨fun i h=>.inl h,fun i hi=>?_⟩,?_,fun p hp=>?_,fun p hp=>?_⟩
    .simp only[rz];exact Nat.le_of_succ_le hm
    .have:i≠nxt:=fun e=>hnx (e▸hi);simp only[ext,this,if_false];exact hL.t6.same i hi
    .have e:bn (lW nxt (.pt ts)).2.1 hf=bn [(nxt,some (.box (jb (nxt+1) ts).1))] (bn (jb (nxt+1) ts).2.1 hf):=by rw[<-eP];rfl
     rw[e];refine hin.yB fun i=>?_;simp only[qi,rz];constructor
     .rintro ((h|h)|rfl)
      .exact .inl h
      .exact .inr (by omega)
      .exact .inr (by omega)
     .rintro (h|h)
      .exact .inl (.inl h)
      .by_cases e:i=nxt
       .exact .inr e
       .exact .inl (.inr (by omega))
    .simp only[rz]at hp|-;rcases aJ.1 hp with rfl|hp
     .simp only;omega
     .have:=hL.gV p hp;omega
    .simp only[rz]at hp;rcases aJ.1 hp with rfl|hp
     .rw [qN fun _ _ e=>by simp[rz,bn,cn]at e];simp[ext]
     .have hne:¬p.1=nxt:=by have:=hL.gV p hp;omega
      have hne':(nxt==p.1)=false:=by simpa using fun e=>hne e.symm
      intro x hx;rw[gO (φ':=φ1) (hf':=bn (jb (nxt+1) ts).2.1 hf) (by simp only[ext,hne,if_false]) (by simp only[rz,bn,cn,hne',cond_false])]at hx;exact av _ (hL.cQ p hp x hx)
   .have:=RC.op (S:=S) (w:=w) (Kn:=qi Kn nxt (jb (nxt+1) ts).2.2) (φ:=ext φ1 nxt ⟨b,0,1,aL.size,0⟩) (id:=nxt) (off:=0) (.inr (by omega));simpa[rz,ext]using this
theorem uv(ts:List T):∀{Kn:Nat->Prop}{φ:Nat->gW}{hf:Nat->Option Ob}(nxt:Nat)(get:Nat->Value)(fps:List (List Nat)),Inv S K w0 Kn φ hf w->(∀j,nxt<=j->j<(jb nxt ts).2.2->¬Kn j)->
  fps.length=ts.length->(∀(i:Nat)(t:T)(fp:List Nat),ts[i]?=some t->fps[i]?=some fp->RT S w t (get i) fp)->fps.flatten.Nodup->(∀b∈fps.flatten,¬S b/\¬K b)->uZ w φ hf fps.flatten->
  ∃φ',tD S K w0 w Kn φ hf fps.flatten nxt (jb nxt ts).2.2 (jb nxt ts).2.1 φ'/\(jb nxt ts).1.length=ts.length/\
   ∀(i:Nat)(c:C),(jb nxt ts).1[i]?=some c->RC S w (qi Kn nxt (jb nxt ts).2.2) φ' c (get i):=by
 intro Kn φ hf nxt get fps hI hfr hfl hr hnd hSK haw;cases ts with
 |nil=>exact⟨φ,tD.nil hI _ _,rfl,fun i c hi=>by simp[jb]at hi⟩
 |cons t ts=>
  cases fps with
  |nil=>simp at hfl
  |cons fp fps=>
   rw[eL,cC]at hnd;obtain⟨hn1,hn2,hn3⟩:=hnd;simp only[eL,ap]at hSK
   obtain⟨φ1,hL1,hc1⟩:=w_ t (Kn:=Kn) (φ:=φ) (hf:=hf) nxt (get 0) fp hI (fun j hj hj2=>hfr j hj (by rw[rU];exact dp hj2 (w9 ts _))) (hr 0 t fp rfl rfl) hn1 (fun b hb=>hSK b (.inl hb))
    (fun j o hj hown x hx hm=>haw j o hj hown x hx (by simp[hm]))
   obtain⟨φ2,hL2,hlen,hc2⟩:=uv ts (Kn:=qi Kn nxt (lW nxt t).2.2) (φ:=φ1) (hf:=bn (lW nxt t).2.1 hf) (lW nxt t).2.2 (fun i=>get (i+1)) fps hL1.inv
    (fun j hj hj2 hk=>by
     rcases hk with hk|hk
     .have:=hL1.le;exact hfr j (by omega) (by rw[rU];exact hj2) hk
     .omega) (by simpa using hfl) (fun i t fp hi hfp=>hr (i+1) t fp (by simpa using hi) (by simpa using hfp)) hn2 (fun b hb=>hSK b (.inr hb))
    (fun j o hj hown x hx hm=>by
     by_cases hu:∃p∈(lW nxt t).2.1,p.1=j
     .obtain ⟨p,hp,rfl⟩:=hu;exact hn3 _ (hL1.cQ p hp x hx) _ hm rfl
     .have hfn:cn (lW nxt t).2.1 j=none:=mu fun p hp e=>hu ⟨p,hp,e⟩;have hj':=hj;simp only[bn,hfn]at hj';have hk:=(hI.jy j o hj').1;rw[gO (hL1.t6.same j hk) (hj.trans hj'.symm)]at hx;exact haw j o hj' hown x hx (by simp[hm]))
   have hcomp:=hL1.qR hL2;have hcm:bn ((jb (lW nxt t).2.2 ts).2.1++(lW nxt t).2.1) hf=bn ((lW nxt t).2.1++(jb (lW nxt t).2.2 ts).2.1) hf:=nH fun p hp q hq e=>by have h1:=hL2.gV p hp;have h2:=hL1.gV q hq;omega
   refine⟨φ2,?_,by simp[rU,hlen],fun i c hi=>?_⟩
   .simp only[rU,eL];have hsw:∀{p:Nat×Option Ob}{a b:fN},p∈a++b->p∈b++a:=fun hp=>ap.2 (ap.1 hp).symm;exact⟨hcomp.le,hcomp.t6,hcm▸hcomp.inv,fun p hp=>hcomp.gV p (hsw hp),fun p hp x hx=>hcomp.cQ p (hsw hp) x (hcm.symm▸hx)⟩
   .have hsub:∀i,qi (qi Kn nxt (lW nxt t).2.2) (lW nxt t).2.2 (jb (lW nxt t).2.2 ts).2.2 i->qi Kn nxt (jb (lW nxt t).2.2 ts).2.2 i:=fun i=>(tj hL1.le hL2.le i).1;cases i with
    |zero=>
     obtain rfl:(lW nxt t).1=c:=by simpa[jb]using hi
     exact(hc1.mono (ia.refl _ _) hL2.t6).kn hsub
    |succ i=>exact(hc2 i c (by simpa[rU]using hi)).kn hsub
end
theorem uC{α:Type}{l:List α}{k i:Nat}{x y:α}(h:(l.set k x)[i]?=some y):(k=i/\y=x/\i<l.length)\/(k≠i/\l[i]?=some y):=by
 rw[List.getElem?_set]at h;split at h
 .rename_i e;split at h
  .rename_i hlt;exact .inl ⟨e,(aa h).symm,e▸hlt⟩
  .simp at h
 .rename_i e;exact .inr ⟨e,h⟩
theorem Inv.TL(h:Inv S K w0 Kn φ hf w){id:Nat}{o o':Ob}(ho:hf id=some o)(hown:cL o=true)(hno:I4 o')(hro:RO S K w Kn φ (φ id) o'):Inv S K w0 Kn φ (bn [(id,some o')] hf) w:=by
 have hold:∀j b,bn [(id,some o')] hf j=some b->(j=id/\b=o')\/(j≠id/\hf j=some b):=by
  intro j b hj;rw[bV]at hj;by_cases e:id=j
  .rw [if_pos e]at hj;exact .inl ⟨e.symm,(aa hj).symm⟩
  .rw [if_neg e,fW]at hj;exact .inr ⟨fun q=>e q.symm,hj⟩
 have was:∀j b,bn [(id,some o')] hf j=some b->cL b=true->∃b',hf j=some b'/\cL b'=true:=by
  intro j b hj hb;rcases hold j b hj with⟨rfl,rfl⟩|⟨_,hj'⟩
  .exact ⟨o,ho,hown⟩
  .exact ⟨b,hj',hb⟩
 refine h.vX (ia.refl _ _) (uO.refl _ _) h.vY h.sk h.oJ ?_ ?_ ?_
 .intro i x hx;rcases hold i x hx with⟨rfl,rfl⟩|⟨_,hx'⟩
  .exact .inr ⟨(h.jy i o ho).1,hro⟩
  .exact .inl ⟨hx',fun hown=>⟨rfl,((h.jy i x hx').2.bq hown).1⟩,h.Fe hx' fun _ _=>rfl⟩
 .intro i j a b ha hb hoa hob hne;obtain⟨a',h1,h2⟩:=was i a ha hoa;obtain⟨b',h3,h4⟩:=was j b hb hob;exact h.pL i j a' b' h1 h3 h2 h4 hne
 .intro i sz sl k x hi hp;rcases hold i _ hi with⟨rfl,e⟩|⟨_,hi'⟩
  .obtain ⟨rows,v,h1,_⟩:=hp;exact absurd h1 (hno sz sl k rows e.symm)
  .obtain ⟨p1,p2⟩:=h.ye i sz sl k x hi' hp;refine⟨fun j b hj hb=>?_,fun j sz' sl' k' hj hpj=>?_⟩
   .obtain ⟨b',h1,h2⟩:=was j b hj hb;exact p1 j b' h1 h2
   .rcases hold j _ hj with⟨rfl,e⟩|⟨_,hj'⟩
    .obtain ⟨rows,v,h1,_⟩:=hpj;exact absurd h1 (hno sz' sl' k' rows e.symm)
    .exact p2 j sz' sl' k' hj' hpj
theorem Inv.split(h:Inv S K w0 Kn φ hf w){id nxt sz bw:Nat}{slots:List lU}{rows:List (List D)}(ho:hf id=some (.nst sz slots))(hs:slots[bw]?=some (.bq rows))(hn:¬Kn nxt):
  ∃l v,w.cell? ⟨(φ id).cQ,(φ id).aN+bw,none⟩=some v/\RC S w (fun j=>Kn j\/j=nxt) (ext φ nxt l) (.fK sz nxt 0 rows.length) v/\
   Inv S K w0 (fun j=>Kn j\/j=nxt) (ext φ nxt l) (bn [(nxt,some (.aL sz rows)),(id,some (.nst sz (slots.set bw (.ez nxt rows.length))))] hf) w:=by
 obtain⟨hk,hro⟩:=h.jy id _ ho;have hne:id≠nxt:=fun e=>hn (e▸hk);cases hro with
 |@nst _ _ aL hsz hl hS hK hown hext hfit hr hv=>
  obtain⟨v,h1,h2⟩:=hr bw _ hs;cases h2 with
  |@bq _ _ b hrw hbS hbK=>
   obtain⟨addr,cap,ba,rfl,_,hbo,hcap,hfx,hrr⟩:=hrw;have hcell:w.cell? ⟨(φ id).cQ,(φ id).aN+bw,none⟩=some (.slice (some ⟨b,addr,none⟩) rows.length cap):=(hown.cell _).trans h1;have hpat:tL w (φ id) slots bw b:=⟨rows,_,hs,hcell,rfl⟩
   obtain⟨p1,p2⟩:=h.ye id sz slots bw b ho hpat;have he:ext φ nxt ⟨b,addr,sz,ba.size,cap⟩ nxt=⟨b,addr,sz,ba.size,cap⟩:=by simp[ext]
   have heo:∀j,j≠nxt->ext φ nxt ⟨b,addr,sz,ba.size,cap⟩ j=φ j:=fun j hj=>by simp[ext,hj]
   have hren:=kC (φ:=φ) (⟨b,addr,sz,ba.size,cap⟩:gW) hn;have hrc:RC S w (fun j=>Kn j\/j=nxt) (ext φ nxt ⟨b,addr,sz,ba.size,cap⟩) (.fK sz nxt 0 rows.length) (.slice (some ⟨b,addr,none⟩) rows.length cap):=by have:=RC.fK (S:=S) (w:=w) (Kn:=fun j=>Kn j\/j=nxt) (φ:=ext φ nxt ⟨b,addr,sz,ba.size,cap⟩) (id:=nxt) (off:=0) (len:=rows.length) (cap:=cap) (addr:=addr) (.inr rfl) (by omega) (by rw[he];simp) (by rw[he];simpa using hfx) (by rw[he];simp);rw[he]at this;exact this
   refine⟨⟨b,addr,sz,ba.size,cap⟩,_,hcell,hrc,?_⟩
   have hold:∀j c,bn [(nxt,some (.aL sz rows)),(id,some (.nst sz (slots.set bw (.ez nxt rows.length))))] hf j=some c->(j=nxt/\c=.aL sz rows)\/(j=id/\c=.nst sz (slots.set bw (.ez nxt rows.length)))\/(j≠nxt/\j≠id/\hf j=some c):=by
    intro j c hj;rw[bV]at hj;by_cases e:nxt=j
    .rw [if_pos e]at hj;exact .inl ⟨e.symm,(aa hj).symm⟩
    .rw [if_neg e,bV]at hj;by_cases e2:id=j
     .rw [if_pos e2]at hj;exact .inr (.inl ⟨e2.symm,(aa hj).symm⟩)
     .rw [if_neg e2,fW]at hj;exact .inr (.inr ⟨fun q=>e q.symm,fun q=>e2 q.symm,hj⟩)
   have hpat2:∀j sz' sl' k x,bn [(nxt,some (.aL sz rows)),(id,some (.nst sz (slots.set bw (.ez nxt rows.length))))] hf j=some (.nst sz' sl')->tL w (ext φ nxt ⟨b,addr,sz,ba.size,cap⟩ j) sl' k x->∃uB,hf j=some (.nst sz' uB)/\tL w (φ j) uB k x/\x≠b:=by
    intro j sz' sl' k x hj hp;rcases hold j _ hj with⟨_,e⟩|⟨rfl,e⟩|⟨e1,e2,hj'⟩
    .cases e
    .cases e;rw[heo _ hne]at hp;obtain⟨rows',v',q1,q2,q3⟩:=hp;rcases uC q1 with⟨_,e,_⟩|⟨hk',q1'⟩
     .cases e
     .have hp':tL w (φ j) slots k x:=⟨rows',v',q1',q2,q3⟩
      exact⟨slots,ho,hp',fun e=>hk' (by rw[((p2 j sz slots k ho (e▸hp')).2)])⟩
    .rw [heo _ e1]at hp;exact⟨sl',hj',hp,fun e=>e2 ((p2 j sz' sl' k hj' (e▸hp)).1)⟩
   refine h.vX (ia.refl _ _) hren h.vY h.sk h.oJ ?_ ?_ ?_
   .intro j c hj;rcases hold j c hj with⟨rfl,rfl⟩|⟨rfl,rfl⟩|⟨e1,_,hj'⟩
    .refine .inr ⟨.inr rfl,?_⟩;rw[he];exact .aL (by assumption) rfl hbS hbK hbo rfl (by have:=aH sz hcap;simp only;omega) hrr hcap
    .refine .inr ⟨.inl hk,?_⟩;rw[heo _ hne];refine .nst hsz hl hS hK hown hext (by rw[fh];exact hfit) (fun i s hi=>?_) (by rw[fh];exact hv);rcases uC hi with⟨rfl,rfl,_⟩|⟨_,hi'⟩
     .exact ⟨_,h1,.ez hrc⟩
     .obtain ⟨v',q1,q2⟩:=hr i s hi';refine⟨v',q1,?_⟩;cases q2 with|nil=>exact .nil|bq h hS hK=>exact .bq h hS hK|ez h=>exact .ez (h.mono (ia.refl _ _) hren)
    .exact .inl ⟨hj',fun hown=>⟨rfl,((h.jy j c hj').2.bq hown).1⟩,h.Fe hj' fun _ _=>rfl⟩
   .intro i j a c ha hc hoa hoc hij
    have key:∀j c,bn [(nxt,some (.aL sz rows)),(id,some (.nst sz (slots.set bw (.ez nxt rows.length))))] hf j=some c->cL c=true->j≠nxt->(∃c',hf j=some c'/\cL c'=true)/\ext φ nxt ⟨b,addr,sz,ba.size,cap⟩ j=φ j:=by
     intro j c hj hc hjn;rcases hold j c hj with⟨e,_⟩|⟨rfl,rfl⟩|⟨_,_,hj'⟩
     .exact absurd e hjn
     .exact ⟨⟨_,ho,rfl⟩,heo _ hjn⟩
     .exact ⟨⟨c,hj',hc⟩,heo _ hjn⟩
    by_cases hi:i=nxt
    .subst hi;obtain⟨⟨c',q1,q2⟩,q3⟩:=key j c hc hoc fun e=>hij e.symm;rw[he,q3];exact fun e=>p1 j c' q1 q2 e.symm
    .obtain ⟨⟨a',q1,q2⟩,q3⟩:=key i a ha hoa hi;by_cases hj:j=nxt
     .subst hj;rw[he,q3];exact p1 i a' q1 q2
     .obtain ⟨⟨c',q4,q5⟩,q6⟩:=key j c hc hoc hj;rw[q3,q6];exact h.pL i j a' c' q1 q4 q2 q5 hij
   .intro j sz' sl' k x hj hp;obtain⟨uB,q1,q2,q3⟩:=hpat2 j sz' sl' k x hj hp;obtain⟨r1,r2⟩:=h.ye j sz' uB k x q1 q2;refine⟨fun i c hi hc=>?_,fun i sz2 sl2 k' hi hpi=>?_⟩
    .rcases hold i c hi with⟨rfl,rfl⟩|⟨rfl,rfl⟩|⟨e1,_,hi'⟩
     .rw [he];exact fun e=>q3 e.symm
     .rw [heo _ hne];exact r1 i _ ho rfl
     .rw [heo _ e1];exact r1 i c hi' hc
    .obtain ⟨sl3,q4,q5,_⟩:=hpat2 i sz2 sl2 k' x hi hpi;exact r2 i sz2 sl3 k' q4 q5
theorem Inv.ND(h:Inv S K w0 Kn φ hf w){id id2 sz sz2 bw:Nat}{slots:List lU}{rows:List (List D)}(ho:hf id=some (.nst sz slots))(hs:slots[bw]?=some (.ez id2 rows.length))(h2:hf id2=some (.aL sz2 rows)):
  Inv S K w0 Kn φ (bn [(id,some (.nst sz (slots.set bw (.bq rows)))),(id2,none)] hf) w:=by
 obtain⟨hk,hro⟩:=h.jy id _ ho;obtain⟨hk2,hro2⟩:=h.jy id2 _ h2;have hne:id2≠id:=fun e=>by rw[e,ho]at h2;cases h2
 have hold:∀j c,bn [(id,some (.nst sz (slots.set bw (.bq rows)))),(id2,none)] hf j=some c->(j=id/\c=.nst sz (slots.set bw (.bq rows)))\/(j≠id/\j≠id2/\hf j=some c):=by
  intro j c hj;rw[bV]at hj;by_cases e:id=j
  .rw [if_pos e]at hj;exact .inl ⟨e.symm,(aa hj).symm⟩
  .rw [if_neg e,bV]at hj;by_cases e2:id2=j
   .rw [if_pos e2]at hj;cases hj
   .rw [if_neg e2,fW]at hj;exact .inr ⟨fun q=>e q.symm,fun q=>e2 q.symm,hj⟩
 have was:∀j c,bn [(id,some (.nst sz (slots.set bw (.bq rows)))),(id2,none)] hf j=some c->cL c=true->j≠id2/\∃c',hf j=some c'/\cL c'=true:=by
  intro j c hj hc;rcases hold j c hj with⟨rfl,rfl⟩|⟨_,e,hj'⟩
  .exact ⟨hne.symm,_,ho,rfl⟩
  .exact ⟨e,c,hj',hc⟩
 cases hro with
 |@nst _ _ aL hsz hl hS hK hown hext hfit hr hv=>
  obtain⟨v,h1,hsl⟩:=hr bw _ hs;have hcell:w.cell? ⟨(φ id).cQ,(φ id).aN+bw,none⟩=some v:=(hown.cell _).trans h1
  obtain⟨hvb,hrw⟩:yG v=some (φ id2).cQ/\I3 S w sz rows v (φ id2).cQ:=by
   cases hsl with
   |ez hrc=>
    cases hro2 with
    |@aL _ _ ba hsz2 hl2 hS2 hK2 hown2 hext2 hfit2 hr2 hv2=>cases hrc with|@fK _ _ _ cap addr hk' hcap haddr hx hcc=>refine⟨rfl,addr,cap,ba,rfl,by rw[hl2];exact hsz2,hown2,hcap,by omega,?_⟩;have:=hr2.yy (addr:=addr) 0 rows.length (fun hlt=>by rw[haddr (by omega),hl2]);rw[hl2];simpa using this
  obtain⟨hS2,hK2,_⟩:=hro2.bq rfl
  have hpat2:∀j sz' sl' k x,bn [(id,some (.nst sz (slots.set bw (.bq rows)))),(id2,none)] hf j=some (.nst sz' sl')->tL w (φ j) sl' k x->(j=id/\k=bw/\x=(φ id2).cQ)\/∃uB,hf j=some (.nst sz' uB)/\tL w (φ j) uB k x:=by
   intro j sz' sl' k x hj hp;rcases hold j _ hj with⟨rfl,e⟩|⟨e1,e2,hj'⟩
   .cases e;obtain⟨rows',v',q1,q2,q3⟩:=hp;rcases uC q1 with⟨rfl,_,_⟩|⟨hk',q1'⟩
    .refine .inl ⟨rfl,rfl,?_⟩;rw[hcell]at q2;obtain rfl:=aa q2;rw[hvb]at q3;exact(aa q3).symm
    .exact .inr ⟨slots,ho,rows',v',q1',q2,q3⟩
   .exact .inr ⟨sl',hj',hp⟩
  refine h.vX (ia.refl _ _) (uO.refl _ _) h.vY h.sk h.oJ ?_ ?_ ?_
  .intro j c hj;rcases hold j c hj with⟨rfl,rfl⟩|⟨_,_,hj'⟩
   .refine .inr ⟨hk,.nst hsz hl hS hK hown hext (by rw[fh];exact hfit) (fun i s hi=>?_) (by rw[fh];exact hv)⟩;rcases uC hi with⟨rfl,rfl,_⟩|⟨_,hi'⟩
    .exact ⟨v,h1,.bq hrw hS2 hK2⟩
    .exact hr i s hi'
   .exact .inl ⟨hj',fun hown=>⟨rfl,((h.jy j c hj').2.bq hown).1⟩,h.Fe hj' fun _ _=>rfl⟩
  .intro i j a c ha hc hoa hoc hij;obtain⟨_,a',q1,q2⟩:=was i a ha hoa;obtain⟨_,c',q3,q4⟩:=was j c hc hoc;exact h.pL i j a' c' q1 q3 q2 q4 hij
  .intro j sz' sl' k x hj hp;refine⟨fun i c hi hc=>?_,fun i sz3 sl3 k' hi hpi=>?_⟩
   .obtain ⟨hi2,c',q1,q2⟩:=was i c hi hc;rcases hpat2 j sz' sl' k x hj hp with⟨_,_,rfl⟩|⟨uB,q3,q4⟩
    .exact h.pL i id2 c' _ q1 h2 q2 rfl hi2
    .exact (h.ye j sz' uB k x q3 q4).1 i c' q1 q2
   .rcases hpat2 j sz' sl' k x hj hp with⟨e1,e2,e3⟩|⟨uB,q3,q4⟩<;>rcases hpat2 i sz3 sl3 k' x hi hpi with⟨e4,e5,e6⟩|⟨sl4,q5,q6⟩
    .exact ⟨e4.trans e1.symm,e5.trans e2.symm⟩
    .exact absurd e3.symm ((h.ye i sz3 sl4 k' x q5 q6).1 id2 _ h2 rfl)
    .exact absurd e6.symm ((h.ye j sz' uB k x q3 q4).1 id2 _ h2 rfl)
    .exact (h.ye j sz' uB k x q3 q4).2 i sz3 sl4 k' q5 q6
theorem Inv.UO{w':World}(h:Inv S K w0 Kn φ hf w){id sz bw:Nat}{slots:List lU}{s':lU}{v:Value}{aL arr':Array Value}(ho:hf id=some (.nst sz slots))(hown:pP w (φ id).cQ aL)(hown':pP w' (φ id).cQ arr')(hsize':arr'.size=aL.size)
  (hother:∀b,b≠(φ id).cQ->w'.heap[b]?=w.heap[b]?) (hsize:w'.heap.size=w.heap.size) (hfrz:∀a,w'.frozen? a=w.frozen? a) (hio:Io w w')
  (hget:∀i,i≠(φ id).aN+bw->arr'[i]?=aL[i]?) (hv:bw<slots.length->arr'[(φ id).aN+bw]?=some v) (hslot:ia S w S w'->AU S K w' Kn φ sz s' v) (hs':∀rows,s'≠.bq rows):
  ia S w S w'/\Inv S K w0 Kn φ (bn [(id,some (.nst sz (slots.set bw s')))] hf) w':=by
 obtain⟨hk,h0⟩:=h.jy id _ ho;obtain⟨hS,hK,hlt⟩:=h0.bq rfl;have hs:ia S w S w':=⟨fun _ h=>h,fun b hb=>hother b (fun e=>hS (e▸hb))⟩
 have hold:∀j c,bn [(id,some (.nst sz (slots.set bw s')))] hf j=some c->(j=id/\c=.nst sz (slots.set bw s'))\/(j≠id/\hf j=some c):=by
  intro j c hj;rw[bV]at hj;by_cases e:id=j
  .rw [if_pos e]at hj;exact .inl ⟨e.symm,(aa hj).symm⟩
  .rw [if_neg e,fW]at hj;exact .inr ⟨fun q=>e q.symm,hj⟩
 have was:∀j c,bn [(id,some (.nst sz (slots.set bw s')))] hf j=some c->cL c=true->∃c',hf j=some c'/\cL c'=true:=by
  intro j c hj hc;rcases hold j c hj with⟨rfl,rfl⟩|⟨_,hj'⟩
  .exact ⟨_,ho,rfl⟩
  .exact ⟨c,hj',hc⟩
 have hpat2:∀j sz' sl' k x,bn [(id,some (.nst sz (slots.set bw s')))] hf j=some (.nst sz' sl')->tL w' (φ j) sl' k x->∃uB,hf j=some (.nst sz' uB)/\tL w (φ j) uB k x:=by
  intro j sz' sl' k x hj hp;rcases hold j _ hj with⟨rfl,e⟩|⟨e1,hj'⟩
  .cases e;obtain⟨rows',v',q1,q2,q3⟩:=hp;rcases uC q1 with⟨_,e,_⟩|⟨hk',q1'⟩
   .exact absurd e.symm (hs' rows')
   .refine ⟨slots,ho,rows',v',q1',?_,q3⟩;rw[hown.cell,<-hget _ (by omega),<-hown'.cell];exact q2
  .exact ⟨sl',hj',(tL.same (hother _ (h.pL j id _ _ hj' ho rfl rfl e1))).1 hp⟩
 have hkeep:∀j sz' sl' k x,hf j=some (.nst sz' sl')->tL w (φ j) sl' k x->w'.heap[x]?=w.heap[x]?/\¬S x:=fun j sz' sl' k x hj hp=>⟨hother x fun e=>(h.ye j sz' sl' k x hj hp).1 id _ ho rfl e.symm,(h.JB hj hp).1⟩;refine⟨hs,h.vX hs (uO.refl _ _) (fun b hb=>hsize▸h.vY b hb) h.sk ?_ ?_ ?_ ?_⟩
 .exact ⟨h.oJ.G8,fun b hb=>(hother b (fun e=>hK (e▸hb))).trans (h.oJ.nz b hb),hsize▸h.oJ.grow,fun a ha=>(hfrz a).trans (h.oJ.B5 a ha),h.oJ.zV hother (fun a ha=>⟨arr',hown',by obtain⟨t1,e1⟩:=ha;obtain⟨t2,e2⟩:=hown;rw[e1]at e2;rw[hsize'];cases e2;rfl⟩),h.oJ.io.trans hio⟩
 .intro j c hj;rcases hold j c hj with⟨rfl,rfl⟩|⟨e1,hj'⟩
  .refine .inr ⟨hk,?_⟩;cases h0 with
   |@nst _ _ arr0 hsz hl hS hK hown0 hext hfit hr hv0=>
    have ea:arr0=aL:=by obtain⟨t1,e1⟩:=hown0;obtain⟨t2,e2⟩:=hown;rw[e1]at e2;cases e2;rfl
    subst ea;refine .nst hsz hl hS hK hown' (hsize'.trans hext) (by rw[fh];exact hfit) (fun i s hi=>?_) (by rw[fh];exact hv0);rcases uC hi with⟨rfl,rfl,hlt⟩|⟨hne,hi'⟩
    .exact ⟨v,hv hlt,hslot hs⟩
    .obtain ⟨v',q1,q2⟩:=hr i s hi';refine⟨v',(hget _ (by omega)).trans q1,?_⟩;cases q2 with|nil=>exact .nil|@bq rows _ b q3 q4 q5=>exact .bq (q3.mono hs (hkeep j sz slots i b ho ⟨rows,v',hi',(hown.cell _).trans q1,q3.cQ⟩).1) q4 q5|ez q3=>exact .ez (q3.mono hs (uO.refl _ _))
  .exact .inl ⟨hj',fun hox=>⟨hother _ (h.pL j id c _ hj' ho hox rfl e1),((h.jy j c hj').2.bq hox).1⟩,fun sz' sl' eo k x hp=>by subst eo;exact hkeep j sz' sl' k x hj' hp⟩
 .intro i j a c ha hc hoa hoc hij;obtain⟨a',q1,q2⟩:=was i a ha hoa;obtain⟨c',q3,q4⟩:=was j c hc hoc;exact h.pL i j a' c' q1 q3 q2 q4 hij
 .intro j sz' sl' k x hj hp;obtain⟨uB,q1,q2⟩:=hpat2 j sz' sl' k x hj hp;obtain⟨r1,r2⟩:=h.ye j sz' uB k x q1 q2;refine⟨fun i c hi hc=>?_,fun i sz3 sl3 k' hi hpi=>?_⟩
  .obtain ⟨c',q3,q4⟩:=was i c hi hc;exact r1 i c' q3 q4
  .obtain ⟨sl4,q5,q6⟩:=hpat2 i sz3 sl3 k' x hi hpi;exact r2 i sz3 sl4 k' q5 q6
end
end Go.Ev
