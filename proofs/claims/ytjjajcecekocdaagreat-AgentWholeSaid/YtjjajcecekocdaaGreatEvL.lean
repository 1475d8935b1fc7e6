/- The model's operations, one by one, against the abstract machine's. Conditions: the relation of XEvC. -/
import Derived.Test.YtjjajcecekocdaaGreatEvF
open Array renaming getElem?_append_left->dO,getElem?_eq_some_iff->bk,getElem?_toList->bc,range->kK,size_append->iI
open Bool renaming false_eq_true->aH,not_false->fh
open Go renaming Call->n_
open List renaming all_eq_true->a_,getElem?_cons_succ->dw,getElem?_cons_zero->cn,getElem?_drop->bS,getElem?_eq_getElem->aC,getElem?_eq_some_iff->ap,getElem?_map->aQ,getElem?_replicate->dW,getElem?_set_self->kS,getElem?_take->fc,getElem?_toArray->cf,length->nq,length_nil->abI,length_replicate->dT,map_cons->aq,map_nil->aW,map_toArray->dK,mem_of_getElem?->bp,mem_singleton->au,range->fB,replicate->aA,size_toArray->iF
open Nat renaming add_assoc->dz,add_mul->b_,add_zero->eL,le_refl->am,le_succ->bI,lt_succ_self->aY,mul_le_mul_right->aL,sub_self->nW,succ_mul->eB,succ_pos->dv,zero_add->bG
open Option renaming getD_some->bF,map_eq_some_iff->aP,map_some->bK
open Option.some renaming inj->aa
open Prod.mk renaming inj->af
namespace Go.Ev
abbrev ww:=FuncId->Bool×List Bool
def rD(P:Program)(fields:Array Field):List Nat->Option (List (Nat×Nat))
 |[]=>some []
 |i::r=>
  match fields[i]?,rD P fields r with
  |some f,some l=>match fS P f.type with|some n=>some ((f.offset,n)::l)|none=>none
  |_,_=>none
def oS:Nat->Value
 |0=>.slice none 0 0
 |1=>.pointer none
 |_=>.nilFunc
def w6:Nat->Operand->Bool
 |0,.const (.slice none 0 0)|1,.const (.pointer none)|2,.const .nilFunc=>true
 |_,_=>false
def QU(P:Program)(g:TypeId->Option (List Kd)):List Field->Nat->Option (List Kd)
 |[],_=>some []
 |f::r,o=>
  if f.offset=o/\f.name≠ "_" then
   match g f.type with|some ks=>if fS P f.type=some ks.length then(match QU P g r (o+ks.length)with|some l=>some (ks++l)|none=>none)else none|none=>none
  else none
def Am(P:Program):Nat->TypeId->Option (List Kd)
 |0,_=>none
 |d+1,t=>
  match P.underlying t with
  |some .bool=>if fS P t=some 1 then some [.b]else none
  |some (.int q)=>if fS P t=some 1 then some [.i q]else none
  |some .string=>if fS P t=some 1 then some [.s]else none
  |some (.array n e)=>match Am P d e with|some ks=>if fS P e=some ks.length/\fS P t=some (n*ks.length)then some (aA n ks).flatten else none|none=>none
  |some (.struct fs)=>match QU P (Am P d) fs.toList 0 with|some ks=>if P.stoodInHeld t=false/\fS P t=some ks.length then some ks else none|none=>none
  |_=>none
def Fe(P:Program)(t:TypeId):Option Bool:=((P.info? t).bind (·.zero)).map fun|.agg _=>true|_=>false
def rI(P:Program)(k e:TypeId):Option (Bool×List Kd×Bool×List Value):=match ge P k,Am P 8 k,ge P e,jU P e with|some ka,some ks,some va,some z=>if Fe P e=some va then some (ka,ks,va,z)else none|_,_,_,_=>none
def qS(kind:Nat)(neg:Bool)(x y:Operand):K×List Operand:=if w6 kind y then(.rS kind neg,[x])else if w6 kind x then(.rS kind neg,[y])else(.gk,[])
def H5(P:Program)(op:BinOp)(t:TypeId)(x y:Operand):K×List Operand:=
 match op with
 |.eql|.neq=>
  match P.underlying t with
  |some .bool=>(.vz (op==.neq),[x,y])
  |some (.int _)|some (.float _)|some .string=>(.th op,[x,y])
  |some (.slice _)=>qS 0 (op==.neq) x y
  |some (.pointer _)=>qS 1 (op==.neq) x y
  |some (.func _ _ _)=>qS 2 (op==.neq) x y
  |some (.struct _)|some (.array _ _)=>match Am P 8 t with|some ks=>if P.eqGuardType P.depth t=false then(.zJ (op==.neq) ks,[x,y])else(.gk,[])|none=>(.gk,[])
  |_=>(.gk,[])
 |op=>(.th op,[x,y])
def pF(P:Program)(e:TypeId):Bool:=match P.info? e with|some i=>decide (0<i.bytes)&&decide (i.bytes<=16384)|none=>false
def t_(P:Program)(b:Builtin)(args:List Operand)(ts:List TypeId):K×List Operand:=
 match b,ts with
 |.len,[t]=>match P.underlying t with|some .string=>(.len true,args)|some (.slice _)=>(.len false,args)|_=>(.gk,[])
 |.max,_=>(.sC true,args)
 |.min,_=>(.sC false,args)
 |.append,[s,x]=>
  match P.underlying s,P.underlying x with
  |some (.slice e),some (.slice _)=>match fS P e,jU P e with|some (n+1),some z=>if pF P e=true/\z.length=n+1 then(.append (n+1),args)else(.gk,[])|_,_=>(.gk,[])
  |some (.slice e),some (.int _)=>match fS P e,jU P e with|some (n+1),some z=>if pF P e=true/\z.length=n+1 then(.SX z,args)else(.gk,[])|_,_=>(.gk,[])
  |_,_=>(.gk,[])
 |.cap,[t]=>match P.underlying t with|some (.slice _)=>(.GJ,args)|_=>(.gk,[])
 |.copy,[d,_]=>
  match P.underlying d with
  |some (.slice e)=>match fS P e with|some (n+1)=>(.copy (n+1),args)|_=>(.gk,[])
  |_=>(.gk,[])
 |.delete,[m,_]=>
  match P.underlying m with
  |some (.map kt e)=>match rI P kt e with|some (ka,ks,_,_)=>(.tU ka ks,args)|none=>(.gk,[])
  |_=>(.gk,[])
 |.clear,[s]=>
  match P.underlying s with
  |some (.slice e)=>match fS P e,jU P e with|some (n+1),some z=>if z.length=n+1 then(.clear z,args)else(.gk,[])|_,_=>(.gk,[])
  |_=>(.gk,[])
 |_,_=>(.gk,[])
def LP(P:Program)(f:FuncId):Bool:=
 match P.funcs[f]?with
 |some fn=>
  !(fn.name== "runtime.NumGoroutine")&&fn.body.isNone&&(Extern.findNext fn).isNone&&(Extern.allGenericRows.lookup fn.name).isNone&&(Extern.allTypedRows.lookup fn.name).isNone&&(Extern.allRows.lookup fn.name).isNone&&fn.origin== "slices.overlaps" &&
  (match fn.params.toList with
   |t::_=>(match P.underlying t with|some (.slice e)=>(match fS P e with|some (_+1)=>true|_=>false)|_=>false)
   |[]=>false)
 |none=>false
def Gl:List Value->Bool
 |[.slice none 0 0]=>true
 |_=>false
def Qi(P:Program)(bz:ww)(e:TypeId)(z:List Value):Option Nat:=if(bz 1000000000).1=true/\Gl z=true then(match P.underlying e with|some (.slice ee)=>(match fS P ee with|some (m+1)=>some (m+1)|_=>none)|_=>none)else none
def Ec(P:Program)(t:TypeId):Bool:=match P.underlying t with|some (.slice _)=>true|_=>false
def xL(P:Program)(bz:ww):Op->K×List Operand
 |.move x|.assign x=>(.mv,[x])
 |.pick c a b=>(.pick,[c,a,b])
 |.alloc e=>match jU P e with|some z=>(.alloc z,[])|none=>(.gk,[])
 |.box _ x=>(.box,[x])
 |.build t parts=>
  match P.underlying t,jU P t with
  |some (.struct fields),some z=>match rD P fields (parts.toList.map (·.1))with|some pl=>if fields.toList.all (fun f=>(fS P f.type).isSome)then(.build z pl,parts.toList.map (·.2))else(.gk,[])|none=>(.gk,[])
  |some (.array _ e),some z=>match fS P e with|some n=>(.build z (parts.toList.map fun p=>(p.1*n,n)),parts.toList.map (·.2))|none=>(.gk,[])
  |_,_=>(.gk,[])
 |.buildSlice t len parts=>
  match P.underlying t with
  |some (.slice e)=>match fS P e,jU P e with|some (n+1),some z=>if len*(n+1)<=4096/\z.length=n+1/\(bz 1000000002).1=true then(.SL (n+1) len ((fB (len*(n+1))).map fun i=>z.getD (i %(n+1)) undef) (parts.toList.map (·.1)),parts.toList.map (·.2))else if len*(n+1)<=4096/\z.length=n+1 then(.buildSlice (n+1) len ((fB (len*(n+1))).map fun i=>z.getD (i %(n+1)) undef) (parts.toList.map (·.1)),parts.toList.map (·.2))else(.gk,[])|_,_=>(.gk,[])
  |_=>(.gk,[])
 |.load t a=>match ge P t,fS P t with|some g,some n=>(if(bz 1000000000).1=true/\Ec P t=true/\g=false/\n=1 then .uY else .load g n,[a])|_,_=>(.gk,[])
 |.store t a x=>match fS P t with|some n=>(.store n,[a,x])|none=>(.gk,[])
 |.nilCheck x=>(.nilCheck,[x])
 |.binOp op t x y _=>H5 P op t x y
 |.unOp op _ x=>(.un op,[x])
 |.convert s d x=>match P.underlying s,P.underlying d with|some (.int _),some (.int k)=>(.wl k,[x])|some (.int _),some (.float k)=>(.EL k,[x])|some .string,some .string=>(.t8,[x])|_,_=>(.gk,[])
 |.makeFunc (.func f) first captured=>if first.isEmpty then(.Jb f,captured.toList)else(.gk,[])
 |.makeSlice t l c=>
  match P.underlying t with
  |some (.slice e)=>match fS P e,jU P e with|some (n+1),some z=>if z.length=n+1/\pF P e=true then(match Qi P bz e z with|some m=>.A9 m|none=>.makeSlice z,[l,c])else(.gk,[])|_,_=>(.gk,[])
  |_=>(.gk,[])
 |.slice t x lo hi none=>
  match P.underlying t with
  |some .string=>(.slice true 1 lo.isSome hi.isSome,x::lo.toList++hi.toList)
  |some (.slice e)=>match fS P e with|some n=>(.slice false n lo.isSome hi.isSome,x::lo.toList++hi.toList)|none=>(.gk,[])
  |_=>(.gk,[])
 |.slice t x (some l) (some u) (some m)=>
  match P.underlying t with
  |some (.slice e)=>match fS P e with|some n=>(.wK n,[x,l,u,m])|none=>(.gk,[])
  |_=>(.gk,[])
 |.fieldAddr s x f=>
  match P.underlying s with
  |some (.struct fields)=>match fields[f]?with|some fl=>(match fS P fl.type with|some (m+1)=>(.fieldAddr fl.offset (m+1),[x])|_=>(.gk,[]))|none=>(.gk,[])
  |_=>(.gk,[])
 |.field s x f=>
  match P.underlying s with
  |some (.struct fields)=>match fields[f]?with|some fl=>(match ge P fl.type,fS P fl.type with|some g,some n=>(.field g fl.offset n,[x])|_,_=>(.gk,[]))|none=>(.gk,[])
  |_=>(.gk,[])
 |.indexAddr t x i=>
  match P.underlying t with
  |some (.slice e)=>match fS P e with|some n=>if(bz 1000000002).1=true then(.YE n,[x,i])else(.indexAddr none n,[x,i])|none=>(.gk,[])
  |some (.array len e)=>match fS P e with|some n=>(.indexAddr (some len) n,[x,i])|none=>(.gk,[])
  |_=>(.gk,[])
 |.index t x i=>
  match P.underlying t with
  |some .string=>(.p9,[x,i])
  |some (.array len e)=>match ge P e,fS P e with|some g,some n=>(.index g len n,[x,i])|_,_=>(.gk,[])
  |_=>(.gk,[])
 |.extract x i=>(.extract i,[x])
 |.makeMap t none=>
  match P.underlying t with
  |some (.map k e)=>match ge P k,ge P e with|some ka,some va=>(.makeMap ka va,[])|_,_=>(.gk,[])
  |_=>(.gk,[])
 |.lookup t x ix ok=>
  match P.underlying t with
  |some (.map k e)=>match rI P k e with|some (ka,ks,va,z)=>(.lookup ka ks va z ok,[x,ix])|none=>(.gk,[])
  |_=>(.gk,[])
 |.mapEntry t m k=>
  match P.underlying t with
  |some (.map kt e)=>match rI P kt e with|some (ka,ks,va,z)=>(.mapEntry ka ks va z,[m,k])|none=>(.gk,[])
  |_=>(.gk,[])
 |.mapUpdate t m k x=>
  match P.underlying t with
  |some (.map kt e)=>match rI P kt e with|some (ka,ks,va,z)=>(.tT ka ks va z.length,[m,k,x])|none=>(.gk,[])
  |_=>(.gk,[])
 |.entryStore t m s x=>
  match P.underlying t with
  |some (.map kt e)=>match rI P kt e with|some (_,_,va,z)=>(.entryStore va z.length,[m,s,x])|none=>(.gk,[])
  |_=>(.gk,[])
 |.call c=>match c.callee with|.builtin b=>t_ P b c.args.toList c.argTypes.toList|.value (.func f)=>if(bz f).2.length=9 then(if LP P f=true then(.Q9,c.args.toList)else(.gk,[]))else(.call (bz f).1 (bz f).2,.func f::c.args.toList)|.value f=>(.call false [],f::c.args.toList)|.invoke _ _=>(.gk,[])
 |_=>(.gk,[])
section
variable{P:Program}{S K:Nat->Prop}{w0 w:World}{Kn:Nat->Prop}{φ:Nat->gV}{hf:Nat->Option Ob}
def kZ(S K:Nat->Prop)(w0 w:World)(Kn:Nat->Prop)(φ:Nat->gV)(hf:Nat->Option Ob)(nxt n':Nat)(v:TV)(u:eS)(val:Value)(w':World):Prop:=nxt<=n'/\∃S' φ',gZ S w S' w'/\Ren Kn φ (o4 Kn nxt n') φ'/\fX S' w' (o4 Kn nxt n') φ' v val/\Inv S' K w0 (o4 Kn nxt n') φ' (bq u hf) w'
theorem fX.kn{Kn':Nat->Prop}{c:TV}{v:Value}(h:fX S w Kn φ c v)(hs:∀i,Kn i->Kn' i):fX S w Kn' φ c v:=h.mono (gZ.refl _ _) ⟨hs,fun _ _=>rfl⟩
theorem kZ.pure{n:Nat}{v:TV}{val:Value}(hI:Inv S K w0 Kn φ hf w)(h:fX S w Kn φ v val):kZ S K w0 w Kn φ hf n n v [] val w:=⟨am _,S,φ,gZ.refl _ _,qz _ _,h.kn fun _ hi=>.inl hi,hI.kn fun _ hi=>.inl hi⟩
def dH(P:Program)(o:Oper)(ρ:Operand->Value)(S K:Nat->Prop)(w0 w:World)(Kn:Nat->Prop)(φ:Nat->gV)(hf:Nat->Option Ob)(nxt n':Nat)(v:TV)(u:eS):Prop:=∃nx val w',(execOp ρ o).run P w=.ok nx w'/\(nx=.value val\/(nx=.skip/\val=undef))/\kZ S K w0 w Kn φ hf nxt n' v u val w'
theorem ME{v:Value}{tv:TV}(h:cv v=some tv):fX S w Kn φ tv v:=by
 unfold cv at h;split at h
 .rename_i cs;split at h
  .rename_i hp;obtain rfl:=aa h;refine .agg (by simp) fun i x hi=>?_;rw[aQ]at hi;obtain⟨y,hy,rfl⟩:=aP.1 hi;have e:cs.getD i undef=y:=by simp_all
   rw[e];exact .d (.lit (a_.1 hp y (bp hy)))
  .simp at h
 .split at h
  .rename_i hp;obtain rfl:=aa h;exact .c (.d (.lit hp))
  .simp at h
def iL.ok(S:Nat->Prop)(w:World)(Kn:Nat->Prop)(φ:Nat->gV)(e:iL)(tmps:Array Value):Prop:=∀t x,cm e t=some x->fX S w Kn φ x (tmps.getD t undef)
theorem uy{e:iL}{a:Act}(hg:CW S w)(hE:iL.ok S w Kn φ e a.tmps){x:Operand}{tv:TV}(h:ke e x=some tv):fX S w Kn φ tv (a.eval x):=by
 cases x with
 |tmp t=>exact hE t tv h
 |const v=>exact ME h
 |global g=>obtain⟨d,hd,rfl⟩:=aP.1 (show(Vv g).map (fun d=>TV.c (.d d))=some tv from h);exact .c (.d (hg g d hd))
 |func f=>
  obtain rfl:TV.c _=tv:=by simpa[ke]using h
  exact .c (.d (.fn rfl fun j x hj=>by simp at hj))
inductive s_:Value->Value->Prop
 |lit {v:Value} (h:ft v=true):s_ v v
 |nan {k:FloatKind} {n m:Nat} (hn:xT k n) (hm:xT k m):s_ (.float k n) (.float k m)
 |ex {k:FloatKind} {n:Nat}:s_ (.complex k n 0) (.float k n)
theorem fX.I4{v val:Value}(h:fX S w Kn φ (.c (.d (.lit v))) val):s_ v val:=by
 cases h with
 |c h=>cases h with
  |d h=>cases h with|lit h=>exact .lit h|nan hn hm=>exact .nan hn hm|ex=>exact .ex
def RU:Value->Bool
 |.float _ _|.complex _ _ _=>true
 |_=>false
theorem fX.lit{v val:Value}(h:fX S w Kn φ (.c (.d (.lit v))) val)(hf:RU v=false:=by rfl):val=v/\ft v=true:=by cases h.I4 with|lit hp=>exact⟨rfl,hp⟩|nan=>cases hf|ex=>cases hf
theorem fX.F8{v val:Value}(h:s_ v val):fX S w Kn φ (lv v) val:=by cases h with|lit h=>exact .c (.d (.lit h))|nan hn hm=>exact .c (.d (.nan hn hm))|ex=>exact .c (.d .ex)
theorem xT.eq{k:FloatKind}{n:Nat}(h:xT k n):∃s t,k.format.read n=.nan s t:=by
 unfold xT Ieee.Datum.isNaN at h
 grind
theorem HC{k:FloatKind}{n:Nat}(h:xT k n)(y:Nat):k.format.add n y=none/\k.format.sub n y=none/\k.format.mul n y=none/\k.format.div n y=none/\k.format.order n y=none:=by obtain⟨s,t,h⟩:=h.eq;simp[Ieee.Format.add,Ieee.Format.sub,Ieee.Format.mul,Ieee.Format.div,Ieee.Format.order,h,Ieee.Datum.sum,Ieee.Datum.product,Ieee.Datum.quotient,Ieee.Datum.order]
theorem HB{k:FloatKind}{n:Nat}(h:xT k n)(y:Nat):k.format.add y n=none/\k.format.sub y n=none/\k.format.mul y n=none/\k.format.div y n=none/\k.format.order y n=none:=by obtain⟨s,t,h⟩:=h.eq;cases hy:k.format.read y<;>simp[Ieee.Format.add,Ieee.Format.sub,Ieee.Format.mul,Ieee.Format.div,Ieee.Format.order,h,hy,Ieee.Datum.opposite,Ieee.Datum.sum,Ieee.Datum.product,Ieee.Datum.quotient,Ieee.Datum.order]
theorem M5{op:BinOp}{k:FloatKind}{n m:Nat}(hn:xT k n)(hm:xT k m)(y:Value):oG op (.float k n) y=oG op (.float k m) y:=by
 cases y with
 |float k' y=>
  unfold oG pf B5;obtain⟨a1,a2,a3,a4,a5⟩:=HC hn y;obtain⟨b1,b2,b3,b4,b5⟩:=HC hm y
  grind
 |_=>rfl
theorem M4{op:BinOp}{k:FloatKind}{n m:Nat}(hn:xT k n)(hm:xT k m)(y:Value):oG op y (.float k n)=oG op y (.float k m):=by
 cases y with
 |float k' y=>
  by_cases hk:k'=k
  .unfold oG pf B5;obtain⟨a1,a2,a3,a4,a5⟩:=HB hn y;obtain⟨b1,b2,b3,b4,b5⟩:=HB hm y;simp_all
  .unfold oG pf B5;simp[if_neg hk]
 |_=>rfl
theorem GQ{op:BinOp}{a b va vb v:Value}(ha:s_ a va)(hb:s_ b vb)(h:oG op a b=some v):oG op va vb=some v:=by
 cases ha with
 |ex=>cases hb<;>(cases h)
 |lit _=>cases hb with|lit _=>exact h|nan hn hm=>rw[<-M4 hn hm];exact h|ex=>cases a<;>cases h
 |nan hn hm=>cases hb with|lit _=>rw[<-M5 hn hm];exact h|nan hn' hm'=>rw[<-M5 hn hm,<-M4 hn' hm'];exact h|ex=>cases h
theorem HM(k:FloatKind)(x y t:Nat):xT k ((Question.nanBits k x y).cut t):=by
 cases k with
 |f32=>
  show((Ieee.Format.read Ieee.single) _).isNaN=true;have h1:((t %2)*2^31+0x7f800000+1+(t/2) %(2^23-1)) %2147483648=0x7f800001+(t/2) %8388607:=by omega
  show(Ieee.Datum.isNaN (if((t %2)*2^31+0x7f800000+1+(t/2) %(2^23-1)) %2147483648<8388608 then _ else if((t %2)*2^31+0x7f800000+1+(t/2) %(2^23-1)) %2147483648<2139095040 then _ else if((t %2)*2^31+0x7f800000+1+(t/2) %(2^23-1)) %2147483648=2139095040 then _ else _))=true;rw[if_neg (by omega),if_neg (by omega),if_neg (by omega)];rfl
 |f64=>
  show((Ieee.Format.read Ieee.double) _).isNaN=true;have h1:((t %2)*2^63+0x7ff0000000000000+1+(t/2) %(2^52-1)) %9223372036854775808=0x7ff0000000000001+(t/2) %4503599627370495:=by omega
  show(Ieee.Datum.isNaN (if((t %2)*2^63+0x7ff0000000000000+1+(t/2) %(2^52-1)) %9223372036854775808<4503599627370496 then _ else if((t %2)*2^63+0x7ff0000000000000+1+(t/2) %(2^52-1)) %9223372036854775808<9218868437227405312 then _ else if((t %2)*2^63+0x7ff0000000000000+1+(t/2) %(2^52-1)) %9223372036854775808=9218868437227405312 then _ else _))=true;rw[if_neg (by omega),if_neg (by omega),if_neg (by omega)];rfl
theorem Ed(k:FloatKind):xT k (uO k):=by cases k<;>(unfold xT;decide)
theorem fX.rj{v:Value}(h:ft v=true):fX S w Kn φ (lv v) v:=.c (.d (.lit h))
theorem KL{op:BinOp}{t:TypeId}{x y v:Value}(h:pf op x y=some v):(binOp op t x y).run P w=.ok v w/\ft v=true/\(∀a b,(eqGuard op t a b x y).run P w=.ok () w):=by
 have hg:∀a b,(match x,y with|.nilIface,.nilIface=>False|.agg _,.agg _=>False|_,_=>True)->(eqGuard op t a b x y).run P w=.ok () w:=by intro a b hxy;unfold eqGuard;cases op<;>simp<;>(cases x<;>cases y<;>simp_all)
 unfold pf at h;split at h
 .rename_i k a k' b;refine(fun⟨h1,h2⟩=>⟨h1,h2,fun a b=>hg a b trivial⟩:(_/\_)->_) ?_;split at h
  .split at h
   .simp at h
   .rename_i hb;obtain rfl:=aa h;simp[binOp,Op.shift,hb,ft]
  .split at h
   .simp at h
   .rename_i hb;obtain rfl:=aa h;simp[binOp,Op.shift,hb,ft]
  .rename_i op hshl hshr;split at h
   .rename_i hk;subst hk
    split at h<;>first
     |(simp at h;done)
     |(split at h
       .simp at h
       .rename_i hb;obtain rfl:=aa h;simp[binOp,Op.intDiv,hb,ft])
     |(obtain rfl:=aa h
       simp[binOp,Op.intArith,Op.intBits,Op.intCmp,ft])
   .simp at h
 .rename_i k a k' b;refine(fun⟨h1,h2⟩=>⟨h1,h2,fun a b=>hg a b trivial⟩:(_/\_)->_) ?_;split at h
  .rename_i hk;subst hk
   split at h<;>first
    |(simp at h;done)
    |(obtain⟨r,hr,rfl⟩:=aP.1 h
      simp[binOp,Op.floatArith,hr,ft])
    |(obtain rfl:=aa h
      simp[binOp,Op.floatCmp,ft])
  .simp at h
 .rename_i x y;refine(fun⟨h1,h2⟩=>⟨h1,h2,fun a b=>hg a b trivial⟩:(_/\_)->_) ?_
  split at h<;>first
   |(simp at h;done)
   |(split at h
     .simp at h
     .rename_i hb;obtain rfl:=aa h;refine⟨?_,rfl⟩;simp only[binOp,Op.stringOp,if_neg hb,Sem.run_pure])
   |(obtain rfl:=aa h
     simp[binOp,Op.stringOp,ft])
 .simp at h
theorem KM{op:BinOp}{t:TypeId}{x y v:Value}(h:oG op x y=some v):∃v' n,(binOp op t x y).run P w=.ok v' {w with drawn:=n}/\w.drawn<=n/\s_ v v'/\(∀a b,(eqGuard op t a b x y).run P w=.ok () w):=by
 unfold oG at h;split at h
 .rename_i z hz;obtain rfl:=aa h;obtain⟨h1,h2,h3⟩:=KL (P:=P) (w:=w) (t:=t) hz;exact⟨_,w.drawn,h1,am _,.lit h2,h3⟩
 .rename_i hz;unfold B5 at h;split at h
  .rename_i k a k' b;split at h
   .rename_i hk;subst hk
    have key:∀op',(op'=.add\/op'=.sub\/op'=.mul\/op'=.quo)->op=op'->(Op.floatArith op k a b=(do pure (.float k (<-choose (.nanBits k a b)))))->some (Value.float k (uO k))=some v->
      ∃v' n,(binOp op t (.float k a) (.float k b)).run P w=.ok v' {w with drawn:=n}/\w.drawn<=n/\s_ v v'/\(∀x y,(eqGuard op t x y (.float k a) (.float k b)).run P w=.ok () w):=by
     intro op' ho he hf hv;obtain rfl:=aa hv;refine⟨.float k ((Question.nanBits k a b).cut (w.tape w.drawn (.nanBits k a b))),w.drawn+1,?_,bI _,.nan (Ed k) (HM _ _ _ _),?_⟩
     .have e:binOp op t (.float k a) (.float k b)=Op.floatArith op k a b:=by subst he;rcases ho with rfl|rfl|rfl|rfl<;>simp[binOp]
      rw[e,hf];simp[Question.forced]
     .subst he;rcases ho with rfl|rfl|rfl|rfl<;>simp[eqGuard]
    split at h
    .split at h
     .rename_i e;exact key .add (by simp) rfl (by unfold Op.floatArith;simp[e]) h
     .cases h
    .split at h
     .rename_i e;exact key .sub (by simp) rfl (by unfold Op.floatArith;simp[e]) h
     .cases h
    .split at h
     .rename_i e;exact key .mul (by simp) rfl (by unfold Op.floatArith;simp[e]) h
     .cases h
    .split at h
     .rename_i e;exact key .quo (by simp) rfl (by unfold Op.floatArith;simp[e]) h
     .cases h
    .cases h
   .cases h
  .cases h
theorem Hj{op:UnOp}{x v:Value}(h:QS op x=some v):(Op.unary op x).run P w=.ok v w/\ft v=true:=by
 unfold QS at h;split at h
 .split at h
  .obtain rfl:=aa h;simp[Op.unary,ft]
  .simp at h
 .split at h
  .obtain rfl:=aa h;simp[Op.unary,Op.intArith,ft]
  .obtain rfl:=aa h;simp[Op.unary,Op.intBits,ft]
  .simp at h
 .split at h
  .obtain rfl:=aa h;simp[Op.unary,ft]
  .simp at h
 .simp at h
end
section
variable{P:Program}{S K:Nat->Prop}{w0 w:World}{Kn:Nat->Prop}{φ:Nat->gV}{H:bC}{e:iL}{ρ:Operand->Value}{o:Oper}{call:Call}
 {nxt n':Nat} {v:TV} {u:eS} {az:List Nat}
theorem oU(j:Nat):(Kn j\/j=nxt)<->o4 Kn nxt (nxt+1) j:=by unfold o4;grind
theorem B4(hI:Inv S K w0 Kn φ (aw H) w):¬S w.heap.size/\¬K w.heap.size:=⟨fun h=>Nat.lt_irrefl _ (hI.vJ _ h),fun h=>by have:=hI.od.Gi _ h;have:=hI.od.tf;omega⟩
theorem kZ.box{hf:Nat->Option Ob}(hI:Inv S K w0 Kn φ (aw H) w)(hh:hf=aw H)(hn:¬Kn nxt){cs:List C}{aK:Array Value}(t:TypeId)(hlen:cs.length=aK.size)
  (h:∀(i:Nat)(x:C),cs[i]?=some x->RC S w Kn φ x (aK.getD i undef)):
  kZ S K w0 w Kn φ hf nxt (nxt+1) (.c (.op nxt 0)) [(nxt,some (.box cs))] (.pointer (some ⟨w.heap.size,0,none⟩)) {w with heap:=w.heap.push (.cells aK t)}:=by
 subst hh;obtain⟨nS,nK⟩:=B4 hI;have hs:=gZ.push hI.vJ (.cells aK t);refine⟨bI _,S,_,hs,⟨fun _ h=>.inl h,(jw _ hn).ez⟩,.c ?_,(hI.alloc hn aK t 1 0 _ (.box rfl nS nK (zj w aK t) hlen fun i x hi=>(h i x hi).mono hs (jw _ hn))).wd fun j=>oU j⟩;have:=RC.op (S:=S) (w:={w with heap:=w.heap.push (.cells aK t)}) (Kn:=o4 Kn nxt (nxt+1)) (φ:=ext φ nxt ⟨w.heap.size,0,1,aK.size,0⟩) (id:=nxt) (off:=0) (.inr (by omega));simpa[ext]using this
theorem kZ.aK{hf:Nat->Option Ob}(hI:Inv S K w0 Kn φ hf w)(hn:¬Kn nxt){sz cap:Nat}{rows:List (List D)}{aK:Array Value}(t:TypeId)(hsz:0<sz)
  (hcap:rows.length<=cap) (hfit:cap*sz<=aK.size) (h:di S w sz (fun i=>aK[i]?) 0 rows):
  kZ S K w0 w Kn φ hf nxt (nxt+1) (.c (.cE sz nxt 0 rows.length)) [(nxt,some (.aK sz rows))] (.slice (some ⟨w.heap.size,0,none⟩) rows.length cap) {w with heap:=w.heap.push (.cells aK t)}:=by
 have nS:=fun h=>Nat.lt_irrefl _ (hI.vJ _ h);have nK:¬K w.heap.size:=fun h=>by have:=hI.od.Gi _ h;have:=hI.od.tf;omega
 have hs:=gZ.push hI.vJ (.cells aK t);have hrl:rows.length*sz<=cap*sz:=aL _ hcap;refine⟨bI _,S,_,hs,⟨fun _ h=>.inl h,(jw _ hn).ez⟩,.c ?_,(hI.alloc hn aK t sz cap _ (.aK hsz rfl nS nK (zj w aK t) rfl (by simp;omega) (h.mono hs) hcap)).wd fun j=>oU j⟩;have e:ext φ nxt ⟨w.heap.size,0,sz,aK.size,cap⟩ nxt=⟨w.heap.size,0,sz,aK.size,cap⟩:=by simp[ext]
 have:=RC.cE (S:=S) (w:={w with heap:=w.heap.push (.cells aK t)}) (Kn:=o4 Kn nxt (nxt+1)) (φ:=ext φ nxt _) (id:=nxt) (off:=0) (addr:=0)
  (.inr (by omega)) hcap (by rw[e];simp) (by rw[e];simpa using hfit) (by rw[e];simp)
 rw[e]at this;simpa using this
theorem yT(t:TypeId)(val:Value):(newVar t val).run P w=.ok ⟨w.heap.size,0,none⟩ {w with heap:=w.heap.push (.cells val.cells t)}:=by simp[newVar,newRow]
theorem Lz{z:List Value}{aK:Array Value}(hz:aK.toList=z)(hp:∀x∈z,ft x=true):(fm z).length=aK.size/\∀(i:Nat)(x:C),(fm z)[i]?=some x->RC S w Kn φ x (aK.getD i undef):=by
 subst hz;refine⟨by simp[fm],fun i x hi=>?_⟩;simp only[fm,aQ]at hi;obtain⟨y,hy,rfl⟩:=aP.1 hi;have e:aK.getD i undef=y:=by simp_all
 rw[e];exact .d (.lit (hp y (bp hy)))
theorem Lg{t:TypeId}{z:List Value}(ho:o.op=.alloc t)(hz:jU P t=some z)(hI:Inv S K w0 Kn φ (aw H) w)(hn0:nxt<n'->¬Kn nxt)
  (h:cC call (.alloc z) [] H nxt=some (v,u,az,n')):dH P o ρ S K w0 w Kn φ (aw H) nxt n' v u:=by
 obtain⟨rfl,rfl,rfl,rfl⟩:TV.c (.op nxt 0)=v/\[(nxt,some (.box (fm z)))]=u/\[]=az/\nxt+1=n':=by simpa[cC]using h
 have hn:=hn0 (aY _);obtain⟨val,hv,hc,hp⟩:=oO hz w;obtain⟨h1,h2⟩:=Lz (S:=S) (w:=w) (Kn:=Kn) (φ:=φ) hc hp;refine⟨.value _,_,_,?_,.inl rfl,kZ.box hI rfl hn t h1 h2⟩;simp[execOp,ho,Instr.alloc,hv,yT]
theorem Rl{t:TypeId}{x:Operand}(ho:o.op=.box t x)(hI:Inv S K w0 Kn φ (aw H) w)(hn0:nxt<n'->¬Kn nxt){tv:Option TV}(hx:∀y,tv=some y->fX S w Kn φ y (ρ x))
  (h:cC call .box [tv] H nxt=some (v,u,az,n')):dH P o ρ S K w0 w Kn φ (aw H) nxt n' v u:=by
 cases tv with
 |none=>simp[cC]at h
 |some y=>
  simp[cC]at h;split at h
  .rename_i cs hcs;obtain⟨rfl,rfl,rfl,rfl⟩:TV.c _=v/\[(nxt,some _)]=u/\[]=az/\nxt+1=n':=by simpa using h
   have hn:=hn0 (aY _);obtain⟨h1,h2,_⟩:=(hx y rfl).cells hcs;refine⟨.value _,_,_,?_,.inl rfl,kZ.box hI rfl hn t h1 h2⟩;simp[execOp,ho,Instr.box,yT]
  .simp at h
theorem IE{t:TypeId}{agg:Bool}{n:Nat}(ha:ge P t=some agg)(hs:fS P t=some n)(hI:Inv S K w0 Kn φ (aw H) w){p:C}{pv:Value}(hp:RC S w Kn φ p pv)(hn0:nxt<n'->¬Kn nxt)
  (h:lY agg n p H nxt=some (v,u,az,n')):∃val,(Instr.loadAt t pv).run P w=.ok val w/\kZ S K w0 w Kn φ (aw H) nxt n' v u val w:=by
 unfold lY at h;split at h
 case h_2=>simp at h
 rename_i id fy;split at h
 case h_2=>simp at h
 rename_i sz slots ho;split at h
 case isFalse=>simp at h
 rename_i hag;obtain⟨rfl,rfl⟩:=hag;obtain⟨hk,hro⟩:=hI.iM id _ ho;have hl:=by cases hro with|nst hsz hl=>exact hl
 cases hp with
 |ep hk'=>
  have ea:(⟨(φ id).dj,(φ id).aJ+fy*(φ id).sz+0,none⟩:Addr)=⟨(φ id).dj,(φ id).aJ+fy,none⟩:=by rw[hl,Nat.mul_one,eL]
  rw[ea];split at h
  .rename_i hsl;cases hro with
   |nst hsz hl hS hK hown hext hfit hr hv=>
    obtain⟨x,h1,h2⟩:=hr fy _ hsl;cases h2
    obtain⟨val,q1,q2⟩:=wQ (S:=S) (Kn:=Kn) (φ:=φ) ha hs (cells:=[.d _]) (fun j x hj=>by
     cases j with
     |succ j=>simp at hj
     |zero=>
      obtain rfl:C.d _=x:=by simpa using hj
      exact⟨_,(hown.cell _).trans h1,.d (.lit rfl)⟩) rfl
    grind [Instr.loadAt,Instr.sureAddr,kZ.pure]
  .rename_i rows hsl;obtain⟨rfl,rfl,rfl,rfl⟩:TV.c _=v/\[(nxt,some _),(id,some _)]=u/\[id]=az/\nxt+1=n':=by simpa using h
   have hn:=hn0 (aY _);obtain⟨l,x,h1,h2,h3⟩:=hI.split ho hsl hn
   obtain⟨val,q1,q2⟩:=wQ (S:=S) ha hs (cells:=[.cE sz nxt 0 rows.length]) (o:=(φ id).aJ+fy) (fun j x' hj=>by
     cases j with
     |succ j=>simp at hj
     |zero=>
      obtain rfl:C.cE sz nxt 0 rows.length=x':=by simpa using hj
      exact⟨x,h1,h2⟩) rfl
   refine⟨val,by simp[Instr.loadAt,Instr.sureAddr,q1],bI _,S,ext φ nxt l,gZ.refl _ _,⟨fun i hi=>.inl hi,(jw l hn).ez⟩,q2.kn fun i=>(oU i).1,h3.wd fun i=>oU i⟩
  .simp at h
theorem Hu{t:TypeId}{x:Operand}{agg:Bool}{n:Nat}(ho:o.op=.load t x)(ha:ge P t=some agg)(hs:fS P t=some n)(hI:Inv S K w0 Kn φ (aw H) w)
  {tv:Option TV} (hx:∀y,tv=some y->fX S w Kn φ y (ρ x)) (h:cC call (.load agg n) [tv] H nxt=some (v,u,az,n')):dH P o ρ S K w0 w Kn φ (aw H) nxt n' v u:=by
 cases tv with
 |none=>simp[cC]at h
 |some y=>
  cases y with
  |c p=>
   change (match iv agg n p H with|some (v,az)=>some (v,[],az,nxt)|none=>none)=_ at h;split at h
   .rename_i v' ids' hl;obtain⟨rfl,rfl,rfl,rfl⟩:v'=v/\[]=u/\ids'=az/\nxt=n':=by simpa using h
    cases hx _ rfl with|c hp=>obtain⟨val,h1,h2⟩:=yV ha hs hI hp hl;refine⟨.value _,_,_,?_,.inl rfl,kZ.pure hI h2⟩;simp[execOp,ho,h1]
   .simp at h
  |_=>simp[cC]at h
theorem K_{t:TypeId}{x:Operand}(ho:o.op=.load t x)(ha:ge P t=some false)(hs:fS P t=some 1)(hI:Inv S K w0 Kn φ (aw H) w)(hn0:nxt<n'->¬Kn nxt)
  {tv:Option TV} (hx:∀y,tv=some y->fX S w Kn φ y (ρ x)) (h:cC call .uY [tv] H nxt=some (v,u,az,n')):dH P o ρ S K w0 w Kn φ (aw H) nxt n' v u:=by
 cases tv with
 |none=>simp[cC]at h
 |some y=>
  cases y with
  |c p=>
   change (match iv false 1 p H with|some (v,az)=>some (v,[],az,nxt)|none=>lY false 1 p H nxt)=_ at h;split at h
   .rename_i v' ids' hl;exact Hu (call:=call) ho ha hs hI hx (by show(match iv false 1 p H with|some (v,az)=>some (v,[],az,nxt)|none=>none)=_;rw[hl];exact h)
   .cases hx _ rfl with|c hp=>obtain⟨val,h1,h2⟩:=IE ha hs hI hp hn0 h;refine⟨.value _,_,_,?_,.inl rfl,h2⟩;simp[execOp,ho,h1]
  |_=>simp[cC]at h
theorem dH.pure{val:Value}(hI:Inv S K w0 Kn φ (aw H) w)(hr:(execOp ρ o).run P w=.ok (.value val) w)(h:fX S w Kn φ v val):dH P o ρ S K w0 w Kn φ (aw H) nxt nxt v []:=⟨.value val,val,w,hr,.inl rfl,kZ.pure hI h⟩
theorem Qd{x:Operand}(ho:o.op=.move x\/o.op=.assign x)(hI:Inv S K w0 Kn φ (aw H) w){tv:Option TV}(hx:∀y,tv=some y->fX S w Kn φ y (ρ x))
  (h:cC call .mv [tv] H nxt=some (v,u,az,n')):dH P o ρ S K w0 w Kn φ (aw H) nxt n' v u:=by
 cases tv with
 |none=>simp[cC]at h
 |some y=>
  obtain⟨rfl,rfl,rfl,rfl⟩:y=v/\[]=u/\[]=az/\nxt=n':=by simpa[cC]using h
  refine dH.pure hI ?_ (hx _ rfl);rcases ho with ho|ho<;>simp[execOp,ho]
theorem Ov{c x y:Operand}(ho:o.op=.pick c x y)(hI:Inv S K w0 Kn φ (aw H) w){tc tx ty:Option TV}(hc:∀z,tc=some z->fX S w Kn φ z (ρ c))
  (hx:∀z,tx=some z->fX S w Kn φ z (ρ x)) (hy:∀z,ty=some z->fX S w Kn φ z (ρ y))
  (h:cC call .pick [tc,tx,ty] H nxt=some (v,u,az,n')):dH P o ρ S K w0 w Kn φ (aw H) nxt n' v u:=by
 match tc,h,hc with
 |some (.c (.d (.lit (.bool b)))),h,hc=>
  change (match(if b then tx else ty)with|some v=>some (v,[],[],nxt)|none=>none)=_ at h;obtain⟨hb,_⟩:=(hc _ rfl).lit;cases b
  .cases ty with
   |none=>simp at h
   |some z=>
    obtain⟨rfl,rfl,rfl,rfl⟩:z=v/\[]=u/\[]=az/\nxt=n':=by simpa using h
    exact dH.pure hI (by simp[execOp,ho,hb,asBool]) (hy _ rfl)
  .cases tx with
   |none=>simp at h
   |some z=>
    obtain⟨rfl,rfl,rfl,rfl⟩:z=v/\[]=u/\[]=az/\nxt=n':=by simpa using h
    exact dH.pure hI (by simp[execOp,ho,hb,asBool]) (hx _ rfl)
theorem DP{x:Operand}(ho:o.op=.nilCheck x)(hI:Inv S K w0 Kn φ (aw H) w){tv:Option TV}(hx:∀y,tv=some y->fX S w Kn φ y (ρ x))
  (h:cC call .nilCheck [tv] H nxt=some (v,u,az,n')):dH P o ρ S K w0 w Kn φ (aw H) nxt n' v u:=by
 match tv,h,hx with
 |some (.c c),h,hx=>
  have key:(∃a,ρ x=.pointer (some a))\/(∃g vs,ρ x=.func (.func g) #[] vs)->some (TV.c c,([]:eS),([]:List Nat),nxt)=some (v,u,az,n')->dH P o ρ S K w0 w Kn φ (aw H) nxt n' v u:=by
   intro hc h;obtain⟨rfl,rfl,rfl,rfl⟩:TV.c c=v/\[]=u/\[]=az/\nxt=n':=by simpa using h
   refine dH.pure hI ?_ (hx _ rfl);rcases hc with⟨a,hc⟩|⟨g,vs,hc⟩<;>simp[execOp,ho,hc]
  have hr:=hx _ rfl;generalize hv0:ρ x=val at hr;cases hr with
  |c hr=>
   cases hr with
   |d hd=>cases hd with|lit hp=>simp[cC]at h|nan=>simp[cC]at h|ex=>simp[cC]at h|sl=>simp[cC]at h|uq=>simp[cC]at h|pt f hb=>exact key (.inl ⟨_,hv0⟩) h|fn hl hr=>exact key (.inr ⟨_,_,hv0⟩) h
   |cE=>simp[cC]at h
   |ep hk=>exact key (.inl ⟨_,hv0⟩) h
   |op hk=>exact key (.inl ⟨_,hv0⟩) h
   |pp hl hr=>exact key (.inr ⟨_,_,hv0⟩) h
   |om hk=>simp[cC]at h
theorem LR{k:FloatKind}{n m:Nat}(h:n %k.format.signWeight=m %k.format.signWeight)(hn:xT k n):xT k m:=by
 unfold xT Ieee.Format.read at*;rw[h]at hn;dsimp only at hn|-;split at hn
 .cases hn
 .rw [if_neg (by assumption)];split at hn
  .cases hn
  .rw [if_neg (by assumption)];split at hn
   .cases hn
   .rw [if_neg (by assumption)];rfl
theorem ZZ{k:FloatKind}{n:Nat}(h:xT k n):xT k (Op.negFloat k n):=by refine LR ?_ h;unfold Op.negFloat Ieee.Format.signWeight;rw[Nat.xor_mod_two_pow,Nat.mod_self,Nat.xor_zero]
theorem Ij{op:UnOp}{a va v:Value}(ha:s_ a va)(h:QS op a=some v):∃v',QS op va=some v'/\s_ v v':=by
 cases ha with
 |lit _=>exact⟨v,h,.lit (Hj (P:=default) (w:=default) h).2⟩
 |ex=>cases h
 |nan hn hm=>cases op with|neg=>obtain rfl:=aa h;exact⟨_,rfl,.nan (ZZ hn) (ZZ hm)⟩|_=>cases h
theorem Un{t:TypeId}{op:UnOp}{x:Operand}(ho:o.op=.unOp op t x)(hI:Inv S K w0 Kn φ (aw H) w){tv:Option TV}(hx:∀y,tv=some y->fX S w Kn φ y (ρ x))
  (h:cC call (.un op) [tv] H nxt=some (v,u,az,n')):dH P o ρ S K w0 w Kn φ (aw H) nxt n' v u:=by
 match tv,h,hx with
 |some (.c (.d (.lit z))),h,hx=>
  change (match QS op z with|some v=>some (lv v,[],[],nxt)|none=>none)=_ at h;split at h
  .rename_i r hr;obtain⟨rfl,rfl,rfl,rfl⟩:lv r=v/\[]=u/\[]=az/\nxt=n':=by simpa using h
   obtain⟨r',h3,h4⟩:=Ij (hx _ rfl).I4 hr;obtain⟨h1,h2⟩:=Hj (P:=P) (w:=w) h3;exact dH.pure hI (by simp[execOp,ho,h1]) (.F8 h4)
  .simp at h
theorem Rm{t ty:TypeId}{op:BinOp}{x y:Operand}(ho:o.op=.binOp op t x y ty)(hI:Inv S K w0 Kn φ (aw H) w){tx tz:Option TV}(hx:∀z,tx=some z->fX S w Kn φ z (ρ x))
  (hy:∀z,tz=some z->fX S w Kn φ z (ρ y)) (h:cC call (.th op) [tx,tz] H nxt=some (v,u,az,n')):dH P o ρ S K w0 w Kn φ (aw H) nxt n' v u:=by
 match tx,tz,h,hx,hy with
 |some (.c (.d (.lit a))),some (.c (.d (.lit b))),h,hx,hy=>
  change (match oG op a b with|some v=>some (lv v,[],[],nxt)|none=>none)=_ at h;split at h
  .rename_i r hr;obtain⟨rfl,rfl,rfl,rfl⟩:lv r=v/\[]=u/\[]=az/\nxt=n':=by simpa using h
   have hr:=GQ (hx _ rfl).I4 (hy _ rfl).I4 hr;obtain⟨r',n,h1,hle,h4,h3⟩:=KM (P:=P) (t:=t) hr;exact⟨.value r',r',_,by simp[execOp,ho,h1,h3],.inl rfl,am _,S,φ,gZ.uQ _ _ _,qz _ _,.F8 h4,(hI.uQ n hle).kn fun _ hi=>.inl hi⟩
  .simp at h
theorem yW{t:TypeId}(hu:P.underlying t=some .bool)(a b:Bool):(Op.equal t (.bool a) (.bool b)).run P w=.ok (a==b) w:=by show(Op.equalIn (9999+1) t _ _).run P w=_;unfold Op.equalIn;rw[Sem.run_bind,bQ hu];rfl
theorem IZ{t ty:TypeId}{op:BinOp}{x y:Operand}(ho:o.op=.binOp op t x y ty)(hop:op=.eql\/op=.neq)(hu:P.underlying t=some .bool)(hI:Inv S K w0 Kn φ (aw H) w)
  {tx tz:Option TV} (hx:∀z,tx=some z->fX S w Kn φ z (ρ x)) (hy:∀z,tz=some z->fX S w Kn φ z (ρ y))
  (h:cC call (.vz (op==.neq)) [tx,tz] H nxt=some (v,u,az,n')):dH P o ρ S K w0 w Kn φ (aw H) nxt n' v u:=by
 match tx,tz,h,hx,hy with
 |some (.c (.d (.lit (.bool a)))),some (.c (.d (.lit (.bool b)))),h,hx,hy=>
  obtain⟨ha,_⟩:=(hx _ rfl).lit;obtain⟨hb,_⟩:=(hy _ rfl).lit;change some (lv _,([]:eS),([]:List Nat),nxt)=_ at h;obtain⟨rfl,rfl,rfl,rfl⟩:lv _=v/\[]=u/\[]=az/\nxt=n':=by simpa using h
  refine dH.pure hI ?_ (.rj rfl);rcases hop with rfl|rfl
  .simp [execOp,ho,ha,hb,eqGuard,binOp,yW hu]
  .simp [execOp,ho,ha,hb,eqGuard,binOp,yW hu]
theorem F6{s d:TypeId}{k k':IntKind}{x:Operand}(ho:o.op=.convert s d x)(hs:P.underlying s=some (.int k'))(hd:P.underlying d=some (.int k))(hI:Inv S K w0 Kn φ (aw H) w)
  {tv:Option TV} (hx:∀y,tv=some y->fX S w Kn φ y (ρ x)) (h:cC call (.wl k) [tv] H nxt=some (v,u,az,n')):dH P o ρ S K w0 w Kn φ (aw H) nxt n' v u:=by
 match tv,h,hx with
 |some (.c (.d (.lit (.int k0 n)))),h,hx=>
  obtain⟨ha,_⟩:=(hx _ rfl).lit;obtain⟨rfl,rfl,rfl,rfl⟩:lv _=v/\[]=u/\[]=az/\nxt=n':=by simpa[cC]using h
  exact dH.pure hI (by simp[execOp,ho,ha,convert,bQ hs,bQ hd,Conv.intToInt]) (.rj rfl)
theorem Le{s d:TypeId}{k':IntKind}{k:FloatKind}{x:Operand}(ho:o.op=.convert s d x)(hs:P.underlying s=some (.int k'))(hd:P.underlying d=some (.float k))(hI:Inv S K w0 Kn φ (aw H) w)
  {tv:Option TV} (hx:∀y,tv=some y->fX S w Kn φ y (ρ x)) (h:cC call (.EL k) [tv] H nxt=some (v,u,az,n')):dH P o ρ S K w0 w Kn φ (aw H) nxt n' v u:=by
 match tv,h,hx with
 |some (.c (.d (.lit (.int k0 n)))),h,hx=>
  obtain⟨ha,_⟩:=(hx _ rfl).lit;obtain⟨rfl,rfl,rfl,rfl⟩:lv (.float k (k.nearest n))=v/\[]=u/\[]=az/\nxt=n':=by simpa[cC]using h
  exact dH.pure hI (by simp[execOp,ho,ha,convert,bQ hs,bQ hd,Conv.intToFloat]) (.rj rfl)
theorem DU{s d:TypeId}{x:Operand}(ho:o.op=.convert s d x)(hs:P.underlying s=some .string)(hd:P.underlying d=some .string)(hI:Inv S K w0 Kn φ (aw H) w)
  {tv:Option TV} (hx:∀y,tv=some y->fX S w Kn φ y (ρ x)) (h:cC call .t8 [tv] H nxt=some (v,u,az,n')):dH P o ρ S K w0 w Kn φ (aw H) nxt n' v u:=by
 match tv,h,hx with
 |some (.c (.d (.lit (.string s0)))),h,hx=>
  obtain⟨ha,_⟩:=(hx _ rfl).lit;obtain⟨rfl,rfl,rfl,rfl⟩:lv _=v/\[]=u/\[]=az/\nxt=n':=by simpa[cC]using h
  exact dH.pure hI (by simp[execOp,ho,ha,convert,bQ hs,bQ hd]) (.rj rfl)
theorem F5{x:Operand}{i:Nat}(ho:o.op=.extract x i)(hI:Inv S K w0 Kn φ (aw H) w){tv:Option TV}(hx:∀y,tv=some y->fX S w Kn φ y (ρ x))
  (h:cC call (.extract i) [tv] H nxt=some (v,u,az,n')):dH P o ρ S K w0 w Kn φ (aw H) nxt n' v u:=by
 match tv,h,hx with
 |some (.ia xs),h,hx=>
  change (match xs[i]?with|some v=>some (v,[],[],nxt)|none=>none)=_ at h;split at h
  .rename_i y hy;obtain⟨rfl,rfl,rfl,rfl⟩:y=v/\[]=u/\[]=az/\nxt=n':=by simpa using h
   have hr:=hx _ rfl;generalize hv0:ρ x=val at hr;cases hr with
   |@ia _ aK hlen hr=>
    have hlt:i<aK.size:=by grind
    refine dH.pure hI ?_ (hr i y hy);simp[execOp,ho,hv0,Instr.extract,hlt]
  .simp at h
theorem B2{s:TypeId}{f n:Nat}{fields:Array Field}{fl:Field}{x:Operand}(ho:o.op=.fieldAddr s x f)(hu:P.underlying s=some (.struct fields))(hf:fields[f]?=some fl)
  (hs:fS P fl.type=some (n+1)) (hI:Inv S K w0 Kn φ (aw H) w) {tv:Option TV} (hx:∀y,tv=some y->fX S w Kn φ y (ρ x))
  (h:cC call (.fieldAddr fl.offset (n+1)) [tv] H nxt=some (v,u,az,n')):dH P o ρ S K w0 w Kn φ (aw H) nxt n' v u:=by
 match tv,h,hx with
 |some (.c c),h,hx=>
  change (match kJ fl.offset (n+1) c with|some y=>some (TV.c y,[],[],nxt)|none=>none)=_ at h;split at h
  .rename_i y hy;obtain⟨rfl,rfl,rfl,rfl⟩:TV.c y=v/\[]=u/\[]=az/\nxt=n':=by simpa using h
   have run:∀b off,ρ x=.pointer (some ⟨b,off,none⟩)->(execOp ρ o).run P w=.ok (.value (.pointer (some ⟨b,off+fl.offset,none⟩))) w:=by simp_all[execOp,Instr.fieldAt,bQ,Instr.sureAddr,fieldPlace,gY,ph]
   have hr:=hx _ rfl;generalize hv0:ρ x=val at hr;cases hr with
   |c hr=>
    cases hr with
    |d hd=>
     cases hd with
     |@pt cells b off g hb hcell hrd=>
      simp only[kJ]at hy;split at hy
      .obtain rfl:=aa hy;refine dH.pure hI (run _ _ hv0) (.c (.d (.ze hb fun j z hj=>?_)));rw[fc]at hj;split at hj
       .rw [bS]at hj;exact⟨_,by rw[dz];exact hcell _ _ hj,hrd _ _ hj⟩
       .simp at hj
      .simp at hy
     |_=>simp[kJ]at hy
    |@op id off hk=>
     obtain rfl:C.op id _=y:=by simpa[kJ]using hy
     refine dH.pure hI (run _ _ hv0) (.c ?_);rw[dz];exact .op hk
    |@ep id fy off hk=>
     obtain rfl:C.ep id fy _=y:=by simpa[kJ]using hy
     refine dH.pure hI (run _ _ hv0) (.c ?_);rw[dz];exact .ep hk
    |_=>simp[kJ]at hy
  .simp at h
theorem La{str:Bool}{t:TypeId}{x:Operand}{c:n_}(ho:o.op=.call c)(hcal:c.callee=.builtin .len)(hargs:c.args= #[x])(hts:c.argTypes= #[t])
  (hu:if str then P.underlying t=some .string else∃b,P.underlying t=some (.slice b)) (hI:Inv S K w0 Kn φ (aw H) w) {tv:Option TV} (hx:∀y,tv=some y->fX S w Kn φ y (ρ x))
  (h:cC call (.len str) [tv] H nxt=some (v,u,az,n')):dH P o ρ S K w0 w Kn φ (aw H) nxt n' v u:=by
 match tv,h,hx with
 |some (.c y),h,hx=>
  change (match u5 str y with|some n=>some (lv (.int .i64 n),[],[],nxt)|none=>none)=_ at h;split at h
  .rename_i n hn;obtain⟨rfl,rfl,rfl,rfl⟩:lv (.int .i64 n)=v/\[]=u/\[]=az/\nxt=n':=by simpa using h
   refine dH.pure hI ?_ (.rj rfl);have hr:=hx _ rfl;generalize hv0:ρ x=val at hr;cases str with
   |true=>
    simp only[if_true]at hu
    match y,hn,hr with
    |.d (.lit (.string s)),hn,hr=>
     obtain⟨rfl,_⟩:=hr.lit;obtain rfl:(s.size:Int)=n:=by simpa[u5]using hn
     simp[execOp,ho,hcal,hargs,hts,resolve,invoke,builtin,hv0,Builtin.len_,bQ hu,goInt]
   |false=>
    obtain⟨b,hu⟩:=hu;have hsl:∀a l k,val=.slice a l k->n=(l:Int)->(execOp ρ o).run P w=.ok (.value (.int .i64 n)) w:=by intro a l k e1 e2;simp[execOp,ho,hcal,hargs,hts,resolve,invoke,builtin,hv0,e1,e2,Builtin.len_,bQ hu,goInt]
    match y,hn,hr with
    |.d (.lit (.slice none 0 0)),hn,hr=>obtain⟨rfl,_⟩:=hr.lit;exact hsl _ _ _ rfl (by simpa[u5]using hn.symm)
    |.d (.sl sz rows),hn,hr=>
     cases hr with
     |c hr=>cases hr with
      |d hd=>cases hd with|sl=>exact hsl _ _ _ rfl (by simpa[u5]using hn.symm)|uq=>exact hsl _ _ _ rfl (by simpa[u5]using hn.symm)
    |.cE sz id off len,hn,hr=>
     cases hr with
     |c hr=>cases hr with|cE=>exact hsl _ _ _ rfl (by simpa[u5]using hn.symm)
  .simp at h
theorem sn{op:BinOp}(hop:op=.eql\/op=.neq){t:TypeId}{x y:Value}{b:Bool}(a c:Operand)
  (h1:binOp .eql t x y=(do pure (.bool (<-Op.equal t x y)))) (h2:binOp .neq t x y=(do pure (.bool (!(<-Op.equal t x y)))))
  (hg:(eqGuard op t a c x y).run P w=.ok () w) (he:(Op.equal t x y).run P w=.ok b w):
  ((do eqGuard op t a c x y;binOp op t x y):Sem Value).run P w=.ok (.bool (if op==.neq then !b else b)) w:=by
 rcases hop with rfl|rfl
 .simp_all
 simp_all
theorem rM{op:BinOp}{t:TypeId}(a c:Operand){x y:Value}(h:match x,y with|.nilIface,.nilIface=>False|.agg _,.agg _=>False|_,_=>True):
  (eqGuard op t a c x y).run P w=.ok () w:=by
 unfold eqGuard;cases op<;>simp<;>(cases x<;>cases y<;>simp_all)
theorem rR(t:TypeId)(x y:Value):Op.equal t x y=Op.equalIn (9999+1) t x y:=rfl
def Lm(P:Program)(t:TypeId):Nat->Prop
 |0=>∃x,P.underlying t=some (.slice x)
 |1=>∃x,P.underlying t=some (.pointer x)
 |2=>∃a b c,P.underlying t=some (.func a b c)
 |_=>False
theorem IF{op:BinOp}(hop:op=.eql\/op=.neq){kind:Nat}{t:TypeId}{y:C}{val:Value}{b:Bool}(a c:Operand)(hu:Lm P t kind)
  (hr:fX S w Kn φ (.c y) val) (hn:qQ kind y=some b):
  ((do eqGuard op t a c val (oS kind);binOp op t val (oS kind)):Sem Value).run P w=.ok (.bool (if op==.neq then !b else b)) w/\
  ((do eqGuard op t a c (oS kind) val;binOp op t (oS kind) val):Sem Value).run P w=.ok (.bool (if op==.neq then !b else b)) w:=by
 have hsl:(∃x,P.underlying t=some (.slice x))->∀q l k,kind=0->val=.slice q l k->b=q.isNone->
   ((do eqGuard op t a c val (oS kind);binOp op t val (oS kind)):Sem Value).run P w=.ok (.bool (if op==.neq then !b else b)) w/\
   ((do eqGuard op t a c (oS kind) val;binOp op t (oS kind) val):Sem Value).run P w=.ok (.bool (if op==.neq then !b else b)) w:=by
  rintro⟨x,hu'⟩ q l k rfl rfl rfl;refine⟨sn hop a c rfl rfl (rM a c trivial) ?_,sn hop a c rfl rfl (rM a c trivial) ?_⟩
  all_goals
   rw[rR];unfold Op.equalIn;rw[Sem.run_bind,bQ hu'];cases q<;>rfl
 have hpt:(∃x,P.underlying t=some (.pointer x))->∀q,kind=1->val=.pointer q->b=q.isNone->
   ((do eqGuard op t a c val (oS kind);binOp op t val (oS kind)):Sem Value).run P w=.ok (.bool (if op==.neq then !b else b)) w/\
   ((do eqGuard op t a c (oS kind) val;binOp op t (oS kind) val):Sem Value).run P w=.ok (.bool (if op==.neq then !b else b)) w:=by
  rintro⟨x,hu'⟩ q rfl rfl rfl;refine⟨sn hop a c ?_ ?_ (rM a c trivial) ?_,sn hop a c ?_ ?_ (rM a c trivial) ?_⟩
  .cases q<;>rfl
  .cases q<;>rfl
  .rw [rR];unfold Op.equalIn;rw[Sem.run_bind,bQ hu'];cases q<;>rfl
  .cases q<;>rfl
  .cases q<;>rfl
  .rw [rR];unfold Op.equalIn;rw[Sem.run_bind,bQ hu'];cases q<;>rfl
 have hfn:(∃x y z,P.underlying t=some (.func x y z))->kind=2->((val=.nilFunc/\b=true)\/((∃f p q,val=.func f p q)/\b=false))->
   ((do eqGuard op t a c val (oS kind);binOp op t val (oS kind)):Sem Value).run P w=.ok (.bool (if op==.neq then !b else b)) w/\
   ((do eqGuard op t a c (oS kind) val;binOp op t (oS kind) val):Sem Value).run P w=.ok (.bool (if op==.neq then !b else b)) w:=by
  rintro⟨x,y,z,hu'⟩ rfl (⟨rfl,rfl⟩|⟨⟨f,p,q,rfl⟩,rfl⟩)
  all_goals
   refine⟨sn hop a c rfl rfl (rM a c trivial) ?_,sn hop a c rfl rfl (rM a c trivial) ?_⟩
   all_goals
    rw[rR];unfold Op.equalIn;rw[Sem.run_bind,bQ hu'];rfl
 cases hr with
 |c hr=>
  match kind,y,hn,hr,hu with
  |0,.d (.lit (.slice none 0 0)),hn,hr,hu=>cases hr with|d hd=>cases hd with|lit hp=>exact hsl hu _ _ _ rfl rfl (by simpa[qQ]using hn.symm)
  |0,.d (.sl _ _),hn,hr,hu=>cases hr with|d hd=>cases hd with|sl=>exact hsl hu _ _ _ rfl rfl (by simpa[qQ]using hn.symm)|uq=>exact hsl hu _ _ _ rfl rfl (by simpa[qQ]using hn.symm)
  |0,.cE _ _ _ _,hn,hr,hu=>cases hr with|cE=>exact hsl hu _ _ _ rfl rfl (by simpa[qQ]using hn.symm)
  |1,.d (.lit (.pointer none)),hn,hr,hu=>cases hr with|d hd=>cases hd with|lit hp=>exact hpt hu _ rfl rfl (by simpa[qQ]using hn.symm)
  |1,.d (.pt _),hn,hr,hu=>cases hr with|d hd=>cases hd with|pt=>exact hpt hu _ rfl rfl (by simpa[qQ]using hn.symm)
  |1,.ep _ _ _,hn,hr,hu=>cases hr with|ep=>exact hpt hu _ rfl rfl (by simpa[qQ]using hn.symm)
  |1,.op _ _,hn,hr,hu=>cases hr with|op=>exact hpt hu _ rfl rfl (by simpa[qQ]using hn.symm)
  |2,.d (.lit .nilFunc),hn,hr,hu=>cases hr with|d hd=>cases hd with|lit hp=>exact hfn hu rfl (.inl ⟨rfl,by simpa[qQ]using hn.symm⟩)
  |2,.d (.fn _ _),hn,hr,hu=>cases hr with|d hd=>cases hd with|fn=>exact hfn hu rfl (.inr ⟨⟨_,_,_,rfl⟩,by simpa[qQ]using hn.symm⟩)
  |2,.pp _ _,hn,hr,hu=>cases hr with|pp=>exact hfn hu rfl (.inr ⟨⟨_,_,_,rfl⟩,by simpa[qQ]using hn.symm⟩)
theorem xE{kind:Nat}{x:Operand}(h:w6 kind x=true):x=.const (oS kind):=by unfold w6 at h;split at h<;>first|rfl|simp at h
theorem DS{t ty:TypeId}{op:BinOp}{x y z:Operand}{kind:Nat}(ho:o.op=.binOp op t x y ty)(hop:op=.eql\/op=.neq)(hu:Lm P t kind)(hI:Inv S K w0 Kn φ (aw H) w)
  (hc:∀v,ρ (.const v)=v) (hz:(z=x/\w6 kind y=true)\/(z=y/\w6 kind x=true)) {tv:Option TV} (hx:∀y,tv=some y->fX S w Kn φ y (ρ z))
  (h:cC call (.rS kind (op==.neq)) [tv] H nxt=some (v,u,az,n')):dH P o ρ S K w0 w Kn φ (aw H) nxt n' v u:=by
 match tv,h,hx with
 |some (.c c),h,hx=>
  change (match qQ kind c with|some b=>some (lv _,([]:eS),([]:List Nat),nxt)|none=>none)=_ at h;split at h
  .rename_i b hb;obtain⟨rfl,rfl,rfl,rfl⟩:lv _=v/\[]=u/\[]=az/\nxt=n':=by simpa using h
   refine dH.pure hI ?_ (.rj rfl);obtain⟨h1,h2⟩:=IF hop x y hu (hx _ rfl) hb;rcases hz with⟨rfl,hn⟩|⟨rfl,hn⟩
   .have e:=xE hn;simp only[execOp,ho,Sem.run_bind];simp_all
   .have e:=xE hn;simp only[execOp,ho,Sem.run_bind];simp_all
  .simp at h
end
section
variable{P:Program}{S K:Nat->Prop}{w0 w:World}{Kn:Nat->Prop}{φ:Nat->gV}{H:bC}{e:iL}{ρ:Operand->Value}{o:Oper}{call:Call}
 {nxt n':Nat} {v:TV} {u:eS} {az:List Nat}
theorem xN{α:Type}:∀{l:List (Option α)}{xs:List α},dY l=some xs->l=xs.map some:=by
 intro l;induction l with
 |nil=>
  intro xs h;obtain rfl:[]=xs:=by simpa[dY]using h
  rfl
 |cons a l ih=>
  intro xs h;cases a with
  |none=>simp[dY]at h
  |some x=>
   simp only[dY]at h;split at h
   .rename_i ys hy;obtain rfl:=aa h;simp[ih hy]
   .simp at h
theorem ud{args:List Operand}{xs:List TV}(hρ:∀x tv,ke e x=some tv->fX S w Kn φ tv (ρ x))(h:dY (args.map (ke e))=some xs):
  xs.length=args.length/\∀(i:Nat)(x:Operand)(tv:TV),args[i]?=some x->xs[i]?=some tv->fX S w Kn φ tv (ρ x):=by
 have h1:=xN h;have hl:xs.length=args.length:=by have:=congrArg nq h1;simpa using this.symm
 refine⟨hl,fun i x tv hx htv=>hρ x tv ?_⟩;have h2:=congrArg (fun l=>l[i]?) h1;simp only[aQ,hx,htv,bK]at h2;exact aa h2
theorem Ow{f:FuncId}{first captured:Array Operand}(ho:o.op=.makeFunc (.func f) first captured)(hf:first.isEmpty=true)(hI:Inv S K w0 Kn φ (aw H) w)
  (hρ:∀x tv,ke e x=some tv->fX S w Kn φ tv (ρ x)) (h:cC call (.Jb f) (captured.toList.map (ke e)) H nxt=some (v,u,az,n')):dH P o ρ S K w0 w Kn φ (aw H) nxt n' v u:=by
 change (match dY (captured.toList.map (ke e))with
  |some xs=>(match dY (xs.map fun(x:TV)=>match x with|.c c=>some c|_=>none)with|some cs=>some (TV.c (.pp f cs),([]:eS),([]:List Nat),nxt)|none=>none)
  |none=>none)=_ at h
 split at h
 .rename_i xs hxs;split at h
  .rename_i cs hcs;obtain⟨rfl,rfl,rfl,rfl⟩:TV.c (.pp f cs)=v/\[]=u/\[]=az/\nxt=n':=by simpa using h
   obtain⟨hl,hr⟩:=ud hρ hxs;have h2:=xN hcs;have hl2:cs.length=xs.length:=by have:=congrArg nq h2;simpa using this.symm
   have hf':first= #[]:=by simpa using hf
   refine dH.pure (val:=.func (.func f) #[] (captured.map ρ)) hI (by simp[execOp,ho,Instr.makeFunc,hf']) (.c (.pp (by simp[hl2,hl]) fun j c hj=>?_));have hj':j<xs.length:=by rw[<-hl2];exact(ap.1 hj).1
   have h3:=congrArg (fun l=>l[j]?) h2;simp only[aQ,hj,bK,aC hj']at h3;have h4:=aa h3;have hcap:j<captured.size:=by rw[hl]at hj';simpa using hj'
   have hx:=hr j captured[j] xs[j] (by simp[hcap]) (aC hj');have e1:(captured.map ρ).getD j undef=ρ captured[j]:=by simp[hcap]
   rw[e1];cases hy:xs[j]with
   |c y=>
    rw[hy]at h4 hx;obtain rfl:y=c:=by simpa using h4
    cases hx with|c hx=>exact hx
   |_=>rw[hy]at h4;simp at h4
  .simp at h
 .simp at h
theorem kL{n:Int}(h0:0<=n)(h1:n<=2147483648):IntKind.i64.wrap n=n:=by unfold IntKind.wrap IntKind.bits IntKind.signed;simp only[Bool.true_and,decide_eq_true_eq];have:n %(2^64:Int)=n:=Int.emod_eq_of_lt h0 (by omega);rw[this];split<;>omega
theorem wR{v:Value}{k:IntKind}{n:Int}(h:v=.int k n):(asInt v).run P w=.ok n w:=by subst h;simp[asInt,asIntOf]
theorem nd{v:Value}{k:IntKind}{n:Int}(h:v=.int k n):(asIntOf v).run P w=.ok (k,n) w:=by subst h;simp[asIntOf]
theorem jg{tv:Option TV}{val:Value}{n:Int}(h:cG tv=some n)(hr:∀y,tv=some y->fX S w Kn φ y val):∃k,val=.int k n:=by
 unfold cG at h;split at h
 .obtain rfl:=aa h;obtain⟨hv,_⟩:=(hr _ rfl).lit;exact⟨_,hv⟩
 .simp at h
theorem ko{v:Value}{k:IntKind}{n:Int}{y:Nat}{code:BoundsCode}(h:v=.int k n)(h0:0<=n)(h1:n<=y):(Instr.sliceBound v y code).run P w=.ok n.toNat w:=by simp only[Instr.sliceBound,Sem.run_bind,nd h,Result.andThen_ok,h0,h1,and_self,if_true,Sem.run_pure]
theorem sq{Ec:Bool}{len cap:Nat}{lo hi:Option Value}{l h:Option Int}(hlo':lo.isSome=l.isSome)(hl1:∀x,lo=some x->∃k n,x=.int k n/\l=some n)
  (hhi':hi.isSome=h.isSome) (hhi:∀x,hi=some x->∃k n,x=.int k n/\h=some n)
  (h0:0<=l.getD 0) (h1:l.getD 0<=h.getD len) (h2:h.getD len<=cap):
  (Instr.sliceBounds Ec len cap lo hi none).run P w=.ok ((l.getD 0).toNat,(h.getD len).toNat,cap) w:=by
 unfold Instr.sliceBounds;cases hi with
 |none=>
  cases h with
  |some _=>simp at hhi'
  |none=>
   cases lo with
   |none=>cases l with|some _=>simp at hlo'|none=>simp
   |some x=>obtain⟨k,n,rfl,rfl⟩:=hl1 x rfl;simp only[bF,Option.getD_none]at h0 h1;have:=ko (P:=P) (w:=w) (v:=.int k n) (y:=len) (code:=.sliceB) rfl h0 h1;simp[this]
 |some y=>
  obtain⟨k,n,rfl,rfl⟩:=hhi y rfl;simp only[bF]at h1 h2;have hb:=ko (P:=P) (w:=w) (v:=.int k n) (y:=cap) (code:=if Ec then .sliceAcap else .sliceAlen) rfl (by omega) h2;cases lo with
  |none=>cases l with|some _=>simp at hlo'|none=>simp[hb]
  |some x=>obtain⟨k',n',rfl,rfl⟩:=hl1 x rfl;simp only[bF]at h0 h1;have:=ko (P:=P) (w:=w) (v:=.int k' n') (y:=n.toNat) (code:=.sliceB) rfl h0 (by omega);simp[hb,this]
theorem Dq{str:Bool}{sz:Nat}{t:TypeId}{x y:C}{val:Value}{lo hi:Option Value}{l h:Option Int}
  (hu:if str then P.underlying t=some .string else∃el,P.underlying t=some (.slice el)/\fS P el=some sz) (hr:RC S w Kn φ x val)
  (hlo':lo.isSome=l.isSome) (hl1:∀x,lo=some x->∃k n,x=.int k n/\l=some n) (hhi':hi.isSome=h.isSome) (hhi:∀x,hi=some x->∃k n,x=.int k n/\h=some n)
  (hs:cZ str sz x l h=some y):∃val',(Instr.sliceAt t val lo hi none).run P w=.ok val' w/\RC S w Kn φ y val':=by
 unfold cZ at hs;cases str with
 |true=>
  simp only[if_true]at hs hu;split at hs
  .rename_i s;split at hs
   .rename_i hb;obtain⟨hb1,hb2,hb3⟩:=hb;obtain rfl:=aa hs;cases hr with
    |d hd=>cases hd with|lit hp=>have:=sq (P:=P) (w:=w) (Ec:=false) (len:=s.size) (cap:=s.size) hlo' hl1 hhi' hhi hb1 hb2 hb3;exact⟨.string (s.extract (l.getD 0).toNat (h.getD s.size).toNat),by simp[Instr.sliceAt,Instr.slice,bQ hu,this],.d (.lit rfl)⟩
   .simp at hs
  .simp at hs
 |false=>
  simp only[aH,if_false]at hs hu;obtain⟨el,hu,hsz⟩:=hu
  have run:∀(a:Addr)(len cap:Nat),val=.slice (some a) len cap->0<=l.getD 0->l.getD 0<=h.getD len->h.getD len<=cap->(cap≠(l.getD 0).toNat->a.spot=none)->
    (Instr.sliceAt t val lo hi none).run P w=.ok (.slice (some (if cap=(l.getD 0).toNat then a else⟨a.block,a.off+(l.getD 0).toNat*sz,none⟩))
     ((h.getD len).toNat-(l.getD 0).toNat) (cap-(l.getD 0).toNat)) w:=by
   intro a len cap hv h0 h1 h2 hsp;have hb:=sq (P:=P) (w:=w) (Ec:=true) (len:=len) (cap:=cap) hlo' hl1 hhi' hhi h0 h1 h2;simp only[Instr.sliceAt,Instr.slice,Sem.run_bind,bQ hu,Result.andThen_ok,hv,hb,gY hsz,Sem.run_pure];congr 2;split
   .rfl
   .rename_i hne;obtain⟨b,off,spot⟩:=a;obtain rfl:spot=none:=hsp hne;simp[ph]
  split at hs
  .split at hs
   .rename_i hb;obtain⟨hb1,hb2,hb3⟩:=hb;obtain rfl:=aa hs;cases hr with
    |d hd=>cases hd with
     |lit hp=>
      have e1:l.getD 0=0:=by omega
      have e2:h.getD 0=0:=by omega
      have hb:=sq (P:=P) (w:=w) (Ec:=true) (len:=0) (cap:=0) hlo' hl1 hhi' hhi hb1 (by simpa using hb2) (by simpa using hb3);refine⟨.slice none 0 0,?_,.d (.lit rfl)⟩;have e3:h.getD (((0:Nat):Int))=0:=e2;rw[e1,e3]at hb;simp only[Instr.sliceAt,Instr.slice,Sem.run_bind,bQ hu,Result.andThen_ok,hb,gY hsz,Sem.run_pure];rfl
   .simp at hs
  .rename_i sz' id off len;split at hs
   .rename_i hb;obtain⟨hb0,hb1,hb2,hb3⟩:=hb;obtain rfl:=aa hs;cases hr with
    |@cE _ _ _ cap addr hk hcap haddr hext hcl=>
     subst hb0;refine⟨_,run _ len cap rfl hb1 hb2 (by omega) (fun _=>rfl),?_⟩;have hle:(l.getD 0).toNat<=cap:=by omega
     by_cases e:cap=(l.getD 0).toNat
     .rw [if_pos e];exact .cE hk (by omega) (fun h=>by omega) (by rw[<-e,nW];omega) (by omega)
     .rw [if_neg e];have ha:=haddr (by omega);refine .cE hk (by omega) (fun _=>?_) ?_ (by omega)
      .show addr+_=_;rw[ha,b_];omega
      .have:(l.getD 0).toNat*(φ id).sz+(cap-(l.getD 0).toNat)*(φ id).sz=cap*(φ id).sz:=by rw[<-b_];congr 1;omega
       show addr+_+_<=_;omega
   .simp at hs
  .rename_i sz' rows;split at hs
   .rename_i hb;obtain⟨hb0,hb1,hb2,hb3⟩:=hb;obtain rfl:=aa hs;cases hr with
    |d hd=>
     cases hd with
     |@sl _ _ b off cap g hb hsz0 hcap hrow hcell hrd=>
      subst hb0;refine⟨_,run _ rows.length cap rfl hb1 hb2 (by omega) (fun _=>rfl),?_⟩;have hR:di S w sz' (fun i=>w.cell? ⟨b,i,none⟩) off rows:=⟨hrow,fun i r hi j x hj=>⟨_,hcell i r hi j x hj,hrd i r hi j x hj⟩⟩
      have hlen:((rows.drop (l.getD 0).toNat).take ((h.getD rows.length).toNat-(l.getD 0).toNat)).length=(h.getD rows.length).toNat-(l.getD 0).toNat:=by simp;omega
      by_cases e:cap=(l.getD 0).toNat
      .rw [if_pos e];exact .d (.AW hb hsz0 hlen (by omega) (hR.xR _ _ fun h=>by omega))
      .rw [if_neg e];exact .d (.AW hb hsz0 hlen (by omega) (hR.xR _ _ fun _=>rfl))
     |@uq _ a hsz0=>
      subst hb0;simp only[abI]at hb1 hb2 hb3;have e1:l.getD 0=0:=by have h2:l.getD 0<=h.getD 0:=hb2;have h3:h.getD 0<=0:=hb3;omega
      refine⟨_,run _ 0 0 rfl hb1 hb2 (by simpa using hb3) (fun hne=>absurd (by rw[e1];rfl) hne),?_⟩;rw[if_pos (by rw[e1];rfl)];have e2:(([]:List (List D)).drop (l.getD 0).toNat).take ((h.getD ([]:List (List D)).length).toNat-(l.getD 0).toNat)=[]:=by simp
      rw[e2];have e3:(h.getD ((0:Nat):Int)).toNat-(l.getD 0).toNat=0:=by have h3:h.getD 0<=0:=hb3;have h4:h.getD ((0:Nat):Int)=h.getD 0:=rfl;rw[h4];omega
      have e4:(0:Nat)-(l.getD 0).toNat=0:=by omega
      first
       |(rw[e3,e4];exact .d (.uq hsz0))
       |(simp[e1]at hb3|-;exact .d (.uq hsz0))
   .simp at hs
  .simp at hs
theorem yU{str:Bool}{sz:Nat}{t:TypeId}{x y:C}{val:Value}{lo:Option Value}{hi:Value}{k2:IntKind}{l:Option Int}{h:Int}{az:List Nat}(hI:Inv S K w0 Kn φ (aw H) w)
  (hu:if str then P.underlying t=some .string else∃el,P.underlying t=some (.slice el)/\fS P el=some sz) (hr:RC S w Kn φ x val)
  (hlo':lo.isSome=l.isSome) (hl1:∀x,lo=some x->∃k n,x=.int k n/\l=some n) (hhi:hi=.int k2 h) (hs:jX str sz x (l.getD 0) h H=some (y,az)):∃val',(Instr.sliceAt t val lo (some hi) none).run P w=.ok val' w/\RC S w Kn φ y val':=by
 unfold jX at hs;split at hs
 case h_2=>simp at hs
 rename_i sz' id off len;simp only[aH,if_false]at hu;obtain⟨el,hu,hsz⟩:=hu
 have key:sz'=sz/\0<=l.getD 0/\l.getD 0<=h/\off+h.toNat<=(φ id).cap/\y=.cE sz id (off+(l.getD 0).toNat) (h.toNat-(l.getD 0).toNat):=by
  split at hs
  .rename_i szo rows hob;split at hs
   case isFalse=>simp at hs
   rename_i hb;obtain⟨hb0,hb1,hb2,hb3⟩:=hb;obtain⟨rfl,_⟩:=af (aa hs);obtain⟨_,h0⟩:=hI.iM _ _ hob;have hvis:rows.length<=(φ id).cap:=by cases h0 with|aK hsz0 hl hS hK hown hext hfit hrr hvis=>exact hvis
   exact⟨hb0,hb1,hb2,by omega,rfl⟩
  .rename_i szo rows cp hob;split at hs
   case isFalse=>simp at hs
   rename_i hb;obtain⟨hb0,hb1,hb2,hb3⟩:=hb;obtain⟨rfl,_⟩:=af (aa hs);obtain⟨_,h0⟩:=hI.iM _ _ hob;have hvis:(φ id).cap=cp:=by cases h0 with|cap hsz0 hl hS hK hown hext hfit hrr hvis hc=>exact hc
   exact⟨hb0,hb1,hb2,by omega,rfl⟩
  .simp at hs
 obtain⟨hb0,hb1,hb2,hvis,rfl⟩:=key;cases hr with
 |@cE _ _ _ cap addr hk hcap haddr hext hcl=>
  subst hb0;have hc:h<=cap:=by omega
  have hbd:=sq (P:=P) (w:=w) (Ec:=true) (len:=len) (cap:=cap) (lo:=lo) (hi:=some hi) (l:=l) (h:=some h) hlo' hl1 rfl (fun x hx=>⟨k2,h,by rw[<-aa hx,hhi],rfl⟩) hb1 hb2 hc;simp only[bF]at hbd;generalize l.getD 0=l at*;refine⟨.slice (some (if cap=l.toNat then⟨(φ id).dj,addr,none⟩else⟨(φ id).dj,addr+l.toNat*(φ id).sz,none⟩)) (h.toNat-l.toNat) (cap-l.toNat),?_,?_⟩
  .simp only[Instr.sliceAt,Instr.slice,Sem.run_bind,bQ hu,Result.andThen_ok,hbd,gY hsz,Sem.run_pure];congr 2;split
   .rfl
   .simp [ph]
  .have hle:l.toNat<=cap:=by omega
   by_cases e:cap=l.toNat
   .rw [if_pos e];exact .cE hk (by omega) (fun h=>by omega) (by rw[<-e,nW];omega) (by omega)
   .rw [if_neg e];have ha:=haddr (by omega);refine .cE hk (by omega) (fun _=>?_) ?_ (by omega)
    .rw [ha,b_];omega
    .have:l.toNat*(φ id).sz+(cap-l.toNat)*(φ id).sz=cap*(φ id).sz:=by rw[<-b_];congr 1;omega
     omega
theorem IV{sz:Nat}{t:TypeId}{el:TypeId}{x a b c:Operand}(ho:o.op=.slice t x (some a) (some b) (some c))
  (hu:P.underlying t=some (.slice el)) (hsz:fS P el=some sz) (hI:Inv S K w0 Kn φ (aw H) w) (hn0:nxt<n'->¬Kn nxt)
  (hρ:∀x tv,ke e x=some tv->fX S w Kn φ tv (ρ x))
  (h:cC call (.wK sz) ([x,a,b,c].map (ke e)) H nxt=some (v,u,az,n')):dH P o ρ S K w0 w Kn φ (aw H) nxt n' v u:=by
 simp only[aq,aW]at h;cases hx:ke e x with
 |none=>rw[hx]at h;simp[cC]at h
 |some tv=>
  rw[hx]at h;cases tv with
  |agg cs=>simp[cC]at h
  |ia xs=>simp[cC]at h
  |c xc=>
   have hr:=hρ x _ hx;cases hr with
   |c hr=>
   change (match cG (ke e a),cG (ke e b),cG (ke e c)with
    |some l,some u,some m=>(match Bh sz xc l u m nxt with|some y=>some (TV.c y,([]:eS),([]:List Nat),nxt+1)|none=>none)
    |_,_,_=>none)=_ at h
   split at h
   .rename_i l hh m hl hhh hm;obtain⟨k1,e1⟩:=jg hl (hρ a);obtain⟨k2,e2⟩:=jg hhh (hρ b);obtain⟨k3,e3⟩:=jg hm (hρ c);split at h
    .rename_i y hy;obtain⟨rfl,rfl,rfl,rfl⟩:TV.c y=v/\[]=u/\[]=az/\nxt+1=n':=by simpa using h
     unfold Bh at hy;split at hy
     .rename_i sz' id off len;split at hy
      .rename_i hb;obtain⟨hb0,hb1,hb2,hb3,hb4⟩:=hb;obtain rfl:=aa hy;have hn:=hn0 (aY _);generalize hv0:ρ x=val at hr;cases hr with
       |@cE _ _ _ cap addr hk hcap haddr hext hcl=>
        subst hb0;have s1:=ko (P:=P) (w:=w) (v:=.int k3 m) (y:=cap) (code:=.slice3Acap) rfl (by omega) (by omega);have s2:=ko (P:=P) (w:=w) (v:=.int k2 hh) (y:=m.toNat) (code:=.slice3B) rfl (by omega) (by omega);have s3:=ko (P:=P) (w:=w) (v:=.int k1 l) (y:=hh.toNat) (code:=.slice3C) rfl (by omega) (by omega);have hbd:(Instr.sliceBounds true len cap (some (.int k1 l)) (some (.int k2 hh)) (some (.int k3 m))).run P w=.ok (l.toNat,hh.toNat,m.toNat) w:=by unfold Instr.sliceBounds;simp[s1,s2,s3]
        let loc:gV:=⟨(φ id).dj,if m.toNat=l.toNat then addr else addr+l.toNat*(φ id).sz,(φ id).sz,(φ id).ext,m.toNat-l.toNat⟩
        have hlt:l.toNat*(φ id).sz+(m.toNat-l.toNat)*(φ id).sz<=cap*(φ id).sz:=by rw[<-b_];exact aL _ (by omega)
        refine⟨.value (.slice (some (if m.toNat=l.toNat then⟨(φ id).dj,addr,none⟩else⟨(φ id).dj,addr+l.toNat*(φ id).sz,none⟩)) (hh.toNat-l.toNat) (m.toNat-l.toNat)),_,w,?_,.inl rfl,bI _,S,ext φ nxt loc,gZ.refl _ _,⟨fun _ h=>.inl h,(jw _ hn).ez⟩,.c ?_,?_⟩
        .simp only[execOp,ho,bK,hv0,e1,e2,e3,Instr.sliceAt,Instr.slice,Sem.run_bind,bQ hu,Result.andThen_ok,hbd,gY hsz,Sem.run_pure];congr 3;split
         .rfl
         .simp [ph]
        .have e:ext φ nxt loc nxt=loc:=by simp[ext]
         have:=RC.cE (S:=S) (w:=w) (Kn:=o4 Kn nxt (nxt+1)) (φ:=ext φ nxt loc) (id:=nxt) (off:=0) (len:=hh.toNat-l.toNat) (cap:=m.toNat-l.toNat) (addr:=loc.aJ)
          (.inr (by omega)) (by omega) (by rw[e];simp) (by
           rw[e];show(if m.toNat=l.toNat then addr else addr+l.toNat*(φ id).sz)+(m.toNat-l.toNat)*(φ id).sz<=(φ id).ext;split
           .rename_i q;rw[q,nW];omega
           .omega) (by rw[e];exact bG _)
         rw[e]at this;have e4:(if m.toNat=l.toNat then(⟨(φ id).dj,addr,none⟩:Addr)else⟨(φ id).dj,addr+l.toNat*(φ id).sz,none⟩)=⟨(φ id).dj,if m.toNat=l.toNat then addr else addr+l.toNat*(φ id).sz,none⟩:=by split<;>rfl
         rw[e4];exact this
        .have hren:=jw (Kn:=Kn) (φ:=φ) loc hn;have:=hI.pN (gZ.refl _ _) hren hI.vJ hI.sk hI.od (hf':=aw H) (fun i o ho=>.inl ⟨ho,fun hown=>⟨rfl,((hI.iM i o ho).2.bD hown).1⟩⟩) (fun i j a b hi hj oa ob hne=>by rw[hren.ez _ (hI.iM i a hi).1,hren.ez _ (hI.iM j b hj).1];exact hI.o9 i j a b hi hj oa ob hne) (hI.Dx hren fun _ _=>rfl);exact this.wd fun j=>oU j
      .simp at hy
     .simp at hy
    .simp at h
   .simp at h
theorem DO{str:Bool}{sz:Nat}{t:TypeId}{x:Operand}{lo hi:Option Operand}(ho:o.op=.slice t x lo hi none)
  (hu:if str then P.underlying t=some .string else∃el,P.underlying t=some (.slice el)/\fS P el=some sz) (hI:Inv S K w0 Kn φ (aw H) w)
  (hρ:∀x tv,ke e x=some tv->fX S w Kn φ tv (ρ x))
  (h:cC call (.slice str sz lo.isSome hi.isSome) ((x::lo.toList++hi.toList).map (ke e)) H nxt=some (v,u,az,n')):dH P o ρ S K w0 w Kn φ (aw H) nxt n' v u:=by
 simp only[List.cons_append,aq,List.map_append]at h;cases hx:ke e x with
 |none=>rw[hx]at h;cases lo<;>cases hi<;>simp[cC]at h
 |some tv=>
  rw[hx]at h;cases tv with
  |agg cs=>cases lo<;>cases hi<;>simp[cC]at h
  |ia xs=>cases lo<;>cases hi<;>simp[cC]at h
  |c c=>
   have hr:=hρ x _ hx;cases hr with
   |c hr=>
   have fin:∀l h',lo.isSome=l.isSome->(∀y,lo=some y->cG (ke e y)=l)->hi.isSome=h'.isSome->(∀y,hi=some y->cG (ke e y)=h')->
     (match cZ str sz c l h' with|some y=>some (TV.c y,([]:eS),([]:List Nat),nxt)|none=>none)=some (v,u,az,n')->dH P o ρ S K w0 w Kn φ (aw H) nxt n' v u:=by
    intro l h' e1 e2 e3 e4 hm;split at hm
    .rename_i y hy;obtain⟨rfl,rfl,rfl,rfl⟩:TV.c y=v/\[]=u/\[]=az/\nxt=n':=by simpa using hm
     have conv:∀(q:Option Operand)(l:Option Int),q.isSome=l.isSome->(∀y,q=some y->cG (ke e y)=l)->∀x,q.map ρ=some x->∃k n,x=.int k n/\l=some n:=by
      intro q l e1 e2 x hq;cases q with
      |none=>simp at hq
      |some y=>
       obtain rfl:ρ y=x:=by simpa using hq
       cases l with|none=>simp at e1|some n=>obtain⟨k,hk⟩:=jg (e2 y rfl) (hρ y);exact⟨k,n,hk,rfl⟩
     obtain⟨val',h1,h2⟩:=Dq (P:=P) (lo:=lo.map ρ) (hi:=hi.map ρ) hu hr (by simpa using e1) (conv lo l e1 e2) (by simpa using e3) (conv hi h' e3 e4) hy;exact dH.pure hI (by simp[execOp,ho,h1]) (.c h2)
    .simp at hm
   cases lo with
   |none=>
    cases hi with
    |none=>exact fin none none rfl (fun y hy=>by simp at hy) rfl (fun y hy=>by simp at hy) h
    |some z=>
     change (match cG (ke e z)with|some u=>(match cZ str sz c none (some u)with|some y=>some (TV.c y,([]:eS),([]:List Nat),nxt)|none=>(match jX str sz c 0 u H with|some (y,az)=>some (TV.c y,([]:eS),az,nxt)|none=>none))|none=>none)=_ at h;split at h
     .rename_i n hn;split at h
      .rename_i y hy;exact fin none (some n) rfl (fun y hy=>by simp at hy) rfl (fun y hy=>aa hy▸hn) (by rw[hy];exact h)
      .split at h
       .rename_i y ids1 hy;obtain⟨rfl,rfl,_,rfl⟩:TV.c y=v/\[]=u/\ids1=az/\nxt=n':=by simpa using h
        obtain⟨k2,e2⟩:=jg hn (hρ z);obtain⟨val',h1,h2⟩:=yU (P:=P) (t:=t) (lo:=none) (l:=none) hI hu hr rfl (fun x hx=>by simp at hx) e2 hy;exact dH.pure hI (by simp[execOp,ho,h1]) (.c h2)
       .simp at h
     .simp at h
   |some q=>
    cases hi with
    |none=>
     change (match cG (ke e q)with|some l=>(match cZ str sz c (some l) none with|some y=>some (TV.c y,([]:eS),([]:List Nat),nxt)|none=>none)|none=>none)=_ at h;split at h
     .rename_i n hn;exact fin (some n) none rfl (fun y hy=>aa hy▸hn) rfl (fun y hy=>by simp at hy) h
     .simp at h
    |some z=>
     change (match cG (ke e q),cG (ke e z)with
      |some l,some u=>(match cZ str sz c (some l) (some u)with
       |some y=>some (TV.c y,([]:eS),([]:List Nat),nxt)
       |none=>(match jX str sz c l u H with|some (y,az)=>some (TV.c y,([]:eS),az,nxt)|none=>none))
      |_,_=>none)=_ at h
     split at h
     .rename_i m n hm hn;split at h
      .rename_i y hy;exact fin (some m) (some n) rfl (fun y hy=>aa hy▸hm) rfl (fun y hy=>aa hy▸hn) (by rw[hy];exact h)
      .split at h
       .rename_i y ids1 hy;obtain⟨rfl,rfl,_,rfl⟩:TV.c y=v/\[]=u/\ids1=az/\nxt=n':=by simpa using h
        obtain⟨k1,e1⟩:=jg hm (hρ q);obtain⟨k2,e2⟩:=jg hn (hρ z);obtain⟨val',h1,h2⟩:=yU (P:=P) (t:=t) (lo:=some (ρ q)) (l:=some m) hI hu hr rfl (fun x hx=>⟨k1,m,by rw[<-aa hx,e1],rfl⟩) e2 hy;exact dH.pure hI (by simp[execOp,ho,h1]) (.c h2)
       .simp at h
     .simp at h
theorem vX{t:TypeId}{x i:Operand}{aK:Option Nat}{sz:Nat}(ho:o.op=.indexAddr t x i)
  (hu:match aK with|none=>∃el,P.underlying t=some (.slice el)/\fS P el=some sz|some len=>∃el,P.underlying t=some (.array len el)/\fS P el=some sz)
  (hI:Inv S K w0 Kn φ (aw H) w) {tx ti:Option TV} (hx:∀y,tx=some y->fX S w Kn φ y (ρ x)) (hi:∀y,ti=some y->fX S w Kn φ y (ρ i))
  (h:cC call (.indexAddr aK sz) [tx,ti] H nxt=some (v,u,az,n')):dH P o ρ S K w0 w Kn φ (aw H) nxt n' v u:=by
 match tx,h,hx with
 |some (.c c),h,hx=>
  change (match cG ti with|some i=>(match je aK sz c i with|some y=>some (TV.c y,([]:eS),([]:List Nat),nxt)|none=>none)|none=>none)=_ at h;split at h
  .rename_i n hn;obtain⟨k,hk⟩:=jg hn hi;split at h
   .rename_i y hy;obtain⟨rfl,rfl,rfl,rfl⟩:TV.c y=v/\[]=u/\[]=az/\nxt=n':=by simpa using h
    have hr:=hx _ rfl;generalize hv0:ρ x=val at hr;cases hr with
    |c hr=>
    cases aK with
    |none=>
     obtain⟨el,hu,hsz⟩:=hu;simp only[je]at hy;have run:∀b off len cap,val=.slice (some ⟨b,off,none⟩) len cap->0<=n->n<len->(execOp ρ o).run P w=.ok (.value (.pointer (some ⟨b,off+n.toNat*sz,none⟩))) w:=by intro b off len cap hv h0 h1;simp[execOp,ho,hv0,hv,Instr.indexAt,nd hk,bQ hu,h0,h1,gY hsz,ph]
     split at hy
     .rename_i sz' id off len;split at hy
      .rename_i hb;obtain⟨h0,h1,rfl⟩:=hb;obtain rfl:=aa hy;cases hr with
       |@cE _ _ _ cap addr hkn hcap haddr hext=>
        refine dH.pure hI (run _ _ _ _ rfl h0 h1) (.c ?_);have ha:=haddr (by omega);have e1:addr+n.toNat*(φ id).sz=(φ id).aJ+(off+n.toNat)*(φ id).sz+0:=by rw[ha,b_];omega
        rw[e1];exact .ep hkn
      .simp at hy
     .rename_i sz' rows;split at hy
      .rename_i hb;obtain⟨h0,rfl⟩:=hb;split at hy
       .rename_i r hr';obtain rfl:=aa hy;cases hr with
        |d hd=>cases hd with|@sl _ _ b off cap g hb hsz0 hcap hrow hcell hrd=>have hlt:n.toNat<rows.length:=(ap.1 hr').1;refine dH.pure hI (run _ _ _ _ rfl h0 (by omega)) (.c (.d (.ze hb fun j z hj=>⟨_,hcell _ _ hr' j z hj,hrd _ _ hr' j z hj⟩)))|uq=>simp at hr'
       .simp at hy
      .simp at hy
     .simp at hy
    |some len=>
     obtain⟨el,hu,hsz⟩:=hu;simp only[je]at hy;split at hy
     .rename_i hb;obtain⟨h0,h1⟩:=hb;have run:∀b off,val=.pointer (some ⟨b,off,none⟩)->(execOp ρ o).run P w=.ok (.value (.pointer (some ⟨b,off+n.toNat*sz,none⟩))) w:=by intro b off hv;have hu':∀w,(underlying t).run P w=.ok (.array len el) w:=bQ hu;simp only[execOp,ho,hv0,hv,Instr.indexAt,Sem.run_bind,nd hk,Result.andThen_ok,hu',Instr.sureAddr,Sem.run_pure,h0,h1,and_self,if_true,gY hsz,ph]
      split at hy
      .rename_i id off;obtain rfl:=aa hy;cases hr with|op hkn=>refine dH.pure hI (run _ _ rfl) (.c ?_);rw[dz];exact .op hkn
      .rename_i id fy off;obtain rfl:=aa hy;cases hr with|ep hkn=>refine dH.pure hI (run _ _ rfl) (.c ?_);rw[dz];exact .ep hkn
      .rename_i cells;split at hy
       .obtain rfl:=aa hy;cases hr with
        |d hd=>
         cases hd with
         |@pt _ b off g hb hcell hrd=>
          refine dH.pure hI (run _ _ rfl) (.c (.d (.ze hb fun j z hj=>?_)));rw[fc]at hj;split at hj
          .rw [bS]at hj;exact⟨_,by rw[dz];exact hcell _ _ hj,hrd _ _ hj⟩
          .simp at hj
       .simp at hy
      .simp at hy
     .simp at hy
   .simp at h
  .simp at h
theorem DR{t:TypeId}{x i:Operand}(ho:o.op=.index t x i)(hu:P.underlying t=some .string)(hI:Inv S K w0 Kn φ (aw H) w)
  {tx ti:Option TV} (hx:∀y,tx=some y->fX S w Kn φ y (ρ x)) (hi:∀y,ti=some y->fX S w Kn φ y (ρ i))
  (h:cC call .p9 [tx,ti] H nxt=some (v,u,az,n')):dH P o ρ S K w0 w Kn φ (aw H) nxt n' v u:=by
 match tx,h,hx with
 |some (.c (.d (.lit (.string s)))),h,hx=>
  change (match cG ti with|some i=>(match(if 0<=i then s[i.toNat]?else none)with|some b=>some (lv (.int .u8 b.toNat),([]:eS),([]:List Nat),nxt)|none=>none)|none=>none)=_ at h;split at h
  .rename_i n hn;obtain⟨k,hk⟩:=jg hn hi;split at h
   .rename_i b hb;obtain⟨rfl,rfl,rfl,rfl⟩:lv (.int .u8 b.toNat)=v/\[]=u/\[]=az/\nxt=n':=by simpa using h
    obtain⟨hv,_⟩:=(hx _ rfl).lit;exact dH.pure hI (by simp[execOp,ho,hv,Instr.index,nd hk,bQ hu,hb]) (.rj rfl)
   .simp at h
  .simp at h
theorem Dp{t:TypeId}{agg:Bool}{n off:Nat}(ha:ge P t=some agg)(hn:fS P t=some n){cs:List C}{aK:Array Value}{v:TV}(hlen:cs.length=aK.size)
  (hc:∀(i:Nat)(x:C),cs[i]?=some x->RC S w Kn φ x (aK.getD i undef)) (h:D8 agg n (cs.drop off)=some v):∃val,(part t aK off).run P w=.ok val w/\fX S w Kn φ v val:=by
 unfold D8 at h;cases agg with
 |true=>
  simp only[if_true]at h;split at h
  .rename_i hle;obtain rfl:=aa h;simp only[List.length_drop]at hle;refine⟨.agg (aK.extract off (off+n)),by simp[part,ut ha,gY hn],.agg ?_ fun i x hi=>?_⟩
   .simp;omega
   .rw [fc]at hi;split at hi
    .rename_i hin;rw[bS]at hi;have hlt:off+i<aK.size:=by rw[<-hlen];exact(ap.1 hi).1
     have e1:(aK.extract off (off+n)).getD i undef=aK.getD (off+i) undef:=by
      have h1:(aK.extract off (off+n))[i]?=aK[off+i]?:=by rw[Array.getElem?_extract,if_pos (by omega)]
      simp only[Array.getD_eq_getD_getElem?,h1]
     rw[e1];exact hc _ _ hi
    .simp at hi
  .simp at h
 |false=>
  simp only[aH,if_false]at h;split at h
  .rename_i x r hd;obtain rfl:=aa h;have hx:cs[off]?=some x:=by have:=congrArg (fun l=>l[0]?) hd;simpa using this
   have hlt:off<aK.size:=by rw[<-hlen];exact(ap.1 hx).1
   refine⟨aK.getD off undef,?_,.c (hc _ _ hx)⟩;simp[part,ut ha,hlt]
  .simp at h
theorem Lc{s:TypeId}{f n:Nat}{agg:Bool}{fields:Array Field}{fl:Field}{x:Operand}(ho:o.op=.field s x f)(hu:P.underlying s=some (.struct fields))(hf:fields[f]?=some fl)
  (ha:ge P fl.type=some agg) (hs:fS P fl.type=some n) (hI:Inv S K w0 Kn φ (aw H) w) {tv:Option TV} (hx:∀y,tv=some y->fX S w Kn φ y (ρ x))
  (h:cC call (.field agg fl.offset n) [tv] H nxt=some (v,u,az,n')):dH P o ρ S K w0 w Kn φ (aw H) nxt n' v u:=by
 match tv,h,hx with
 |some (.agg cs),h,hx=>
  change (match D8 agg n (cs.drop fl.offset)with|some v=>some (v,([]:eS),([]:List Nat),nxt)|none=>none)=_ at h;split at h
  .rename_i y hy;obtain⟨rfl,rfl,rfl,rfl⟩:y=v/\[]=u/\[]=az/\nxt=n':=by simpa using h
   have hr:=hx _ rfl;generalize hv0:ρ x=val at hr;cases hr with|agg hlen hc=>obtain⟨val,h1,h2⟩:=Dp ha hs hlen hc hy;exact dH.pure hI (by simp[execOp,ho,hv0,Instr.field,bQ hu,hf,asAgg,h1]) h2
  .simp at h
theorem Lb{t el:TypeId}{len n:Nat}{agg:Bool}{x i:Operand}(ho:o.op=.index t x i)(hu:P.underlying t=some (.array len el))
  (ha:ge P el=some agg) (hs:fS P el=some n) (hI:Inv S K w0 Kn φ (aw H) w) {tx ti:Option TV} (hx:∀y,tx=some y->fX S w Kn φ y (ρ x)) (hi:∀y,ti=some y->fX S w Kn φ y (ρ i))
  (h:cC call (.index agg len n) [tx,ti] H nxt=some (v,u,az,n')):dH P o ρ S K w0 w Kn φ (aw H) nxt n' v u:=by
 match tx,h,hx with
 |some (.agg cs),h,hx=>
  change (match cG ti with|some i=>(if 0<=i/\i<len then(match D8 agg n (cs.drop (i.toNat*n))with|some v=>some (v,([]:eS),([]:List Nat),nxt)|none=>none)else none)|none=>none)=_ at h;split at h
  .rename_i m hm;obtain⟨k,hk⟩:=jg hm hi;split at h
   .rename_i hb;split at h
    .rename_i y hy;obtain⟨rfl,rfl,rfl,rfl⟩:y=v/\[]=u/\[]=az/\nxt=n':=by simpa using h
     have hr:=hx _ rfl;generalize hv0:ρ x=val at hr;cases hr with|agg hlen hc=>obtain⟨val,h1,h2⟩:=Dp ha hs hlen hc hy;exact dH.pure hI (by simp[execOp,ho,hv0,Instr.index,nd hk,bQ hu,hb.1,hb.2,gY hs,h1]) h2
    .simp at h
   .simp at h
  .simp at h
end
section
variable{P:Program}{S K:Nat->Prop}{w0 w:World}{Kn:Nat->Prop}{φ:Nat->gV}{H:bC}{e:iL}{ρ:Operand->Value}{o:Oper}{call:Call}
 {nxt n':Nat} {v:TV} {u:eS} {az:List Nat}
def OK(m:Bool):Value->Value->Sem Value:=if m then Builtin.max2 else Builtin.min2
theorem Qm{m:Bool}{k:FloatKind}{a b:Nat}(hn:xT k a)(hm:xT k b)(y:Value):C0 m (.float k a) y=C0 m (.float k b) y:=by cases y with|float k' y=>unfold C0;obtain⟨_,_,_,_,a5⟩:=HC hn y;obtain⟨_,_,_,_,b5⟩:=HC hm y;simp[a5,b5]|_=>rfl
theorem Ql{m:Bool}{k:FloatKind}{a b:Nat}(hn:xT k a)(hm:xT k b)(y:Value):C0 m y (.float k a)=C0 m y (.float k b):=by cases y with|float k' y=>simp_all[C0,HB]|_=>rfl
theorem I_{m:Bool}{a b va vb v:Value}(ha:s_ a va)(hb:s_ b vb)(h:C0 m a b=some v):C0 m va vb=some v:=by
 cases ha with
 |ex=>cases hb<;>(cases h)
 |lit _=>cases hb with|lit _=>exact h|nan hn hm=>rw[<-Ql hn hm];exact h|ex=>cases a<;>cases h
 |nan hn hm=>cases hb with|lit _=>rw[<-Qm hn hm];exact h|nan hn' hm'=>rw[<-Qm hn hm,<-Ql hn' hm'];exact h|ex=>cases h
theorem N5{m:Bool}{x y z:Value}(h:C0 m x y=some z):∃z' n,(OK m x y).run P w=.ok z' {w with drawn:=n}/\w.drawn<=n/\s_ z z':=by
 have key:(OK m x y).run P w=.ok z w/\ft z=true->∃z' n,(OK m x y).run P w=.ok z' {w with drawn:=n}/\w.drawn<=n/\s_ z z':=fun h=>⟨z,w.drawn,h.1,am _,.lit h.2⟩;unfold C0 at h;split at h
 .split at h
  .obtain rfl:=aa h;refine key ?_;cases m<;>simp[OK,Builtin.max2,Builtin.min2,ft]
  .simp at h
 .rename_i k a k' b;split at h
  .split at h
   .rename_i ho;obtain rfl:=aa h;refine⟨.float k ((Question.nanMinMax k m a b).cut (w.tape w.drawn (.nanMinMax k m a b))),w.drawn+1,?_,bI _,.nan (Ed k) ?_⟩
    .cases m<;>simp[OK,Builtin.max2,Builtin.min2,ho,run_choose,Question.forced]
    .have:∀t,(Question.nanMinMax k m a b).cut t=(Question.nanBits k a b).cut t:=by intro t;cases k<;>rfl
     rw[this];exact HM _ _ _ _
   .rename_i ho;obtain rfl:=aa h;refine key ?_;cases m<;>simp[OK,Builtin.max2,Builtin.min2,ft,ho]
   .rename_i ho;obtain rfl:=aa h;refine key ?_;cases m<;>simp[OK,Builtin.max2,Builtin.min2,ft,ho]
   .rename_i ho;obtain rfl:=aa h;refine key ?_;cases m<;>simp[OK,Builtin.max2,Builtin.min2,ft,ho]
  .simp at h
 .simp at h
theorem N4{m:Bool}(hρ:∀x y,ke e x=some (.c (.d (.lit y)))->s_ y (ρ x)):∀(r:List Operand)(x z vx:Value)(w:World),s_ x vx->Lr m x (r.map (ke e))=some z->
  ∃z' n,((r.map ρ).foldlM (OK m) vx).run P w=.ok z' {w with drawn:=n}/\w.drawn<=n/\s_ z z':=by
 intro r;induction r with
 |nil=>
  intro x z vx w hx h;obtain rfl:x=z:=by simpa[Lr]using h
  exact⟨vx,w.drawn,rfl,am _,hx⟩
 |cons a r ih=>
  intro x z vx w hx h;simp at h|-
  match ha:ke e a,h with
  |some (.c (.d (.lit y))),h=>
   simp[Lr]at h;split at h
   .rename_i z' hz;have hz:=I_ hx (hρ a _ ha) hz;obtain⟨z1,n1,h1,l1,e1⟩:=N5 (P:=P) hz;obtain⟨z2,n2,h3,l2,e2⟩:=ih z' z z1 {w with drawn:=n1} e1 h;refine⟨z2,n2,?_,Nat.le_trans l1 l2,e2⟩;simp_all
   .simp at h
theorem A4{m:Bool}{c:n_}(ho:o.op=.call c)(hcal:c.callee=.builtin (if m then .max else .min))(hI:Inv S K w0 Kn φ (aw H) w)
  (hρ:∀x tv,ke e x=some tv->fX S w Kn φ tv (ρ x)) (h:cC call (.sC m) (c.args.toList.map (ke e)) H nxt=some (v,u,az,n')):dH P o ρ S K w0 w Kn φ (aw H) nxt n' v u:=by
 generalize hargs:c.args.toList=args at h;cases args with
 |nil=>simp[cC]at h
 |cons a r=>
  simp only[aq]at h
  match ha:ke e a,h with
  |some (.c (.d (.lit x))),h=>
   change (match Lr m x (r.map (ke e))with|some v=>some (lv v,([]:eS),([]:List Nat),nxt)|none=>none)=_ at h;split at h
   .rename_i z hz;obtain⟨rfl,rfl,rfl,rfl⟩:lv z=v/\[]=u/\[]=az/\nxt=n':=by simpa using h
    obtain⟨z',n,h1,hle,h4⟩:=N4 (P:=P) (fun x y hx=>(hρ x _ hx).I4) r x z _ w (hρ a _ ha).I4 hz;have e1:List.map ρ c.args.toList=ρ a::r.map ρ:=by rw[hargs,aq]
    refine⟨.value z',z',_,?_,.inl rfl,am _,S,φ,gZ.uQ _ _ _,qz _ _,.F8 h4,(hI.uQ n hle).kn fun _ hi=>.inl hi⟩;cases m
    .have h1':((r.map ρ).foldlM Builtin.min2 (ρ a)).run P w=.ok z' {w with drawn:=n}:=h1;simp_all[execOp,resolve,invoke,builtin,Builtin.min_]
    .have h1':((r.map ρ).foldlM Builtin.max2 (ρ a)).run P w=.ok z' {w with drawn:=n}:=h1;simp[execOp,ho,hcal,resolve,invoke,builtin,Builtin.max_,e1,h1']
   .simp at h
def CR(S:Nat->Prop)(w:World)(Kn:Nat->Prop)(φ:Nat->gV)(cs:List C)(vs:List Value):Prop:=cs.length=vs.length/\∀(i:Nat)(x:C)(y:Value),cs[i]?=some x->vs[i]?=some y->RC S w Kn φ x y
theorem CR.aX{cs ds:List C}{vs us:List Value}(h1:CR S w Kn φ cs vs)(h2:CR S w Kn φ ds us)(off:Nat)(hfit:off+ds.length<=cs.length):
  CR S w Kn φ (aX cs off ds) (aX vs off us):=by
 have hl1:=h1.1;have hl2:=h2.1;refine⟨by grind [eT],fun i x y hx hy=>?_⟩;rw[jV _ _ _ hfit]at hx;rw[jV _ _ _ (by omega)]at hy;by_cases c1:i<off
 .rw [if_pos c1]at hx hy;exact h1.2 i x y hx hy
 .rw [if_neg c1]at hx hy;by_cases c2:i<off+ds.length
  .rw [if_pos c2]at hx;rw[if_pos (by omega)]at hy;exact h2.2 _ x y hx hy
  .rw [if_neg c2]at hx;rw[if_neg (by omega)]at hy;exact h1.2 i x y hx hy
theorem fX.cr{tv:TV}{val:Value}{cs:List C}(h:fX S w Kn φ tv val)(hc:cellsOf tv=some cs):CR S w Kn φ cs val.cells.toList:=by
 obtain⟨h1,h2,_⟩:=h.cells hc;refine⟨by simpa using h1,fun i x y hx hy=>?_⟩;have:=h2 i x hx;have e1:val.cells.getD i undef=y:=by simp_all
 rwa[e1]at this
theorem zQ{cs:List C}{aK:Array Value}(h:CR S w Kn φ cs aK.toList):cs.length=aK.size/\∀(i:Nat)(x:C),cs[i]?=some x->RC S w Kn φ x (aK.getD i undef):=by
 have hl:=by simpa using h.1
 refine⟨hl,fun i x hx=>?_⟩;have hlt:i<aK.size:=by grind
 refine h.2 i x _ hx ?_;simp[hlt]
theorem LD:∀(l:List Value)(k:Nat)(aK:Array Value)(off:Nat),off+k+l.length<=aK.size->
  ((l.zipIdx k).foldl (fun(cs:Array Value)(p:Value×Nat)=>cs.setIfInBounds (off+p.2) p.1) aK).toList=aX aK.toList (off+k) l:=by
 intro l;induction l with
 |nil=>simp[aX]
 |cons a l ih=>
  intro k aK off hfit;simp only[List.length_cons]at hfit;simp only[List.zipIdx_cons,List.foldl_cons];rw[ih (k+1) _ off (by simp;omega)];apply List.ext_getElem?;intro i;rw[jV _ _ _ (by simp;omega),jV _ _ _ (by simp;omega)];by_cases c1:i<off+k
  .have c3:i<off+(k+1):=by omega
   have c4:¬off+k=i:=by omega
   simp[c1,c3,c4]
  .by_cases c2:i=off+k
   .have:=by omega
    have c5:off+k<aK.size:=by omega
    simp[this,c5]
   .have c3:¬i<off+(k+1):=by omega
    have c4:¬off+k=i:=by omega
    by_cases c5:i<off+k+(l.length+1)
    .have c6:i<off+(k+1)+l.length:=by omega
     have c7:i-(off+k)=(i-(off+(k+1)))+1:=by omega
     simp[c1,c3,c5,c6,c7]
    .have c6:¬i<off+(k+1)+l.length:=by omega
     simp[c1,c3,c4,c5,c6]
theorem PT(vs aK:Array Value)(off:Nat)(hfit:off+vs.size<=aK.size):
  (vs.zipIdx.foldl (fun(cs:Array Value)(p:Value×Nat)=>cs.setIfInBounds (off+p.2) p.1) aK).toList=aX aK.toList off vs.toList:=by
 rw[<-Array.foldl_toList];simp_all[LD]
theorem vv(place:Nat->Option (Nat×Nat)):∀(parts:List (Nat×Operand))(pl:List (Nat×Nat))(xs:List TV)(cs cs':List C)(aK:Array Value),
  pl.length=parts.length->(∀(i:Nat)(p:Nat×Operand)(q:Nat×Nat),parts[i]?=some p->pl[i]?=some q->place p.1=some q)->
  xs.length=parts.length->(∀(i:Nat)(p:Nat×Operand)(x:TV),parts[i]?=some p->xs[i]?=some x->fX S w Kn φ x (ρ p.2))->
  CR S w Kn φ cs aK.toList->li cs (pl.zip xs)=some cs'->
  ∃arr',Instr.fill place aK (parts.map fun p=>(p.1,ρ p.2))=some arr'/\CR S w Kn φ cs' arr'.toList:=by
 intro parts;induction parts with
 |nil=>
  intro pl xs cs cs' aK h1 _ h2 _ hcr h;have e1:pl=[]:=List.length_eq_zero_iff.1 h1;subst e1;obtain rfl:cs=cs':=by simpa[li]using h
  exact⟨aK,rfl,hcr⟩
 |cons p parts ih=>
  intro pl xs cs cs' aK h1 hpl h2 hxs hcr h;cases pl with
  |nil=>simp at h1
  |cons q pl=>
   cases xs with
   |nil=>simp at h2
   |cons x xs=>
    obtain⟨off,n⟩:=q;simp only[List.zip_cons_cons,li]at h;split at h
    .rename_i ds hds;split at h
     .have hp:=hpl 0 p (off,n) rfl rfl;have hx:=(hxs 0 p x rfl rfl).cr hds;have hsz:=by have:=hx.1;simp at this;omega
      have hal:=by simpa using hcr.1
      have hcr':=hcr.aX hx off (by omega);rw[<-PT (ρ p.2).cells aK off (by omega)]at hcr'
      obtain⟨arr',h3,h4⟩:=ih pl xs _ cs' _ (by simpa using h1) (fun i p q hp hq=>hpl (i+1) p q (by simpa using hp) (by simpa using hq)) (by simpa using h2)
       (fun i p x hp hx=>hxs (i+1) p x (by simpa using hp) (by simpa using hx)) hcr' h
      refine⟨arr',?_,h4⟩;simp only[aq,Instr.fill,hp]
      grind
     .simp at h
    .simp at h
theorem B_{z:List Value}(hp:∀x∈z,ft x=true):CR S w Kn φ (fm z) z:=by refine⟨by simp[fm],fun i x y hx hy=>?_⟩;simp only[fm,aQ,hy]at hx;obtain rfl:=aa hx;exact .d (.lit (hp y (bp hy)))
theorem FU{fields:Array Field}:∀{is:List Nat}{pl:List (Nat×Nat)},rD P fields is=some pl->pl.length=is.length/\
  ∀(k i:Nat)(q:Nat×Nat),is[k]?=some i->pl[k]?=some q->∃f,fields[i]?=some f/\q.1=f.offset/\fS P f.type=some q.2:=by
 intro is;induction is with
 |nil=>
  intro pl h;obtain rfl:[]=pl:=by simpa[rD]using h
  simp_all
 |cons i is ih=>
  intro pl h;simp[rD]at h;split at h
  .rename_i f l hf hl;split at h
   .rename_i n hn;obtain rfl:=aa h;obtain⟨h1,h2⟩:=ih hl;refine⟨by simp[h1],fun k j q hk hq=>?_⟩;cases k with
    |zero=>
     obtain rfl:i=j:=by simpa using hk
     obtain rfl:(f.offset,n)=q:=by simpa using hq
     exact⟨f,hf,rfl,hn⟩
    |succ k=>exact h2 k j q (by simpa using hk) (by simpa using hq)
   .simp at h
  .simp at h
theorem FI(g:Field->Nat×Nat):∀(l:List Field),(∀f∈l,∃n,fS P f.type=some n/\g f=(f.offset,n))->
  (l.mapM fun f=>(do pure (f.offset,<-sizeOf f.type):Sem (Nat×Nat))).run P w=.ok (l.map g) w:=by
 intro l;induction l with|nil=>intro _;rfl|cons f l ih=>simp_all[gY]
theorem DV{t:TypeId}{parts:Array (Nat×Operand)}{z:List Value}{pl:List (Nat×Nat)}(ho:o.op=.build t parts)(hz:jU P t=some z)
  (hu:(∃fields,P.underlying t=some (.struct fields)/\rD P fields (parts.toList.map (·.1))=some pl/\fields.toList.all (fun f=>(fS P f.type).isSome)=true)\/
   (∃len el n,P.underlying t=some (.array len el)/\fS P el=some n/\pl=parts.toList.map fun p=>(p.1*n,n)))
  (hI:Inv S K w0 Kn φ (aw H) w) (hρ:∀x tv,ke e x=some tv->fX S w Kn φ tv (ρ x))
  (h:cC call (.build z pl) ((parts.toList.map (·.2)).map (ke e)) H nxt=some (v,u,az,n')):dH P o ρ S K w0 w Kn φ (aw H) nxt n' v u:=by
 change (match dY ((parts.toList.map (·.2)).map (ke e))with
  |some xs=>(match li (fm z) (pl.zip xs)with|some cs=>some (TV.agg cs,([]:eS),([]:List Nat),nxt)|none=>none)
  |none=>none)=_ at h
 split at h
 .rename_i xs hxs;split at h
  .rename_i cs hcs;obtain⟨rfl,rfl,rfl,rfl⟩:TV.agg cs=v/\[]=u/\[]=az/\nxt=n':=by simpa using h
   obtain⟨hl,hr⟩:=ud hρ hxs;obtain⟨zv,hzr,hzl,hzp⟩:=oO hz w
   have key:∀place:Nat->Option (Nat×Nat),pl.length=parts.toList.length->(∀(i:Nat)(p:Nat×Operand)(q:Nat×Nat),parts.toList[i]?=some p->pl[i]?=some q->place p.1=some q)->
     ∃arr',Instr.fill place zv.cells ((parts.map fun p=>(p.1,ρ p.2)).toList)=some arr'/\CR S w Kn φ cs arr'.toList:=by
    intro place h1 h2
    have:=vv (S:=S) (w:=w) (Kn:=Kn) (φ:=φ) (ρ:=ρ) place parts.toList pl xs (fm z) cs zv.cells h1 h2 (by simpa using hl) (fun i p x hp hx=>hr i p.2 x (by simp_all) hx)
     (by rw[hzl];exact B_ hzp) hcs
    simpa using this
   rcases hu with⟨fields,hu,hpl,hall⟩|⟨len,el,n,hu,hn,rfl⟩
   .obtain ⟨h1,h2⟩:=FU hpl;let g:Field->Nat×Nat:=fun f=>(f.offset,(fS P f.type).getD 0)
    have hg:(fields.mapM fun f=>(do pure (f.offset,<-sizeOf f.type):Sem (Nat×Nat))).run P w=.ok (fields.map g) w:=by
     rw[Array.mapM_eq_mapM_toList]
     have:=FI (P:=P) (w:=w) g fields.toList fun f hf=>by
      grind [a_,Option.isSome_iff_exists]
     simp only[Sem.run_map,this,Result.andThen_ok];congr 1;apply Array.ext';rw[Array.toList_map]
    obtain⟨arr',h3,h4⟩:=key (fun i=>(fields.map g)[i]?) (by simpa using h1) (fun i p q hp hq=>by
     obtain⟨f,hf,hq1,hq2⟩:=h2 i p.1 q (by grind) hq
     grind)
    obtain⟨h5,h6⟩:=zQ h4;refine dH.pure (val:=.agg arr') hI ?_ (.agg h5 h6);simp only[execOp,ho,Sem.run_bind,Instr.build,hzr,Result.andThen_ok,bQ hu,hg,h3,Sem.run_pure]
   .obtain ⟨arr',h3,h4⟩:=key (fun i=>some (i*n,n)) (by simp) (fun i p q hp hq=>by simp_all);obtain⟨h5,h6⟩:=zQ h4;refine dH.pure (val:=.agg arr') hI ?_ (.agg h5 h6);simp only[execOp,ho,Sem.run_bind,Instr.build,hzr,Result.andThen_ok,bQ hu,gY hn,h3,Sem.run_pure]
  .simp at h
 .simp at h
theorem kZ.from{S1:Nat->Prop}{hf hf1:Nat->Option Ob}{u1 u2:eS}{val:Value}{w':World}(hs:gZ S w S1 w)(he:hf1=bq u1 hf)(h:kZ S1 K w0 w Kn φ hf1 nxt n' v u2 val w'):
  kZ S K w0 w Kn φ hf nxt n' v (u2++u1) val w':=by
 obtain⟨h1,S',φ',h2,h3,h4,h5⟩:=h;exact⟨h1,S',φ',hs.trans h2,h3,h4,by rw[ei,<-he];exact h5⟩
theorem GF{α:Type}(sz:Nat):∀(n:Nat)(l:List α),n*sz<=l.length->(mX sz n l).length=n/\∀i r,(mX sz n l)[i]?=some r->r=(l.drop (i*sz)).take sz/\r.length=sz:=by
 intro n;induction n with
 |zero=>intro l _;exact⟨rfl,fun i r hi=>by simp[mX]at hi⟩
 |succ n ih=>
  intro l hl;have e1:(n+1)*sz=n*sz+sz:=eB n sz;obtain⟨h1,h2⟩:=ih (l.drop sz) (by simp;omega);refine⟨by simp[mX,h1],fun i r hi=>?_⟩;cases i with
  |zero=>
   obtain rfl:l.take sz=r:=by simpa[mX]using hi
   exact⟨by simp,by simp;omega⟩
  |succ i=>grind [mX,List.drop_drop,eB]
theorem tq{zc:Array Value}{z:List Value}{sz n:Nat}(hz:zc.toList=z)(hl:z.length=sz)(hpos:0<sz):
  ((kK n).map (fun i=>zc[i %zc.size]!)).toList=(fB n).map fun i=>z.getD (i %sz) undef:=by
 grind [Array.toList_map,Array.toList_range,List.map_congr_left,Nat.mod_lt]
theorem Ay{t el:TypeId}{len n:Nat}{parts:Array (Nat×Operand)}{z:List Value}(ho:o.op=.buildSlice t len parts)(hu:P.underlying t=some (.slice el))
  (hs:fS P el=some (n+1)) (hz:jU P el=some z) (hlim:len*(n+1)<=4096/\z.length=n+1)
  (hI:Inv S K w0 Kn φ (aw H) w) (hn0:nxt<n'->¬Kn nxt) (hρ:∀x tv,ke e x=some tv->fX S w Kn φ tv (ρ x))
  (h:cC call (.buildSlice (n+1) len ((fB (len*(n+1))).map fun i=>z.getD (i %(n+1)) undef) (parts.toList.map (·.1))) ((parts.toList.map (·.2)).map (ke e)) H nxt=some (v,u,az,n')):
  dH P o ρ S K w0 w Kn φ (aw H) nxt n' v u:=by
 generalize hzs:((fB (len*(n+1))).map fun i=>z.getD (i %(n+1)) undef)=zs at h
 change (match dY ((parts.toList.map (·.2)).map (ke e))with
  |some xs=>
   (match li (fm zs) _ with
   |some cs=>
    (match dZ H cs with
    |some (ds,az)=>(match dJ H az az with|some u=>some (TV.c (.cE (n+1) nxt 0 len),(nxt,some (Ob.aK (n+1) (mX (n+1) len ds)))::u,az,nxt+1)|none=>none)
    |none=>none)
   |none=>none)
  |none=>none)=_ at h
 split at h
 .rename_i xs hxs;split at h
  .rename_i cs hcs;split at h
   .rename_i ds ids' hv;split at h
    .rename_i u' hfz;obtain⟨rfl,rfl,rfl,rfl⟩:TV.c (.cE (n+1) nxt 0 len)=v/\(nxt,some (Ob.aK (n+1) (mX (n+1) len ds)))::u'=u/\ids'=az/\nxt+1=n':=by simpa using h
     have hn:=hn0 (aY _);obtain⟨hl,hr⟩:=ud hρ hxs;obtain⟨zv,hzr,hzl,hzp⟩:=oO hz w
     have hzp':∀x∈zs,ft x=true:=by
      intro x hx;rw[<-hzs]at hx;obtain⟨i,_,rfl⟩:=List.mem_map.1 hx;have hlt:i %(n+1)<z.length:=by rw[hlim.2];exact Nat.mod_lt _ (dv _)
      grind
     have hzero:∃zc:Array Value,(len*(n+1)=0->zc= #[])/\(¬len*(n+1)=0->zc=zv.cells)/\
       ((kK (len*(n+1))).map (fun i=>zc[i %zc.size]!)).toList=zs:=by
      by_cases hc:len*(n+1)=0
      .simp_all
      .refine ⟨zv.cells,fun h=>absurd h hc,fun _=>rfl,?_⟩;rw[tq hzl hlim.2 (dv _),hzs]
     obtain⟨zc,hzc,hzc1,hzc2⟩:=hzero
     obtain⟨arr',h3,h4⟩:=vv (S:=S) (w:=w) (Kn:=Kn) (φ:=φ) (ρ:=ρ) (fun i=>some (i*(n+1),n+1)) parts.toList _ xs (fm zs) cs ((kK (len*(n+1))).map (fun i=>zc[i %zc.size]!))
      (by simp) (fun i p q hp hq=>by simp_all) (by simpa using hl)
      (fun i p x hp hx=>hr i p.2 x (by simp_all) hx) (by rw[hzc2];exact B_ hzp') hcs
     obtain⟨h5,h6⟩:=zQ h4
     have hcl:cs.length=len*(n+1):=by
      have:∀(l:List ((Nat×Nat)×TV))(a b:List C),li a l=some b->b.length=a.length:=by
       intro l;induction l with
       |nil=>
        intro a b h;obtain rfl:a=b:=by simpa[li]using h
        rfl
       |cons p l ih=>grind [li,eT]
      rw[this _ _ _ hcs,<-hzs];simp[fm]
     obtain⟨h7,h8⟩:=pu hI cs ds ids' hv (fun i=>arr'[i]?) (fun i c hi=>by
      have hlt:i<arr'.size:=by grind
      exact⟨arr'.getD i undef,by simp[hlt],h6 i c hi⟩)
     obtain⟨h9,h10⟩:=GF (n+1) len ds (by omega);have hI1:=hI.Co hfz
     have hrows:di (SB S w φ (aw H) ids') w (n+1) (fun i=>arr'[i]?) 0 (mX (n+1) len ds):=by
      refine⟨fun i r hi=>(h10 i r hi).2,fun i r hi j x hj=>?_⟩;rw[(h10 i r hi).1,fc]at hj;split at hj
      .rw [bS]at hj;obtain⟨y,hy,hd⟩:=h8 _ x hj;exact⟨y,by rw[<-hy];simp,hd⟩
      .simp at hj
     have hD:=kZ.aK (K:=K) (w0:=w0) hI1 hn (cap:=len) (aK:=arr') (sz:=n+1) el (dv n) (by omega) (by omega) hrows;rw[h9]at hD;refine⟨.value _,_,_,?_,.inl rfl,kZ.from (u1:=u') (SB.tG _) rfl hD⟩;have h3':Instr.fill (fun i=>some (i*(n+1),n+1)) ((kK (len*(n+1))).map (fun i=>zc[i %zc.size]!)) (parts.map fun p=>(p.1,ρ p.2)).toList=some arr':=by rw[<-h3];simp
     have hlim':¬len*(n+1)>2^24:=by have:=hlim.1;omega
     simp only[execOp,ho,Sem.run_bind,Instr.buildSlice,bQ hu,Result.andThen_ok,gY hs,if_neg hlim'];by_cases hc:len*(n+1)=0
     .rw [hzc hc]at h3';simp only[if_pos hc,Sem.run_bind,Sem.run_pure,Result.andThen_ok,h3',newRow,run_newObj]
     .rw [hzc1 hc]at h3';simp only[if_neg hc,Sem.run_bind,hzr,Sem.run_pure,Result.andThen_ok,h3',newRow,run_newObj]
    .simp at h
   .simp at h
  .simp at h
 .simp at h
end
section
variable{P:Program}{S K:Nat->Prop}{w0 w:World}{Kn:Nat->Prop}{φ:Nat->gV}{H:bC}{e:iL}{ρ:Operand->Value}{o:Oper}{call:Call}
 {nxt n':Nat} {v:TV} {u:eS} {az:List Nat}
theorem uc{el:TypeId}(h:pF P el=true):∃i,P.info? el=some i/\0<i.bytes/\i.bytes<=16384:=by
 unfold pF at h
 grind
theorem vW{t el:TypeId}{n:Nat}{l c:Operand}{z:List Value}(ho:o.op=.makeSlice t l c)(hu:P.underlying t=some (.slice el))
  (hs:fS P el=some (n+1)) (hz:jU P el=some z) (hzl:z.length=n+1) (hb:pF P el=true)
  (hI:Inv S K w0 Kn φ (aw H) w) (hn0:nxt<n'->¬Kn nxt) {tl tc:Option TV} (hl:∀y,tl=some y->fX S w Kn φ y (ρ l)) (hc:∀y,tc=some y->fX S w Kn φ y (ρ c))
  (h:cC call (.makeSlice z) [tl,tc] H nxt=some (v,u,az,n')):dH P o ρ S K w0 w Kn φ (aw H) nxt n' v u:=by
 change (match cG tl,cG tc with
  |some l,some c=>if 0<=l/\l<=c/\c<=te then some (TV.c (.cE z.length nxt 0 l.toNat),[(nxt,some (Ob.aK z.length (aA l.toNat (dn z))))],([]:List Nat),nxt+1)else none
  |_,_=>none)=_ at h
 split at h
 .rename_i a b ha hb';split at h
  .rename_i hle;obtain⟨h0,h1,h2⟩:=hle;obtain⟨rfl,rfl,rfl,rfl⟩:TV.c (.cE z.length nxt 0 a.toNat)=v/\[(nxt,some (Ob.aK z.length (aA a.toNat (dn z))))]=u/\[]=az/\nxt+1=n':=by simpa using h
   have hn:=hn0 (aY _);obtain⟨k1,hk1⟩:=jg ha hl;obtain⟨k2,hk2⟩:=jg hb' hc;obtain⟨i,hi,hby0,hby⟩:=uc hb;obtain⟨zv,hzr,hzv,hzp⟩:=oO hz w;simp only[te]at h2;have hwa:IntKind.i64.wrap a=a:=kL h0 (by omega);have hwb:IntKind.i64.wrap b=b:=kL (by omega) (by omega);have hmul:(i.bytes:Int)*b<=16384*2147483648:=Int.mul_le_mul (by omega) (by omega) (by omega) (by omega);have hsz:(z.length)=zv.cells.size:=by rw[<-hzv];simp
   let aK:Array Value:=(kK (b.toNat*(n+1))).map (fun i=>zv.cells[i %zv.cells.size]!);have harr:aK.toList=(fB (b.toNat*(n+1))).map fun i=>z.getD (i %(n+1)) undef:=tq hzv hzl (dv _);have hsize:aK.size=b.toNat*(n+1):=by simp[aK]
   have hrows:di S w (n+1) (fun i=>aK[i]?) 0 (aA a.toNat (dn z)):=by
    refine⟨fun i r hi=>?_,fun i r hi j x hj=>?_⟩
    .obtain ⟨_,rfl⟩:i<a.toNat/\dn z=r:=by
      grind
     simp[dn,hzl]
    .obtain ⟨hlt,rfl⟩:i<a.toNat/\dn z=r:=by
      grind
     simp only[dn,aQ]at hj;obtain⟨y,hy,rfl⟩:=aP.1 hj;have hjl:j<n+1:=by grind
     refine⟨y,?_,.lit (hzp y (bp hy))⟩;have hidx:i*(n+1)+j<b.toNat*(n+1):=by have:(i+1)*(n+1)<=b.toNat*(n+1):=aL _ (by omega);rw[eB]at this;omega
     show aK[0+i*(n+1)+j]?=some y
     grind [Nat.add_comm,Nat.add_mul_mod_self_right,Nat.mod_eq_of_lt,List.getD]
   have hD:=kZ.aK (K:=K) (w0:=w0) hI hn (cap:=b.toNat) (aK:=aK) el (dv n) (by simp;omega) (by rw[hsize];exact am _) hrows;rw[dT]at hD;rw[hzl];refine⟨.value (.slice (some ⟨w.heap.size,0,none⟩) a.toNat b.toNat),_,_,?_,.inl rfl,hD⟩;have hinfo:∀w:World,(typeInfo el).run P w=.ok i w:=fun w=>by simp[typeInfo,hi]
   have harr0:∀zc:Array Value,(b.toNat*(n+1)=0->zc= #[])->(¬b.toNat*(n+1)=0->zc=zv.cells)->((kK (b.toNat*(n+1))).map (fun i=>zc[i %zc.size]!))=aK:=by
    grind
   have hnl:¬(decide (b<0)||decide ((i.bytes:Int)*b>2^48))=true:=by simp only[Bool.or_eq_true,decide_eq_true_eq,not_or];constructor<;>omega
   simp only[execOp,ho,Sem.run_bind,Instr.makeSlice,bQ hu,Result.andThen_ok,wR hk1,wR hk2,hinfo,hwa,hwb];rw[Sem.run_ite,if_neg (by simp_all)];simp only[Sem.run_pure,Result.andThen_ok,Sem.run_bind,run_askRoom,gY hs];by_cases hc0:b.toNat*(n+1)=0
   .have:=harr0 #[] (fun _=>rfl) (fun h=>absurd hc0 h);simp only[if_pos hc0,Sem.run_bind,Sem.run_pure,Result.andThen_ok,newRow,run_newObj,this]
   .have:=harr0 zv.cells (fun h=>absurd h hc0) (fun _=>rfl);simp only[if_neg hc0,Sem.run_bind,hzr,Sem.run_pure,Result.andThen_ok,newRow,run_newObj,this]
  .simp at h
 .simp at h
theorem K9{t el:TypeId}{n m:Nat}{l c:Operand}{z:List Value}(ho:o.op=.makeSlice t l c)(hu:P.underlying t=some (.slice el))
  (hs:fS P el=some (n+1)) (hz:jU P el=some z) (hzl:z.length=n+1) (hb:pF P el=true) (hz1:Gl z=true) (hm:0<m)
  (hI:Inv S K w0 Kn φ (aw H) w) (hn0:nxt<n'->¬Kn nxt) {tl tc:Option TV} (hl:∀y,tl=some y->fX S w Kn φ y (ρ l)) (hc:∀y,tc=some y->fX S w Kn φ y (ρ c))
  (h:cC call (.A9 m) [tl,tc] H nxt=some (v,u,az,n')):dH P o ρ S K w0 w Kn φ (aw H) nxt n' v u:=by
 obtain rfl:z=[.slice none 0 0]:=by
  grind [Gl]
 change (match cG tl,cG tc with
  |some l,some c=>if 0<=l/\l<=c/\c<=te then some (TV.c _,[(nxt,some _)],([]:List Nat),nxt+1)else none
  |_,_=>none)=_ at h
 split at h
 .rename_i a b ha hb';split at h
  .obtain ⟨rfl,rfl,rfl,rfl⟩:TV.c _=v/\[(nxt,some _)]=u/\[]=az/\nxt+1=n':=by simpa using h
   have hev:cC call (.makeSlice [.slice none 0 0]) [tl,tc] H nxt=some (TV.c (.cE 1 nxt 0 a.toNat),[(nxt,some (Ob.aK 1 (aA a.toNat (dn [.slice none 0 0]))))],[],nxt+1):=by
    show(match cG tl,cG tc with
     |some l,some c=>if 0<=l/\l<=c/\c<=te then some (TV.c _,[(nxt,some _)],([]:List Nat),nxt+1)else none
     |_,_=>none)=_
    simp_all
   obtain⟨nx,val,w',h1,h2,h3,S',φ',h4,h5,h6,h7⟩:=vW ho hu hs hz hzl hb hI hn0 hl hc hev;refine⟨nx,val,w',h1,h2,h3,S',φ',h4,h5,h6,?_⟩;have e1:bq [(nxt,some (Ob.aK 1 (aA a.toNat (dn [.slice none 0 0]))))] (aw H) nxt=some (.aK 1 (aA a.toNat (dn [.slice none 0 0]))):=by rw[cg,if_pos rfl]
   obtain⟨_,hro⟩:=h7.iM nxt _ e1
   have h8:=h7.V8 (o':=.nst m (aA a.toNat .nil)) e1 rfl (fun sz sl k rows e hk=>by
    cases e;rw[dW]at hk;split at hk<;>cases hk) (by
    cases hro with
    |aK hsz hl hS hK hown hext hfit hrr hv=>
     rw[dT]at hv hfit;refine .nst hm hl hS hK hown hext (by rw[dT];omega) (fun i s hi=>?_) (by rw[dT];exact hv);rw[dW]at hi;split at hi
     .rename_i hlt;obtain rfl:=aa hi;obtain⟨v,q1,q2⟩:=hrr.2 i _ (by rw[dW,if_pos hlt]) 0 _ rfl;cases q2 with|lit _=>exact⟨_,by rw[<-q1];simp,.nil⟩
     .cases hi)
   have e2:bq [(nxt,some (Ob.nst m (aA a.toNat .nil)))] (bq [(nxt,some (Ob.aK 1 (aA a.toNat (dn [.slice none 0 0]))))] (aw H))=bq [(nxt,some (Ob.nst m (aA a.toNat .nil)))] (aw H):=by funext j;simp_all[cg,fY,if_pos]
   rw[e2]at h8;exact h8
  .simp at h
 .simp at h
theorem CR.mono{S':Nat->Prop}{w':World}{Kn':Nat->Prop}{φ':Nat->gV}(hs:gZ S w S' w')(hr:Ren Kn φ Kn' φ'){cs:List C}{vs:List Value}(h:CR S w Kn φ cs vs):CR S' w' Kn' φ' cs vs:=⟨h.1,fun i x y hx hy=>(h.2 i x y hx hy).mono hs hr⟩
theorem SU{cs:List C}{aK:Array Value}(h1:cs.length=aK.size)(h2:∀(i:Nat)(x:C),cs[i]?=some x->RC S w Kn φ x (aK.getD i undef)):CR S w Kn φ cs aK.toList:=by
 refine⟨by simpa using h1,fun i x y hx hy=>?_⟩;have:=h2 i x hx;rw[bc]at hy;have e1:aK.getD i undef=y:=by simp[hy]
 rwa[e1]at this
theorem oz{b o n:Nat}{aK:Array Value}{vs:List Value}(ho:pk w b aK)(hn:vs.length=n):
  pk (w.setRow b (aK.toList.take o++vs++aK.toList.drop (o+n)).toArray) b (aX aK.toList o vs).toArray/\
  (∀c,c≠b->(w.setRow b (aK.toList.take o++vs++aK.toList.drop (o+n)).toArray).heap[c]?=w.heap[c]?)/\
  (w.setRow b (aK.toList.take o++vs++aK.toList.drop (o+n)).toArray).heap.size=w.heap.size/\
  (∀a,(w.setRow b (aK.toList.take o++vs++aK.toList.drop (o+n)).toArray).frozen? a=w.frozen? a)/\
  (o+n<=aK.size->∀arr1,pk w b arr1->∃arr',pk (w.setRow b (aK.toList.take o++vs++aK.toList.drop (o+n)).toArray) b arr'/\arr'.size=arr1.size):=by
 rw[Q8 hn];refine⟨zi ho,fun c hc=>setRow_other w b c _ hc,by simp,AD ho,fun hle arr1 h1=>⟨_,zi ho,?_⟩⟩;obtain⟨t1,h1⟩:=h1;obtain⟨t2,h2⟩:=ho
 grind [iF,eT]
theorem Inv.AS{hf hf':Nat->Option Ob}{S':Nat->Prop}{w':World}(_:Inv S K w0 Kn φ hf w)(hs:gZ S w S' w')(hI:Inv S' K w0 Kn φ hf' w'){u:eS}{n:Nat}(he:hf'=bq u hf):
  kZ S K w0 w Kn φ hf n n (.ia []) u undef w':=
 ⟨am _,S',φ,hs,qz _ _,.ia rfl (fun i x hi=>by simp at hi),he▸hI.kn fun _ h=>.inl h⟩
theorem Dt{sz aJ fy off:Nat}{rows:List (List D)}{r ds:List D}{aK:Array Value}{vs:List Value}(h:di S w sz (fun i=>aK[i]?) aJ rows)(hrow:rows[fy]?=some r)
  (hfit:off+ds.length<=r.length) (hl:ds.length=vs.length) (hd:∀(i:Nat)(x:D),ds[i]?=some x->∃y,vs[i]?=some y/\RD S w x y) (hsz:aJ+rows.length*sz<=aK.size):
  di S w sz (fun i=>(aX aK.toList (aJ+fy*sz+off) vs).toArray[i]?) aJ (rows.set fy (aX r off ds)):=by
 have hrl:=h.1 fy r hrow;have hlt:fy<rows.length:=(ap.1 hrow).1;have hmul:(fy+1)*sz<=rows.length*sz:=aL _ (by omega);rw[eB]at hmul
 have hget:∀k,(aX aK.toList (aJ+fy*sz+off) vs).toArray[k]?=if k<aJ+fy*sz+off then aK[k]?else if k<aJ+fy*sz+off+vs.length then vs[k-(aJ+fy*sz+off)]?else aK[k]?:=by
  grind [aX,jV]
 have hsetr:∀i q,(rows.set fy (aX r off ds))[i]?=some q->(i=fy/\q=aX r off ds)\/(i≠fy/\rows[i]?=some q):=by
  grind
 refine⟨fun i q hi=>?_,fun i q hi j z hj=>?_⟩
 .rcases hsetr i q hi with⟨rfl,rfl⟩|⟨_,h1⟩
  .rw [eT _ _ _ hfit];exact hrl
  .exact h.1 i q h1
 .simp only[hget];rcases hsetr i q hi with⟨rfl,rfl⟩|⟨hne,h1⟩
  .rw [jV _ _ _ hfit]at hj;by_cases c1:j<off
   .rw [if_pos c1]at hj;rw[if_pos (by omega)];exact h.2 i r hrow j z hj
   .rw [if_neg c1]at hj;by_cases c2:j<off+ds.length
    .rw [if_pos c2]at hj;obtain⟨y,hy,hr⟩:=hd _ z hj;rw[if_neg (by omega),if_pos (by omega)];refine⟨y,?_,hr⟩;rw[<-hy];congr 1;omega
    .rw [if_neg c2]at hj;rw[if_neg (by omega),if_neg (by omega)];exact h.2 i r hrow j z hj
  .have hjl:j<sz:=by rw[<-h.1 i q h1];grind
   have hout:aJ+i*sz+j<aJ+fy*sz+off\/aJ+fy*sz+off+vs.length<=aJ+i*sz+j:=by
    rcases Nat.lt_or_gt_of_ne hne with hlt2|hgt
    .have:(i+1)*sz<=fy*sz:=aL _ (by omega);rw[eB]at this;omega
    .have:(fy+1)*sz<=i*sz:=aL _ (by omega);rw[eB]at this;omega
   rcases hout with c|c
   .rw [if_pos c];exact h.2 i q h1 j z hj
   .rw [if_neg (by omega),if_neg (by omega)];exact h.2 i q h1 j z hj
theorem NX{α:Type}{l:List α}{o:Nat}{v:α}(h:o<l.length):aX l o [v]=l.set o v:=by rw[List.set_eq_take_append_cons_drop,if_pos h];simp[aX]
theorem Og{id fy sz:Nat}{slots:List ly}{cs:List C}{vs:List Value}{u:eS}{az:List Nat}{aK:Array Value}(hI:Inv S K w0 Kn φ (aw H) w)(hob:aw H id=some (.nst sz slots))(hrow:fy<slots.length)
  (hcr:CR S w Kn φ cs vs) (hlen:cs.length=1) (hown:pk w (φ id).dj aK) (hfit:(φ id).aJ+fy<aK.size) (h:sI id fy sz slots cs H=some (u,az)):
  gZ S w S (w.setRow (φ id).dj (aK.toList.take ((φ id).aJ+fy)++vs++aK.toList.drop ((φ id).aJ+fy+1)).toArray)/\
   Inv S K w0 Kn φ (bq u (aw H)) (w.setRow (φ id).dj (aK.toList.take ((φ id).aJ+fy)++vs++aK.toList.drop ((φ id).aJ+fy+1)).toArray):=by
 have hvl:vs.length=1:=by rw[<-hcr.1];exact hlen
 obtain⟨p1,p2,p3,p4,_⟩:=oz (w:=w) (b:=(φ id).dj) (n:=1) (vs:=vs) hown hvl;have hio:Io w (w.setRow (φ id).dj (aK.toList.take ((φ id).aJ+fy)++vs++aK.toList.drop ((φ id).aJ+fy+1)).toArray):=⟨rfl,rfl,rfl,am _⟩
 generalize w.setRow (φ id).dj (aK.toList.take _++vs++aK.toList.drop _).toArray=w' at*
 obtain⟨x,rfl⟩:∃x,vs=[x]:=by
  match vs,hvl with|[x],_=>exact⟨x,rfl⟩
 rw[NX (by simpa using hfit)]at p1
 have key:∀s',(gZ S w S w'->Ae S K w' Kn φ sz s' x)->(∀rows,s'≠.bD rows)->gZ S w S w'/\Inv S K w0 Kn φ (bq [(id,some (.nst sz (slots.set fy s')))] (aw H)) w':=fun s' h1 h2=>
  hI.wN hob hown p1 (by simp) p2 p3 p4 hio (fun i hi=>by
   rw[cf,List.getElem?_set_ne (by omega),bc]) (fun _=>by
   rw[cf,kS (by simpa using hfit)]) h1 h2
 unfold sI at h;split at h
 .obtain ⟨rfl,rfl⟩:[(id,some _)]=u/\[id]=az:=by simpa using h
  have hx:=hcr.2 0 _ x rfl rfl;cases hx with
  |d hd=>cases hd with|lit _=>exact key .nil (fun _=>.nil) (fun _ e=>by cases e)
 .rename_i sz' id2 len;split at h
  .rename_i sz2 rows h2;split at h
   .rename_i hc;obtain⟨rfl,rfl,hne⟩:=hc;obtain⟨rfl,rfl⟩:[(id,some _),(id2,none)]=u/\[id,id2]=az:=by simpa using h
    obtain⟨q1,q2⟩:=key _ (fun hs=>.oA ((hcr.2 0 _ x rfl rfl).mono hs (Ren.refl _ _))) (fun _ e=>by cases e);refine⟨q1,?_⟩;have e1:bq [(id,some (Ob.nst sz' (slots.set fy (.oA id2 rows.length))))] (aw H) id=some (.nst sz' (slots.set fy (.oA id2 rows.length))):=by rw[cg,if_pos rfl]
    have e2:bq [(id,some (Ob.nst sz' (slots.set fy (.oA id2 rows.length))))] (aw H) id2=some (.aK sz2 rows):=by rw[cg,if_neg (fun e=>hne e.symm),fY,h2]
    have q3:=q2.Nk e1 (kS hrow) e2;rw[List.set_set]at q3;have e3:bq [(id,some (Ob.nst sz' (slots.set fy (.bD rows)))),(id2,none)] (bq [(id,some (Ob.nst sz' (slots.set fy (.oA id2 rows.length))))] (aw H))=bq [(id,some (Ob.nst sz' (slots.set fy (.bD rows)))),(id2,none)] (aw H):=by funext j;simp_all[cg,fY,if_pos,if_neg]
    rw[e3]at q3;exact q3
   .simp at h
  .simp at h
 .simp at h
theorem K8{t:TypeId}{n:Nat}{a x:Operand}(ho:o.op=.store t a x)(hs:fS P t=some n)(hI:Inv S K w0 Kn φ (aw H) w)
  {ta tx:Option TV} (ha:∀y,ta=some y->fX S w Kn φ y (ρ a)) (hx:∀y,tx=some y->fX S w Kn φ y (ρ x))
  (h:cC call (.store n) [ta,tx] H nxt=some (v,u,az,n')):dH P o ρ S K w0 w Kn φ (aw H) nxt n' v u:=by
 match ta,tx,h,ha,hx with
 |some (.c p),some tv,h,ha,hx=>
  change (match mL n p tv H with|some (u,az)=>some (TV.ia [],u,az,nxt)|none=>none)=_ at h;split at h
  .rename_i u' ids' eU;obtain⟨rfl,rfl,rfl,rfl⟩:TV.ia []=v/\u'=u/\ids'=az/\nxt=n':=by simpa using h
   unfold mL at eU;split at eU
   .simp at eU
   .rename_i cs hcs;split at eU
    .rename_i hlen;have hcr:=(hx _ rfl).cr hcs;obtain⟨_,_,hone⟩:=(hx _ rfl).cells hcs;have hvl:(ρ x).cells.size=n:=by have:=hcr.1;simp at this;omega
     have hr:=ha _ rfl;generalize hv0:ρ a=val at hr
     have run:∀b off aK,val=.pointer (some ⟨b,off,none⟩)->pk w b aK->off+n<=aK.size->
       (execOp ρ o).run P w=.ok .skip (w.setRow b (aK.toList.take off++(ρ x).cells.toList++aK.toList.drop (off+n)).toArray):=by
      intro b off aK hv hown hfit;simp[execOp,ho,hv0,hv,Instr.storeAt,Instr.sureAddr,N3 hs hown hvl hfit hone]
     cases hr with
     |c hr=>
     split at eU
     .rename_i id fy off;split at eU
      .rename_i sz rows hob;split at eU
       .rename_i r ds ids1 hrow hvw;split at eU
        .rename_i u1 hfz;split at eU
         .rename_i hb;obtain⟨hb1,hb2⟩:=hb;obtain⟨rfl,rfl⟩:(id,some (Ob.aK sz (rows.set fy (aX r off ds))))::u1=u'/\id::ids1=ids':=by simpa using eU
          have hnm:id∉ids1:=by simpa using hb2
          obtain⟨hdl,hds⟩:=pu hI cs ds ids1 hvw (fun i=>(ρ x).cells.toList[i]?) (fun i c hi=>by
           have hlt:i<(ρ x).cells.toList.length:=by grind
           exact⟨_,aC hlt,hcr.2 i c _ hi (aC hlt)⟩)
          have hI1:=hI.Co hfz;have hob1:bq u1 (aw H) id=some (.aK sz rows):=by simp only[bq,(kP ids1 u1 hfz id).2 hnm,hob]
          obtain⟨hk,h0⟩:=hI1.iM _ _ hob1;generalize hphi:φ id=l at*;cases h0 with
          |@aK _ _ aK hsz hl hS hK hown hext hfit hrr hvis=>
           cases hr with
           |ep hk'=>
            rw[hphi]at run;subst hl;have hrl:=hrr.1 fy r hrow;have hrowlt:fy<rows.length:=(ap.1 hrow).1;have hmul:(fy+1)*l.sz<=rows.length*l.sz:=aL _ (by omega);rw[eB]at hmul;have hfit2:l.aJ+fy*l.sz+off+n<=aK.size:=by rw[hext];omega
            obtain⟨p1,p2,p3,p4,p5⟩:=oz (w:=w) (b:=l.dj) (o:=l.aJ+fy*l.sz+off) (n:=n) (vs:=(ρ x).cells.toList) hown (by simpa using hvl);have hset:=hI1.set (o':=.aK l.sz (rows.set fy (aX r off ds))) hob1 rfl (by rw[hphi];exact p2) p3 p4 (by rw[hphi];exact p5 hfit2) ⟨rfl,rfl,rfl,am _⟩ (fun eU=>by rw[hphi];have h5:=(Dt (off:=off) (vs:=(ρ x).cells.toList) hrr hrow (by omega) (by rw[hdl];exact hcr.1) hds (by omega)).mono eU;exact .aK hsz rfl hS hK p1 (by simp only[iF];rw[eT _ _ _ (by simp;omega)];simpa using hext) (by simpa using hfit) h5 (by simpa using hvis));refine⟨.skip,undef,_,run _ _ _ rfl hown hfit2,.inr ⟨rfl,rfl⟩,hI.AS ((SB.tG ids1).trans hset.1) hset.2 ?_⟩;rw[<-ei];rfl
         .simp at eU
        .simp at eU
       .simp at eU
      .rename_i sz slots hob;split at eU
       .rename_i hc;obtain⟨rfl,rfl,hrow⟩:=hc;obtain⟨hk,h0⟩:=hI.iM _ _ hob;cases h0 with
        |@nst _ _ aK hsz hl hS hK hown hext hfit hrr hvis=>cases hr with|ep hk'=>obtain⟨q1,q2⟩:=Og hI hob hrow hcr hlen hown (by omega) eU;have hrun:=run (φ id).dj ((φ id).aJ+fy*(φ id).sz+0) aK rfl hown (by rw[hl];omega);rw[hl,Nat.mul_one,eL]at hrun;refine⟨.skip,undef,_,hrun,.inr ⟨rfl,rfl⟩,hI.AS q1 q2 rfl⟩
       .simp at eU
      .simp at eU
     .rename_i id off;split at eU
      .rename_i cells hob;split at eU
       .rename_i hb;obtain⟨rfl,rfl⟩:[(id,some (Ob.box (aX cells off cs)))]=u'/\[id]=ids':=by simpa using eU
        obtain⟨hk,h0⟩:=hI.iM _ _ hob;generalize hphi:φ id=l at*;cases h0 with
        |@box _ aK hbase hS hK hown hlen2 hrr=>cases hr with|op hk'=>rw[hphi,hbase,bG]at run;obtain⟨p1,p2,p3,p4,p5⟩:=oz (w:=w) (b:=l.dj) (o:=off) (n:=n) (vs:=(ρ x).cells.toList) hown (by simpa using hvl);have hset:=hI.set (o':=.box (aX cells off cs)) hob rfl (by rw[hphi];exact p2) p3 p4 (by rw[hphi];exact p5 (by omega)) ⟨rfl,rfl,rfl,am _⟩ (fun eU=>by rw[hphi];have h5:=((SU hlen2 hrr).aX hcr off (by omega)).mono eU (Ren.refl _ _);obtain⟨h6,h7⟩:=zQ (aK:=(aX aK.toList off (ρ x).cells.toList).toArray) (by rw[List.toList_toArray];exact h5);exact .box hbase hS hK p1 h6 h7);exact⟨.skip,undef,_,run _ _ _ rfl hown (by omega),.inr ⟨rfl,rfl⟩,hI.AS hset.1 hset.2 rfl⟩
       .simp at eU
      .simp at eU
     .simp at eU
    .simp at eU
  .simp at h
end
section
variable{P:Program}{S K:Nat->Prop}{w0 w:World}{Kn:Nat->Prop}{φ:Nat->gV}{H:bC}{e:iL}{ρ:Operand->Value}{o:Oper}{call:Call}
 {nxt n':Nat} {v:TV} {u:eS} {az:List Nat}
theorem rJ{sz b addr:Nat}{rows:List (List D)}(hsz:0<sz)(h:di S w sz (fun i=>w.cell? ⟨b,i,none⟩) addr rows):
  ∃aK,(∀w':World,w'.heap=w.heap->(loadCells ⟨b,addr,none⟩ (rows.length*sz)).run P w'=.ok aK w')/\aK.size=rows.length*sz/\di S w sz (fun i=>aK[i]?) 0 rows/\∀x∈aK.toList,one x=true:=by
 have hcell:∀k,k<rows.length*sz->∃y,w.cell? ⟨b,addr+k,none⟩=some y/\one y=true:=by
  intro k hk;have h1:k/sz<rows.length:=Nat.div_lt_of_lt_mul (by rw[Nat.mul_comm];exact hk);have h2:=h.1 (k/sz) rows[k/sz] (aC h1);have h3:k %sz<rows[k/sz].length:=by rw[h2];exact Nat.mod_lt _ hsz
  obtain⟨y,hy,hr⟩:=h.2 (k/sz) rows[k/sz] (aC h1) (k %sz) _ (aC h3);refine⟨y,?_,hr.one⟩
  grind [Nat.div_add_mod,Nat.mul_comm]
 refine⟨((fB (rows.length*sz)).map fun j=>(w.cell? ⟨b,addr+j,none⟩).getD undef).toArray,fun w' hw=>run_loadCells w' ⟨b,addr,none⟩ _ _ fun j hj=>?_,by simp,
  ⟨h.1,fun i r hi j x hj=>?_⟩,fun x hx=>?_⟩
 .grind [World.cell?,ph]
 .obtain ⟨y,hy,hr⟩:=h.2 i r hi j x hj;refine⟨y,?_,hr⟩;have hil:i<rows.length:=(ap.1 hi).1;have hjl:j<sz:=by rw[<-h.1 i r hi];grind
  have hm:(i+1)*sz<=rows.length*sz:=aL _ hil
  grind [eB,fB,undef,List.getElem?_range]
 grind
def Nr(P:Program)(S:Nat->Prop)(w:World)(sz:Nat)(xv:Value)(new:List (List D))(aK:Array Value):Prop:=
 (∀w':World,w'.heap=w.heap->(Builtin.lenOf xv).run P w'=.ok new.length w'/\(Builtin.firstCells sz new.length xv).run P w'=.ok aK w')/\
 aK.size=new.length*sz/\di S w sz (fun i=>aK[i]?) 0 new/\∀x∈aK.toList,one x=true
theorem Bl{sz b addr len cap:Nat}{new:List (List D)}(hsz:0<sz)(hl:new.length=len)(h:di S w sz (fun i=>w.cell? ⟨b,i,none⟩) addr new):
  ∃aK,Nr P S w sz (.slice (some ⟨b,addr,none⟩) len cap) new aK:=by
 subst hl;obtain⟨aK,h1,h2,h3,h4⟩:=rJ hsz h;exact⟨aK,fun w' hw=>⟨rfl,h1 w' hw⟩,h2,h3,h4⟩
theorem FH{sz:Nat}{x:C}{xv:Value}{new:List (List D)}(hsz:0<sz)(hI:Inv S K w0 Kn φ (aw H) w)(hr:RC S w Kn φ x xv)(h:gF sz H x=some (new,az)):
  ∃aK,Nr P S w sz xv new aK:=by
 unfold gF at h;split at h
 .obtain ⟨rfl,rfl⟩:[]=new/\[]=az:=by simpa using h
  cases hr with
  |d hd=>cases hd with|lit hp=>exact⟨#[],fun w' _=>⟨rfl,rfl⟩,by simp,⟨fun i r hi=>by simp at hi,fun i r hi=>by simp at hi⟩,fun x hx=>by simp at hx⟩
 .rename_i sz' rows;split at h
  .rename_i e1;subst e1;obtain⟨rfl,rfl⟩:rows=new/\[]=az:=by simpa using h
   cases hr with
   |d hd=>cases hd with
    |sl f hb hsz0 hcap hrow hcell hrd=>exact Bl hsz rfl ⟨hrow,fun i r hi j x hj=>⟨_,hcell i r hi j x hj,hrd i r hi j x hj⟩⟩
    |uq hsz0=>exact⟨#[],fun w' _=>⟨rfl,by
      have h0:([]:List (List D)).length*sz'=0:=by simp
      simp[Builtin.firstCells];rfl⟩,by simp,⟨fun i r hi=>by simp at hi,fun i r hi=>by simp at hi⟩,fun x hx=>by simp at hx⟩
  .simp at h
 .rename_i sz' id off len
  have key:∀szo rows,(aw H id=some (.aK szo rows)\/aw H id=some (.p_ szo rows))->(if sz'=sz/\off+len<=rows.length then some ((rows.drop off).take len,[id])else none)=some (new,az)->
    ∃aK,Nr P S w sz xv new aK:=by
   intro szo rows ho hq;split at hq
   .rename_i hb;obtain⟨e1,hle⟩:=hb;subst e1;obtain⟨rfl,rfl⟩:=af (aa hq);obtain⟨hsz1,hl,hR⟩:=ow hI ho;subst hl;cases hr with|cE hk hcap haddr hext=>exact Bl hsz1 (by simp;omega) (hR.xR off len fun h=>haddr (by omega))
   .simp at hq
  grind
 .simp at h
theorem O3(need:Nat)(c:Nat):Builtin.growBy need 4 c<=3*c+3072:=by
 grind [Builtin.growBy]
theorem Lk{need cap:Nat}(h1:need<=2147483648)(h2:cap<need):Builtin.nextslicecap need cap<=6442454016:=by
 grind [Builtin.nextslicecap,O3]
theorem Inv.Ul{hf:Nat->Option Ob}{w':World}{b:Nat}(h:Inv S K w0 Kn φ hf w)(hS:¬S b)(hK:¬K b)(hfree:∀i o,hf i=some o->cW o=true->b∉iw w φ hf i)
  (hother:∀c,c≠b->w'.heap[c]?=w.heap[c]?) (hsize:w'.heap.size=w.heap.size) (hfrz:∀a,w'.frozen? a=w.frozen? a)
  (hsz:∀aK,pk w b aK->∃arr',pk w' b arr'/\arr'.size=aK.size) (hio:Io w w'):gZ S w S w'/\Inv S K w0 Kn φ hf w':=by
 have hs:gZ S w S w':=⟨fun _ h=>h,fun c hc=>hother c (fun e=>hS (e▸hc))⟩
 refine⟨hs,h.pN hs (Ren.refl _ _) (fun c hc=>hsize▸h.vJ c hc) h.sk ⟨h.od.Gi,fun c hc=>(hother c (fun e=>hK (e▸hc))).trans (h.od.mV c hc),hsize▸h.od.tf,fun a ha=>(hfrz a).trans (h.od.Ba a ha),h.od.zh hother hsz,h.od.io.trans hio⟩ ?_ h.o9 fun id sz sl hi=>⟨hi,hother _ fun e=>hfree id _ hi rfl (e▸lp id),fun k x hp=>⟨hother x fun e=>hfree id _ hi rfl (eG.2 (.inr ⟨sz,sl,k,hi,e▸hp⟩)),(h.IN hi hp).1,(h.xC id sz sl k x hi hp).1⟩⟩⟩;intro id o ho;exact .inl ⟨ho,fun hown=>⟨hother _ fun e=>hfree id o ho hown (e▸lp id),((h.iM id o ho).2.bD hown).1⟩⟩
theorem BA{w':World}{hf:Nat->Option Ob}{i:Nat}(h:w'.heap[(φ i).dj]?=w.heap[(φ i).dj]?):iw w' φ hf i=iw w φ hf i:=by
 have key:∀(l:gV),w'.heap[l.dj]?=w.heap[l.dj]?->∀(sl:List ly)(k:Nat),sA w' l sl k=sA w l sl k:=by
  intro l hl sl;induction sl with
  |nil=>intro k;rfl
  |cons s sl ih=>intro k;cases s with|bD rows=>simp[sA,ih,mY hl]|_=>exact ih _
 grind [iw]
theorem qy{sz aJ:Nat}{a b:List (List D)}{get:Nat->Option Value}(h1:di S w sz get aJ a)(h2:di S w sz get (aJ+a.length*sz) b):di S w sz get aJ (a++b):=by
 have key:∀(i:Nat)(r:List D),(a++b)[i]?=some r->a[i]?=some r\/(a.length<=i/\b[i-a.length]?=some r):=by
  grind
 refine⟨fun i r hi=>?_,fun i r hi j x hj=>?_⟩
 .rcases key i r hi with h|⟨_,h⟩
  .exact h1.1 i r h
  .exact h2.1 _ r h
 .rcases key i r hi with h|⟨hle,h⟩
  .exact h1.2 i r h j x hj
  .obtain ⟨y,hy,hr⟩:=h2.2 _ r h j x hj;refine⟨y,?_,hr⟩;rw[<-hy];congr 1;have:a.length*sz+(i-a.length)*sz=i*sz:=by rw[<-b_];congr 1;omega
   omega
theorem RC.j_{sz id off len:Nat}{v:Value}(h:RC S w Kn φ (.cE sz id off len) v):∃cap addr,v=.slice (some ⟨(φ id).dj,addr,none⟩) len cap/\(φ id).sz=sz/\Kn id/\len<=cap/\
  (0<cap->addr=(φ id).aJ+off*(φ id).sz)/\addr+cap*(φ id).sz<=(φ id).ext/\off+cap=(φ id).cap:=by
 cases h with|cE hk hcap haddr hext hc=>grind
theorem I0{c:n_}{s x:Operand}{st xt el el2:TypeId}{n:Nat}{z:List Value}(ho:o.op=.call c)(hcal:c.callee=.builtin .append)(hargs:c.args= #[s,x])(hts:c.argTypes= #[st,xt])
  (hus:P.underlying st=some (.slice el)) (hux:P.underlying xt=some (.slice el2)) (hsz:fS P el=some (n+1)) (hz:jU P el=some z) (hzl:z.length=n+1) (hby:pF P el=true)
  (hI:Inv S K w0 Kn φ (aw H) w) (hn0:nxt<n'->¬Kn nxt) {ta tx:Option TV} (ha:∀y,ta=some y->fX S w Kn φ y (ρ s)) (hx:∀y,tx=some y->fX S w Kn φ y (ρ x))
  (h:cC call (.append (n+1)) [ta,tx] H nxt=some (v,u,az,n')):dH P o ρ S K w0 w Kn φ (aw H) nxt n' v u:=by
 obtain⟨inf,hinf,hb0,hb1⟩:=uc hby;obtain⟨zv,hzr,hzv,_⟩:=oO hz w
 match ta,tx,h,ha,hx with
 |some (.c sc),some (.c xc),h,ha,hx=>
  change jI (n+1) sc xc H nxt=_ at h;unfold jI at h;split at h
  .simp at h
  .rename_i new ids1 hrx;cases hx _ rfl with
   |c hxr=>
   obtain⟨narr,hel,hns,hnR,hnone⟩:=FH (P:=P) (sz:=n+1) (dv n) hI hxr hrx;have hinfo:∀w:World,(typeInfo el).run P w=.ok inf w:=fun w=>by simp[typeInfo,hinf]
   have hzr':∀w:World,(zeroValue el).run P w=.ok zv w:=by intro w';simp only[zeroValue,typeInfo,Sem.run_bind,run_program,Result.andThen_ok,hinf,Sem.run_pure]at hzr|-;cases hzz:inf.zero with|none=>rw[hzz]at hzr;simp at hzr|some q=>simp_all
   have hunx:∀w:World,(underlying xt).run P w=.ok (.slice el2) w:=bQ hux
   -- what the model JJ where there is no aD
   have grows:∀(aJ:Option Addr)(sLen sCap:Nat)(old:Array Value),ρ s=.slice aJ sLen sCap->sCap<sLen+new.length->sLen+new.length<=2147483648->
     (∀w':World,w'.heap=w.heap->(Builtin.firstCells (n+1) sLen (.slice aJ sLen sCap)).run P w'=.ok old w')->
     ∃newCap,sLen+new.length<=newCap/\(execOp ρ o).run P w=.ok (.value (.slice (some ⟨w.heap.size,0,none⟩) (sLen+new.length) newCap))
      {({w with drawn:=w.drawn+1}:World)with heap:=w.heap.push (.cells (old++narr++Builtin.zeroCells zv.cells (newCap-(sLen+new.length))) el)}:=by
    intro aJ sLen sCap old hs hlt hle hold;refine⟨(Question.appendCap (sLen+new.length) sCap el).cut (w.tape w.drawn (.appendCap (sLen+new.length) sCap el)),by simp[Question.cut],?_⟩;have hcap:¬Builtin.nextslicecap (sLen+new.length) sCap*inf.bytes>2^48:=by have h1:=Lk hle hlt;have h2:Builtin.nextslicecap (sLen+new.length) sCap*inf.bytes<=6442454016*16384:=Nat.mul_le_mul h1 hb1;omega
    have hbz:¬inf.bytes=0:=by omega
    have hnle:¬sLen+new.length<=sCap:=by omega
    have ho2:=hold {w with drawn:=w.drawn+1} rfl;have hn2:=(hel {w with drawn:=w.drawn+1} rfl).2;have hl2:=(hel w rfl).1
    simp only[execOp,ho,hcal,resolve,hargs,Sem.run_bind,Sem.run_pure,Result.andThen_ok,invoke,builtin,Builtin.append_,hts,dK,aq,aW,hs,cf,
     cn,dw,bQ hus,gY hsz,hunx,hl2,hnle,if_false,hinfo,hcap,hbz,aH,or_self,and_false,run_choose,Question.forced,run_askRoom,ho2,hn2,hzr',newRow,run_newObj,fh,if_true]
   have room_new:¬Kn nxt->∀(k:Nat)(_:w.drawn<=k)(hf:Nat->Option Ob)(rows:List (List D))(aK:Array Value)(cap:Nat),Inv S K w0 Kn φ hf w->rows.length<=cap->cap*(n+1)<=aK.size->di S w (n+1) (fun i=>aK[i]?) 0 rows->
     kZ S K w0 w Kn φ hf nxt (nxt+1) (.c (.cE (n+1) nxt 0 rows.length)) [(nxt,some (.aK (n+1) rows))] (.slice (some ⟨w.heap.size,0,none⟩) rows.length cap)
      {({w with drawn:=k}:World)with heap:=w.heap.push (.cells aK el)}:=by
    intro hn k hk hf rows aK cap hI1 h1 h2 h3;obtain⟨a1,S',φ',a2,a3,a4,a5⟩:=kZ.aK (hI1.uQ k hk) hn el (dv n) h1 h2 (h3.mono (gZ.uQ S w k));exact⟨a1,S',φ',(gZ.uQ S w k).trans a2,a3,a4,a5⟩
   have zsize:∀m,(Builtin.zeroCells zv.cells m).size=m*(n+1):=by
    grind [Builtin.zeroCells]
   split at h
   .--a nil slice
    split at h
    .rename_i hle;simp only[te]at hle;obtain⟨hv,_⟩:=(ha _ rfl).lit;cases new with
     |nil=>
      obtain⟨rfl,rfl,rfl,rfl⟩:TV.c (.d (.lit (.slice none 0 0)))=v/\[]=u/\ids1=az/\nxt=n':=by simpa using h
      refine dH.pure hI ?_ (ha _ rfl);have hl2:=(hel w rfl).1;have hn2:=(hel w rfl).2;simp only[abI]at hl2 hn2
      simp only[execOp,ho,hcal,resolve,hargs,Sem.run_bind,Sem.run_pure,Result.andThen_ok,invoke,builtin,Builtin.append_,hts,dK,aq,aW,hv,cf,
       cn,dw,bQ hus,gY hsz,hunx,hl2,am,if_true,fh,hn2,aH,if_false,eL]
     |cons q new=>
      obtain⟨rfl,rfl,rfl,rfl⟩:TV.c (.cE (n+1) nxt 0 (q::new).length)=v/\[(nxt,some (Ob.aK (n+1) (q::new)))]=u/\ids1=az/\nxt+1=n':=by simpa using h
      obtain⟨newCap,hnc,hrun⟩:=grows none 0 0 #[] hv (by simp) (by simpa using hle) (fun w' _=>rfl);rw[bG]at hrun hnc;refine⟨.value _,_,_,hrun,.inl rfl,room_new (hn0 (aY _)) _ (bI _) _ _ _ _ hI hnc ?_ ?_⟩
      .simp only[iI,hns,zsize,iF,abI];rw[bG,<-b_];exact aL _ (by omega)
      .refine ⟨hnR.1,fun i r hi j x hj=>?_⟩;obtain⟨y,hy,hr⟩:=hnR.2 i r hi j x hj
       grind
    .simp at h
   .--a slice of one's bD
    rename_i sz' id off len;split at h
    .rename_i szo rows hob;split at h
     .rename_i hb;obtain⟨e1,hle,hlim⟩:=hb;subst e1;simp only[te]at hlim;obtain⟨rfl,rfl,rfl,rfl⟩:TV.c (.cE (n+1) nxt 0 (len+new.length))=v/\[(id,none),(nxt,some (Ob.aK (n+1) ((rows.drop off).take len++new++rows.drop (off+len+new.length))))]=u/\id::ids1=az/\nxt+1=n':=by simpa using h
      have hn:=hn0 (aY _);have hr:=ha _ rfl;generalize hv0:ρ s=val at hr;cases hr with
      |c hr=>
      have hlen:((rows.drop off).take len).length=len:=by simp;omega
      have hlen2:((rows.drop off).take len++new).length=len+new.length:=by simp;omega
      have hku:∀hf:Nat->Option Ob,bq [(id,none),(nxt,some (Ob.aK (n+1) ((rows.drop off).take len++new++rows.drop (off+len+new.length))))] hf=bq [(nxt,some (Ob.aK (n+1) ((rows.drop off).take len++new++rows.drop (off+len+new.length))))] (bq [(id,none)] hf):=by intro hf;have hne:id≠nxt:=fun e=>hn (e▸(hI.iM _ _ hob).1);rw[<-ei];exact m7 (u:=[(id,none)]) fun p hp q hq=>by obtain rfl:=au.1 hp;obtain rfl:=au.1 hq;exact hne
      have hkill:Inv S K w0 Kn φ (bq [(id,none)] (aw H)) w:=hI.mD fun i o ho=>by
       rw[cg]at ho;split at ho
       .simp at ho
       .exact ho
      obtain⟨hk0,h0⟩:=hI.iM _ _ hob;generalize hphi:φ id=l at*;cases h0 with
      |@aK _ _ aK hsz0 hl hS hK hown hext hfit hrr hvis=>
      obtain⟨cap,addr,rfl,hszl,hk,hcap,haddr,hextc,hcl⟩:=hr.j_;rw[hphi]at hv0 haddr hextc hszl hcl;have e2:szo=n+1:=by rw[<-hl,hszl]
      subst e2;rw[hl]at haddr hextc;have hR:∀len',len'=len->di S w (n+1) (fun i=>aK[i]?) addr ((rows.drop off).take len'):=fun len' e=>by subst e;exact hrr.xR off len' fun h=>haddr (by omega)
      have hRc:di S w (n+1) (fun i=>w.cell? ⟨l.dj,i,none⟩) addr ((rows.drop off).take len):=⟨(hR len rfl).1,fun i r hi j x hj=>let⟨y,hy,hd⟩:=(hR len rfl).2 i r hi j x hj;⟨y,(hown.cell _).trans hy,hd⟩⟩
      by_cases hroom:len+new.length<=cap
      .--there is aD
       have hl2:=(hel w rfl).1;have hn2:=(hel w rfl).2;have hcm:(len+new.length)*(n+1)<=cap*(n+1):=aL _ hroom;rw[b_]at hcm;obtain⟨ty,hty⟩:=hown;have eU:=run_storeCells_at P l.dj (addr+len*(n+1)) ty narr.toList 0 aK w hty (by grind) (fun v hv=>by rw[pV];exact hnone v hv);simp only[eL,Array.length_toList,hns]at eU;have hown:pk w l.dj aK:=⟨ty,hty⟩
       obtain⟨p1,p2,p3,p4,p5⟩:=oz (w:=w) (b:=l.dj) (o:=addr+len*(n+1)) (n:=new.length*(n+1)) (vs:=narr.toList) hown (by simpa using hns);have hio:Io w (w.setRow l.dj (aK.toList.take (addr+len*(n+1))++narr.toList++aK.toList.drop (addr+len*(n+1)+new.length*(n+1))).toArray):=⟨rfl,rfl,rfl,am _⟩
       generalize hw':w.setRow l.dj (aK.toList.take (addr+len*(n+1))++narr.toList++aK.toList.drop (addr+len*(n+1)+new.length*(n+1))).toArray=w' at*
       have hrun:(execOp ρ o).run P w=.ok (.value (.slice (some ⟨l.dj,addr,none⟩) (len+new.length) cap)) w':=by
        simp only[execOp,ho,hcal,resolve,hargs,Sem.run_bind,Sem.run_pure,Result.andThen_ok,invoke,builtin,Builtin.append_,hts,dK,aq,aW,hv0,cf,
         cn,dw,bQ hus,gY hsz,hunx,hl2,hroom,if_true,fh,hn2,aH,if_false,ph,eU]
       have hfree:∀i o,bq [(id,none)] (aw H) i=some o->cW o=true->l.dj∉iw w φ (bq [(id,none)] (aw H)) i:=by
        intro i o hi ho hm;have hi':=hi;rw[cg]at hi';split at hi'
        .simp at hi'
        .rename_i hne;rw[gN rfl (hi.trans hi'.symm)]at hm;exact oF hI hi' hob ho rfl (fun e=>hne e.symm) hm (by rw[<-hphi];exact lp id)
       obtain⟨hs1,hI1⟩:=hkill.Ul hS hK hfree p2 p3 p4 (p5 (by omega)) hio
       have hget:∀k,(aX aK.toList (addr+len*(n+1)) narr.toList).toArray[k]?=if k<addr+len*(n+1)then aK[k]?else if k<addr+len*(n+1)+narr.size then narr[k-(addr+len*(n+1))]?else aK[k]?:=by
        intro k;rw[<-bc];show(aX aK.toList _ narr.toList)[k]?=_;rw[jV _ _ _ (by grind)]
        grind
       have hrows:di S w' (n+1) (fun i=>(aX aK.toList (addr+len*(n+1)) narr.toList).toArray[i]?) addr ((rows.drop off).take len++new):=by
        refine qy (di.mono hs1 ⟨(hR len rfl).1,fun i r hi j x hj=>?_⟩) (di.mono hs1 ⟨hnR.1,fun i r hi j x hj=>?_⟩)
        .obtain ⟨y,hy,hd⟩:=(hR len rfl).2 i r hi j x hj;refine⟨y,?_,hd⟩;have hil:i<len:=by rw[<-hlen];exact(ap.1 hi).1
         have hjl:j<n+1:=by rw[<-(hR len rfl).1 i r hi];grind
         have hm:(i+1)*(n+1)<=len*(n+1):=aL _ hil;rw[eB]at hm;show(aX aK.toList (addr+len*(n+1)) narr.toList).toArray[_]?=_;rw[hget,if_pos (by omega)];exact hy
        .obtain ⟨y,hy,hd⟩:=hnR.2 i r hi j x hj;refine⟨y,?_,hd⟩;have hlt:=(bk.1 hy).1;show(aX aK.toList (addr+len*(n+1)) narr.toList).toArray[_]?=_;rw[hlen,hget,if_neg (by omega),if_pos (by omega)];rw[<-hy];show narr[_]?=narr[_]?;congr 1;omega
       have hsz':(aX aK.toList (addr+len*(n+1)) narr.toList).toArray.size=l.ext:=by simp only[iF];rw[eT _ _ _ (by grind)];simpa using hext
       have hLl:(rows.drop (off+len+new.length)).length=rows.length-(off+len+new.length):=by simp
       have hLR:di S w (n+1) (fun i=>aK[i]?) (addr+(len+new.length)*(n+1)) (rows.drop (off+len+new.length)):=by
        have h7:=hrr.xR (addr:=addr+(len+new.length)*(n+1)) (off+len+new.length) (rows.length-(off+len+new.length)) fun h=>by have:=haddr (by omega);rw[this,dz off len new.length,b_ off (len+new.length)];omega
        rwa[List.take_of_length_le (by rw[hLl];omega)]at h7
       have hrows2:di S w' (n+1) (fun i=>(aX aK.toList (addr+len*(n+1)) narr.toList).toArray[i]?) addr ((rows.drop off).take len++new++rows.drop (off+len+new.length)):=by refine qy hrows ?_;rw[hlen2];refine di.mono hs1 ⟨hLR.1,fun i r hi j x hj=>?_⟩;obtain⟨y,hy,hd⟩:=hLR.2 i r hi j x hj;refine⟨y,?_,hd⟩;show(aX aK.toList (addr+len*(n+1)) narr.toList).toArray[_]?=_;rw[hget,if_neg (by rw[b_];omega),if_neg (by rw[hns,b_];omega)];exact hy
       have hlen3:((rows.drop off).take len++new++rows.drop (off+len+new.length)).length<=cap:=by rw[List.length_append,hlen2,hLl];omega
       have hname:=hI1.name hn ⟨l.dj,addr,n+1,l.ext,cap⟩ (.aK (n+1) ((rows.drop off).take len++new++rows.drop (off+len+new.length))) (fun _ j b hj hb hm=>hfree j b hj hb (by rwa[BA (p2 _ fun e=>hfree j b hj hb (e▸lp j))]at hm))
        (.aK (dv n) rfl hS hK p1 hsz' (by have h8:=aL (n+1) hlen3;simp only;omega) hrows2 hlen3)
       refine⟨.value _,_,_,hrun,.inl rfl,bI _,S,_,hs1,⟨fun _ h=>.inl h,(jw _ hn).ez⟩,.c ?_,(hku (aw H)▸hname).wd fun j=>oU j⟩;have e:ext φ nxt ⟨l.dj,addr,n+1,l.ext,cap⟩ nxt=⟨l.dj,addr,n+1,l.ext,cap⟩:=by simp[ext]
       have:=RC.cE (S:=S) (w:=w') (Kn:=o4 Kn nxt (nxt+1)) (φ:=ext φ nxt ⟨l.dj,addr,n+1,l.ext,cap⟩) (id:=nxt) (off:=0) (len:=len+new.length) (cap:=cap) (addr:=addr)
        (.inr (by omega)) hroom (by rw[e];simp) (by rw[e];exact hextc) (by rw[e];simp)
       rw[e]at this;exact this
      .--there is none
       obtain⟨old,hold,hos,hoR,hoone⟩:=rJ (P:=P) (sz:=n+1) (dv n) hRc;rw[hlen]at hold hos;obtain⟨newCap,hnc,hrun⟩:=grows (some ⟨l.dj,addr,none⟩) len cap old hv0 (by omega) hlim (fun w' hw=>hold w' hw);refine⟨.value _,_,_,hrun,.inl rfl,?_⟩
       have hD:=room_new hn (w.drawn+1) (bI _) (bq [(id,none)] (aw H)) ((rows.drop off).take len++new) (old++narr++Builtin.zeroCells zv.cells (newCap-(len+new.length))) newCap hkill (by rw[hlen2];exact hnc)
        (by simp only[iI,hos,hns,zsize];rw[<-b_,<-b_];exact aL _ (by omega))
        (by
         refine qy ⟨hoR.1,fun i r hi j x hj=>?_⟩ ⟨hnR.1,fun i r hi j x hj=>?_⟩
         .obtain ⟨y,hy,hd⟩:=hoR.2 i r hi j x hj;refine⟨y,?_,hd⟩;have hlt:=(bk.1 hy).1;show(old++narr++_)[_]?=_;rw[dO (by rw[iI];omega),dO hlt];exact hy
         .obtain ⟨y,hy,hd⟩:=hnR.2 i r hi j x hj;refine⟨y,?_,hd⟩;have hlt:=(bk.1 hy).1;show(old++narr++_)[_]?=_;rw[hlen,dO (by rw[iI,hos];omega),Array.getElem?_append_right (by rw[hos];omega)];rw[<-hy,hos];show narr[_]?=narr[_]?;congr 1;omega)
       rw[hlen2]at hD;obtain⟨q1,S',φ',q2,q3,q4,q5⟩:=hD;have hL0:rows.drop (off+len+new.length)=[]:=List.drop_eq_nil_of_le (by omega);exact⟨q1,S',φ',q2,q3,q4,by rw[hku,hL0,List.append_nil];exact q5⟩
     .simp at h
    .simp at h
   .simp at h
end
end Go.Ev
