/- The model's operations, one by one, against the abstract machine's. Conditions: the relation of XEvC. -/
import Derived.Test.YtoekkpmeeclpeaaGreatEvF
open Array renaming getElem?_append_left->ft,getElem?_eq_some_iff->bq,getElem?_toList->cO,range->lR,size_append->jD
open Bool renaming false_eq_true->bD,not_false->jY
open Go renaming Call->oc
open Ieee renaming Datum->eh,Format->ga
open List renaming all_eq_true->bg,getElem?_cons_succ->cN,getElem?_cons_zero->bP,getElem?_drop->bQ,getElem?_eq_getElem->ao,getElem?_eq_some_iff->aB,getElem?_map->aN,getElem?_replicate->ic,getElem?_set_self->nX,getElem?_take->fq,getElem?_toArray->bK,length->iN,length_nil->mQ,length_replicate->aY,map_cons->aK,map_nil->aZ,map_toArray->c9,mem_of_getElem?->aF,mem_singleton->aq,range->bm,replicate->aj,size_toArray->ia
open Nat renaming add_assoc->di,add_mul->bA,add_zero->fy,le_refl->am,le_succ->bn,lt_succ_self->aQ,mod_lt->lP,mul_comm->gq,mul_le_mul_right->az,mul_one->kh,sub_self->lZ,succ_mul->dJ,succ_pos->cL,zero_add->bS
open Option renaming map_eq_some_iff->aH
open Option.some renaming inj->aa
namespace Go.Ev
abbrev xp:=FuncId->Bool×List Bool
def dN(P:Program)(fields:Array Field):List Nat->Option (List (Nat×Nat))
 |[]=>some []
 |i::r=>
  match fields[i]?,dN P fields r with
  |some f,some l=>match fw P f.type with|some n=>some ((f.offset,n)::l)|none=>none
  |_,_=>none
def oZ:Nat->Value
 |0=>.slice none 0 0
 |1=>.pointer none
 |_=>.nilFunc
def x8:Nat->Operand->Bool
 |0,.const (.slice none 0 0)|1,.const (.pointer none)|2,.const .nilFunc=>true
 |_,_=>false
def R0(P:Program)(g:TypeId->Option (List Kd)):List Field->Nat->Option (List Kd)
 |[],_=>some []
 |f::r,o=>
  if f.offset=o/\f.name≠ "_" then
   match g f.type with|some ks=>if fw P f.type=some ks.length then(match R0 P g r (o+ks.length)with|some l=>some (ks++l)|none=>none)else none|none=>none
  else none
def Bm(P:Program):Nat->TypeId->Option (List Kd)
 |0,_=>none
 |d+1,t=>
  match P.underlying t with
  |some .bool=>if fw P t=some 1 then some [.b]else none
  |some (.int q)=>if fw P t=some 1 then some [.i q]else none
  |some .string=>if fw P t=some 1 then some [.s]else none
  |some (.array n e)=>match Bm P d e with|some ks=>if fw P e=some ks.length/\fw P t=some (n*ks.length)then some (aj n ks).flatten else none|none=>none
  |some (.struct fs)=>match R0 P (Bm P d) fs.toList 0 with|some ks=>if P.stoodInHeld t=false/\fw P t=some ks.length then some ks else none|none=>none
  |_=>none
def GC(P:Program)(t:TypeId):Option Bool:=((P.info? t).bind (·.zero)).map fun|.agg _=>true|_=>false
def rM(P:Program)(k e:TypeId):Option (Bool×List Kd×Bool×List Value):=match fJ P k,Bm P 8 k,fJ P e,jE P e with|some ka,some ks,some va,some z=>if GC P e=some va then some (ka,ks,va,z)else none|_,_,_,_=>none
def ra(kind:Nat)(neg:Bool)(x y:Operand):K×List Operand:=if x8 kind y then(.rT kind neg,[x])else if x8 kind x then(.rT kind neg,[y])else(.fL,[])
def JC(P:Program)(op:BinOp)(t:TypeId)(x y:Operand):K×List Operand:=
 match op with
 |.eql|.neq=>
  match P.underlying t with
  |some .bool=>(.vX (op==.neq),[x,y])
  |some (.int _)|some (.float _)|some .string=>(.A6 op,[x,y])
  |some (.slice _)=>ra 0 (op==.neq) x y
  |some (.pointer _)=>ra 1 (op==.neq) x y
  |some (.func _ _ _)=>ra 2 (op==.neq) x y
  |some (.struct _)|some (.array _ _)=>match Bm P 8 t with|some ks=>if P.eqGuardType P.depth t=false then(.AO (op==.neq) ks,[x,y])else(.fL,[])|none=>(.fL,[])
  |_=>(.fL,[])
 |op=>(.A6 op,[x,y])
def pS(P:Program)(e:TypeId):Bool:=match P.info? e with|some i=>decide (0<i.bytes)&&decide (i.bytes<=16384)|none=>false
def ut(P:Program)(b:Builtin)(args:List Operand)(ts:List TypeId):K×List Operand:=
 match b,ts with
 |.len,[t]=>match P.underlying t with|some .string=>(.len true,args)|some (.slice _)=>(.len false,args)|_=>(.fL,[])
 |.max,_=>(.sO true,args)
 |.min,_=>(.sO false,args)
 |.append,[s,x]=>
  match P.underlying s,P.underlying x with
  |some (.slice e),some (.slice _)=>match fw P e,jE P e with|some (n+1),some z=>if pS P e=true/\z.length=n+1 then(.append (n+1),args)else(.fL,[])|_,_=>(.fL,[])
  |some (.slice e),some (.int _)=>match fw P e,jE P e with|some (n+1),some z=>if pS P e=true/\z.length=n+1 then(.Vr z,args)else(.fL,[])|_,_=>(.fL,[])
  |_,_=>(.fL,[])
 |.cap,[t]=>match P.underlying t with|some (.slice _)=>(.OA,args)|_=>(.fL,[])
 |.copy,[d,_]=>
  match P.underlying d with
  |some (.slice e)=>match fw P e with|some (n+1)=>(.copy (n+1),args)|_=>(.fL,[])
  |_=>(.fL,[])
 |.delete,[m,_]=>
  match P.underlying m with
  |some (.map kt e)=>match rM P kt e with|some (ka,ks,_,_)=>(.ud ka ks,args)|none=>(.fL,[])
  |_=>(.fL,[])
 |.clear,[s]=>
  match P.underlying s with
  |some (.slice e)=>match fw P e,jE P e with|some (n+1),some z=>if z.length=n+1 then(.clear z,args)else(.fL,[])|_,_=>(.fL,[])
  |_=>(.fL,[])
 |_,_=>(.fL,[])
def NE(P:Program)(f:FuncId):Bool:=
 match P.funcs[f]?with
 |some fn=>
  !(fn.name== "runtime.NumGoroutine")&&fn.body.isNone&&(Extern.findNext fn).isNone&&(Extern.allGenericRows.lookup fn.name).isNone&&(Extern.allTypedRows.lookup fn.name).isNone&&(Extern.allRows.lookup fn.name).isNone&&fn.origin== "slices.overlaps" &&
  (match fn.params.toList with
   |t::_=>(match P.underlying t with|some (.slice e)=>(match fw P e with|some (_+1)=>true|_=>false)|_=>false)
   |[]=>false)
 |none=>false
def HN:List Value->Bool
 |[.slice none 0 0]=>true
 |_=>false
def Rh(P:Program)(bM:xp)(e:TypeId)(z:List Value):Option Nat:=if(bM 1000000000).1=true/\HN z=true then(match P.underlying e with|some (.slice ee)=>(match fw P ee with|some (m+1)=>some (m+1)|_=>none)|_=>none)else none
def FI(P:Program)(t:TypeId):Bool:=match P.underlying t with|some (.slice _)=>true|_=>false
def vv(P:Program)(bM:xp):Op->K×List Operand
 |.move x|.assign x=>(.mv,[x])
 |.pick c a b=>(.pick,[c,a,b])
 |.alloc e=>match jE P e with|some z=>(.alloc z,[])|none=>(.fL,[])
 |.box _ x=>(.box,[x])
 |.build t parts=>
  match P.underlying t,jE P t with
  |some (.struct fields),some z=>match dN P fields (parts.toList.map (·.1))with|some pl=>if fields.toList.all (fun f=>(fw P f.type).isSome)then(.build z pl,parts.toList.map (·.2))else(.fL,[])|none=>(.fL,[])
  |some (.array _ e),some z=>match fw P e with|some n=>(.build z (parts.toList.map fun p=>(p.1*n,n)),parts.toList.map (·.2))|none=>(.fL,[])
  |_,_=>(.fL,[])
 |.buildSlice t len parts=>
  match P.underlying t with
  |some (.slice e)=>match fw P e,jE P e with|some (n+1),some z=>if len*(n+1)<=4096/\z.length=n+1/\(bM 1000000002).1=true then(.TI (n+1) len ((bm (len*(n+1))).map fun i=>z.getD (i %(n+1)) undef) (parts.toList.map (·.1)),parts.toList.map (·.2))else if len*(n+1)<=4096/\z.length=n+1 then(.buildSlice (n+1) len ((bm (len*(n+1))).map fun i=>z.getD (i %(n+1)) undef) (parts.toList.map (·.1)),parts.toList.map (·.2))else(.fL,[])|_,_=>(.fL,[])
  |_=>(.fL,[])
 |.load t a=>match fJ P t,fw P t with|some g,some n=>(if(bM 1000000000).1=true/\FI P t=true/\g=false/\n=1 then .vq else .load g n,[a])|_,_=>(.fL,[])
 |.store t a x=>match fw P t with|some n=>(.store n,[a,x])|none=>(.fL,[])
 |.nilCheck x=>(.nilCheck,[x])
 |.binOp op t x y _=>JC P op t x y
 |.unOp op _ x=>(.un op,[x])
 |.convert s d x=>match P.underlying s,P.underlying d with|some (.int _),some (.int k)=>(.xg k,[x])|some (.int _),some (.float k)=>(.Ga k,[x])|some .string,some .string=>(.ur,[x])|_,_=>(.fL,[])
 |.makeFunc (.func f) first captured=>if first.isEmpty then(.KQ f,captured.toList)else(.fL,[])
 |.makeSlice t l c=>
  match P.underlying t with
  |some (.slice e)=>match fw P e,jE P e with|some (n+1),some z=>if z.length=n+1/\pS P e=true then(match Rh P bM e z with|some m=>.Cf m|none=>.makeSlice z,[l,c])else(.fL,[])|_,_=>(.fL,[])
  |_=>(.fL,[])
 |.slice t x lo hi none=>
  match P.underlying t with
  |some .string=>(.slice true 1 lo.isSome hi.isSome,x::lo.toList++hi.toList)
  |some (.slice e)=>match fw P e with|some n=>(.slice false n lo.isSome hi.isSome,x::lo.toList++hi.toList)|none=>(.fL,[])
  |_=>(.fL,[])
 |.slice t x (some l) (some u) (some m)=>
  match P.underlying t with
  |some (.slice e)=>match fw P e with|some n=>(.CW n,[x,l,u,m])|none=>(.fL,[])
  |_=>(.fL,[])
 |.fieldAddr s x f=>
  match P.underlying s with
  |some (.struct fields)=>match fields[f]?with|some fl=>(match fw P fl.type with|some (m+1)=>(.fieldAddr fl.offset (m+1),[x])|_=>(.fL,[]))|none=>(.fL,[])
  |_=>(.fL,[])
 |.field s x f=>
  match P.underlying s with
  |some (.struct fields)=>match fields[f]?with|some fl=>(match fJ P fl.type,fw P fl.type with|some g,some n=>(.field g fl.offset n,[x])|_,_=>(.fL,[]))|none=>(.fL,[])
  |_=>(.fL,[])
 |.indexAddr t x i=>
  match P.underlying t with
  |some (.slice e)=>match fw P e with|some n=>if(bM 1000000002).1=true then(.Yy n,[x,i])else(.indexAddr none n,[x,i])|none=>(.fL,[])
  |some (.array len e)=>match fw P e with|some n=>(.indexAddr (some len) n,[x,i])|none=>(.fL,[])
  |_=>(.fL,[])
 |.index t x i=>
  match P.underlying t with
  |some .string=>(.ql,[x,i])
  |some (.array len e)=>match fJ P e,fw P e with|some g,some n=>(.index g len n,[x,i])|_,_=>(.fL,[])
  |_=>(.fL,[])
 |.extract x i=>(.extract i,[x])
 |.makeMap t none=>
  match P.underlying t with
  |some (.map k e)=>match fJ P k,fJ P e with|some ka,some va=>(.makeMap ka va,[])|_,_=>(.fL,[])
  |_=>(.fL,[])
 |.lookup t x ix ok=>
  match P.underlying t with
  |some (.map k e)=>match rM P k e with|some (ka,ks,va,z)=>(.lookup ka ks va z ok,[x,ix])|none=>(.fL,[])
  |_=>(.fL,[])
 |.mapEntry t m k=>
  match P.underlying t with
  |some (.map kt e)=>match rM P kt e with|some (ka,ks,va,z)=>(.mapEntry ka ks va z,[m,k])|none=>(.fL,[])
  |_=>(.fL,[])
 |.mapUpdate t m k x=>
  match P.underlying t with
  |some (.map kt e)=>match rM P kt e with|some (ka,ks,va,z)=>(.uc ka ks va z.length,[m,k,x])|none=>(.fL,[])
  |_=>(.fL,[])
 |.entryStore t m s x=>
  match P.underlying t with
  |some (.map kt e)=>match rM P kt e with|some (_,_,va,z)=>(.entryStore va z.length,[m,s,x])|none=>(.fL,[])
  |_=>(.fL,[])
 |.call c=>match c.callee with|.builtin b=>ut P b c.args.toList c.argTypes.toList|.value (.func f)=>if(bM f).2.length=9 then(if NE P f=true then(.Uq,c.args.toList)else(.fL,[]))else(.call (bM f).1 (bM f).2,.func f::c.args.toList)|.value f=>(.call false [],f::c.args.toList)|.invoke _ _=>(.fL,[])
 |_=>(.fL,[])
section
variable{P:Program}{S K:Nat->Prop}{w0 w:World}{Kn:Nat->Prop}{φ:Nat->gj}{hf:Nat->Option Ob}
def kH(S K:Nat->Prop)(w0 w:World)(Kn:Nat->Prop)(φ:Nat->gj)(hf:Nat->Option Ob)(nxt n':Nat)(v:TV)(u:eW)(val:Value)(w':World):Prop:=nxt<=n'/\∃S' φ',gy S w S' w'/\Ren Kn φ (po Kn nxt n') φ'/\fz S' w' (po Kn nxt n') φ' v val/\Inv S' K w0 (po Kn nxt n') φ' (bf u hf) w'
theorem fz.kn{Kn':Nat->Prop}{c:TV}{v:Value}(h:fz S w Kn φ c v)(hs:∀i,Kn i->Kn' i):fz S w Kn' φ c v:=h.mono (gy.refl _ _) ⟨hs,fun _ _=>rfl⟩
theorem kH.pure{n:Nat}{v:TV}{val:Value}(hI:Inv S K w0 Kn φ hf w)(h:fz S w Kn φ v val):kH S K w0 w Kn φ hf n n v [] val w:=⟨am _,S,φ,gy.refl _ _,qM _ _,h.kn fun _ hi=>.inl hi,hI.kn fun _ hi=>.inl hi⟩
def cX(P:Program)(o:Oper)(ρ:Operand->Value)(S K:Nat->Prop)(w0 w:World)(Kn:Nat->Prop)(φ:Nat->gj)(hf:Nat->Option Ob)(nxt n':Nat)(v:TV)(u:eW):Prop:=∃nx val w',(execOp ρ o).run P w=.ok nx w'/\(nx=.value val\/(nx=.skip/\val=undef))/\kH S K w0 w Kn φ hf nxt n' v u val w'
theorem Oh{v:Value}{tv:TV}(h:cv v=some tv):fz S w Kn φ tv v:=by
 unfold cv at h;split at h
 .rename_i cs;split at h
  .rename_i hp;obtain rfl:=aa h;refine .agg (by simp) fun i x hi=>?_;rw[aN]at hi;obtain⟨y,hy,rfl⟩:=aH.1 hi;have e:cs.getD i undef=y:=by simp_all
   rw[e];exact .d (.lit (bg.1 hp y (aF hy)))
  .simp at h
 .split at h
  .rename_i hp;obtain rfl:=aa h;exact .c (.d (.lit hp))
  .simp at h
def jk.ok(S:Nat->Prop)(w:World)(Kn:Nat->Prop)(φ:Nat->gj)(e:jk)(tmps:Array Value):Prop:=∀t x,bV e t=some x->fz S w Kn φ x (tmps.getD t undef)
theorem rK{e:jk}{a:Act}(hg:DY S w)(hE:jk.ok S w Kn φ e a.tmps){x:Operand}{tv:TV}(h:kz e x=some tv):fz S w Kn φ tv (a.eval x):=by
 cases x with
 |tmp t=>exact hE t tv h
 |const v=>exact Oh h
 |global g=>obtain⟨d,hd,rfl⟩:=aH.1 (show(UW g).map (fun d=>TV.c (.d d))=some tv from h);exact .c (.d (hg g d hd))
 |func f=>
  obtain rfl:TV.c _=tv:=by simpa[kz]using h
  exact .c (.d (.fn rfl fun j x hj=>by simp at hj))
inductive rt:Value->Value->Prop
 |lit {v:Value} (h:ez v=true):rt v v
 |nan {k:FloatKind} {n m:Nat} (hn:yI k n) (hm:yI k m):rt (.float k n) (.float k m)
 |ex {k:FloatKind} {n:Nat}:rt (.complex k n 0) (.float k n)
theorem fz.KJ{v val:Value}(h:fz S w Kn φ (.c (.d (.lit v))) val):rt v val:=by
 cases h with
 |c h=>cases h with
  |d h=>cases h with|lit h=>exact .lit h|nan hn hm=>exact .nan hn hm|ex=>exact .ex
def SY:Value->Bool
 |.float _ _|.complex _ _ _=>true
 |_=>false
theorem fz.lit{v val:Value}(h:fz S w Kn φ (.c (.d (.lit v))) val)(hf:SY v=false:=by rfl):val=v/\ez v=true:=by cases h.KJ with|lit hp=>exact⟨rfl,hp⟩|nan=>cases hf|ex=>cases hf
theorem fz.Hy{v val:Value}(h:rt v val):fz S w Kn φ (lv v) val:=by cases h with|lit h=>exact .c (.d (.lit h))|nan hn hm=>exact .c (.d (.nan hn hm))|ex=>exact .c (.d .ex)
theorem yI.eq{k:FloatKind}{n:Nat}(h:yI k n):∃s t,k.format.read n=.nan s t:=by
 unfold yI eh.isNaN at h
 grind
theorem I7{k:FloatKind}{n:Nat}(h:yI k n)(y:Nat):k.format.add n y=none/\k.format.sub n y=none/\k.format.mul n y=none/\k.format.div n y=none/\k.format.order n y=none:=by obtain⟨s,t,h⟩:=h.eq;simp[ga.add,ga.sub,ga.mul,ga.div,ga.order,h,eh.sum,eh.product,eh.quotient,eh.order]
theorem M9{k:FloatKind}{n:Nat}(h:yI k n)(y:Nat):k.format.add y n=none/\k.format.sub y n=none/\k.format.mul y n=none/\k.format.div y n=none/\k.format.order y n=none:=by obtain⟨s,t,h⟩:=h.eq;cases hy:k.format.read y<;>simp[ga.add,ga.sub,ga.mul,ga.div,ga.order,h,hy,eh.opposite,eh.sum,eh.product,eh.quotient,eh.order]
theorem OF{op:BinOp}{k:FloatKind}{n m:Nat}(hn:yI k n)(hm:yI k m)(y:Value):pU op (.float k n) y=pU op (.float k m) y:=by
 cases y with
 |float k' y=>
  unfold pU qA KK;obtain⟨a1,a2,a3,a4,a5⟩:=I7 hn y;obtain⟨b1,b2,b3,b4,b5⟩:=I7 hm y
  grind
 |_=>rfl
theorem OE{op:BinOp}{k:FloatKind}{n m:Nat}(hn:yI k n)(hm:yI k m)(y:Value):pU op y (.float k n)=pU op y (.float k m):=by
 cases y with
 |float k' y=>
  by_cases hk:k'=k
  .unfold pU qA KK;obtain⟨a1,a2,a3,a4,a5⟩:=M9 hn y;obtain⟨b1,b2,b3,b4,b5⟩:=M9 hm y;simp_all
  .unfold pU qA KK;simp[if_neg hk]
 |_=>rfl
theorem Ip{op:BinOp}{a b va vb v:Value}(ha:rt a va)(hb:rt b vb)(h:pU op a b=some v):pU op va vb=some v:=by
 cases ha with
 |ex=>cases hb<;>(cases h)
 |lit _=>cases hb with|lit _=>exact h|nan hn hm=>rw[<-OE hn hm];exact h|ex=>cases a<;>cases h
 |nan hn hm=>cases hb with|lit _=>rw[<-OF hn hm];exact h|nan hn' hm'=>rw[<-OF hn hm,<-OE hn' hm'];exact h|ex=>cases h
theorem Jk(k:FloatKind)(x y t:Nat):yI k ((Question.nanBits k x y).cut t):=by
 cases k with
 |f32=>
  show((ga.read Ieee.single) _).isNaN=true;have h1:((t %2)*2^31+0x7f800000+1+(t/2) %(2^23-1)) %2147483648=0x7f800001+(t/2) %8388607:=by omega
  show(eh.isNaN (if((t %2)*2^31+0x7f800000+1+(t/2) %(2^23-1)) %2147483648<8388608 then _ else if((t %2)*2^31+0x7f800000+1+(t/2) %(2^23-1)) %2147483648<2139095040 then _ else if((t %2)*2^31+0x7f800000+1+(t/2) %(2^23-1)) %2147483648=2139095040 then _ else _))=true;rw[if_neg (by omega),if_neg (by omega),if_neg (by omega)];rfl
 |f64=>
  show((ga.read Ieee.double) _).isNaN=true;have h1:((t %2)*2^63+0x7ff0000000000000+1+(t/2) %(2^52-1)) %9223372036854775808=0x7ff0000000000001+(t/2) %4503599627370495:=by omega
  show(eh.isNaN (if((t %2)*2^63+0x7ff0000000000000+1+(t/2) %(2^52-1)) %9223372036854775808<4503599627370496 then _ else if((t %2)*2^63+0x7ff0000000000000+1+(t/2) %(2^52-1)) %9223372036854775808<9218868437227405312 then _ else if((t %2)*2^63+0x7ff0000000000000+1+(t/2) %(2^52-1)) %9223372036854775808=9218868437227405312 then _ else _))=true;rw[if_neg (by omega),if_neg (by omega),if_neg (by omega)];rfl
theorem FJ(k:FloatKind):yI k (vf k):=by cases k<;>(unfold yI;decide)
theorem fz.rq{v:Value}(h:ez v=true):fz S w Kn φ (lv v) v:=.c (.d (.lit h))
theorem Mq{op:BinOp}{t:TypeId}{x y v:Value}(h:qA op x y=some v):(binOp op t x y).run P w=.ok v w/\ez v=true/\(∀a b,(eqGuard op t a b x y).run P w=.ok () w):=by
 have hg:∀a b,(match x,y with|.nilIface,.nilIface=>False|.agg _,.agg _=>False|_,_=>True)->(eqGuard op t a b x y).run P w=.ok () w:=by intro a b hxy;unfold eqGuard;cases op<;>simp<;>(cases x<;>cases y<;>simp_all)
 unfold qA at h;split at h
 .rename_i k a k' b;refine(fun⟨h1,h2⟩=>⟨h1,h2,fun a b=>hg a b trivial⟩:(_/\_)->_) ?_;split at h
  .split at h
   .simp at h
   .rename_i hb;obtain rfl:=aa h;simp[binOp,Op.shift,hb,ez]
  .split at h
   .simp at h
   .rename_i hb;obtain rfl:=aa h;simp[binOp,Op.shift,hb,ez]
  .rename_i op hshl hshr;split at h
   .rename_i hk;subst hk
    split at h<;>first
     |(simp at h;done)
     |(split at h
       .simp at h
       .rename_i hb;obtain rfl:=aa h;simp[binOp,Op.intDiv,hb,ez])
     |(obtain rfl:=aa h
       simp[binOp,Op.intArith,Op.intBits,Op.intCmp,ez])
   .simp at h
 .rename_i k a k' b;refine(fun⟨h1,h2⟩=>⟨h1,h2,fun a b=>hg a b trivial⟩:(_/\_)->_) ?_;split at h
  .rename_i hk;subst hk
   split at h<;>first
    |(simp at h;done)
    |(obtain⟨r,hr,rfl⟩:=aH.1 h
      simp[binOp,Op.floatArith,hr,ez])
    |(obtain rfl:=aa h
      simp[binOp,Op.floatCmp,ez])
  .simp at h
 .rename_i x y;refine(fun⟨h1,h2⟩=>⟨h1,h2,fun a b=>hg a b trivial⟩:(_/\_)->_) ?_
  split at h<;>first
   |(simp at h;done)
   |(split at h
     .simp at h
     .rename_i hb;obtain rfl:=aa h;refine⟨?_,rfl⟩;simp only[binOp,Op.stringOp,if_neg hb,Sem.run_pure])
   |(obtain rfl:=aa h
     simp[binOp,Op.stringOp,ez])
 .simp at h
theorem Mr{op:BinOp}{t:TypeId}{x y v:Value}(h:pU op x y=some v):∃v' n,(binOp op t x y).run P w=.ok v' {w with drawn:=n}/\w.drawn<=n/\rt v v'/\(∀a b,(eqGuard op t a b x y).run P w=.ok () w):=by
 unfold pU at h;split at h
 .rename_i z hz;obtain rfl:=aa h;obtain⟨h1,h2,h3⟩:=Mq (P:=P) (w:=w) (t:=t) hz;exact⟨_,w.drawn,h1,am _,.lit h2,h3⟩
 .rename_i hz;unfold KK at h;split at h
  .rename_i k a k' b;split at h
   .rename_i hk;subst hk
    have key:∀op',(op'=.add\/op'=.sub\/op'=.mul\/op'=.quo)->op=op'->(Op.floatArith op k a b=(do pure (.float k (<-choose (.nanBits k a b)))))->some (Value.float k (vf k))=some v->
      ∃v' n,(binOp op t (.float k a) (.float k b)).run P w=.ok v' {w with drawn:=n}/\w.drawn<=n/\rt v v'/\(∀x y,(eqGuard op t x y (.float k a) (.float k b)).run P w=.ok () w):=by
     intro op' ho he hf hv;obtain rfl:=aa hv;refine⟨.float k ((Question.nanBits k a b).cut (w.tape w.drawn (.nanBits k a b))),w.drawn+1,?_,bn _,.nan (FJ k) (Jk _ _ _ _),?_⟩
     .have e:binOp op t (.float k a) (.float k b)=Op.floatArith op k a b:=by subst he;rcases ho with rfl|rfl|rfl|rfl<;>simp[binOp]
      rw[e,hf];simp[Question.forced]
     .subst he;rcases ho with rfl|rfl|rfl|rfl<;>simp[eqGuard]
    split at h
    .split at h
     .rename_i e;exact key .add (by simp) rfl (by unfold Op.floatArith;simp[e]) h
     .cases h
    .split at h
     .rename_i e;exact key .sub (by simp) rfl (by unfold Op.floatArith;simp[e]) h
     .cases h
    .split at h
     .rename_i e;exact key .mul (by simp) rfl (by unfold Op.floatArith;simp[e]) h
     .cases h
    .split at h
     .rename_i e;exact key .quo (by simp) rfl (by unfold Op.floatArith;simp[e]) h
     .cases h
    .cases h
   .cases h
  .cases h
theorem IL{op:UnOp}{x v:Value}(h:T7 op x=some v):(Op.unary op x).run P w=.ok v w/\ez v=true:=by
 unfold T7 at h;split at h
 .split at h
  .obtain rfl:=aa h;simp[Op.unary,ez]
  .simp at h
 .split at h
  .obtain rfl:=aa h;simp[Op.unary,Op.intArith,ez]
  .obtain rfl:=aa h;simp[Op.unary,Op.intBits,ez]
  .simp at h
 .split at h
  .obtain rfl:=aa h;simp[Op.unary,ez]
  .simp at h
 .simp at h
end
section
variable{P:Program}{S K:Nat->Prop}{w0 w:World}{Kn:Nat->Prop}{φ:Nat->gj}{H:bp}{e:jk}{ρ:Operand->Value}{o:Oper}{call:Call}
 {nxt n':Nat} {v:TV} {u:eW} {av:List Nat}
theorem o3(j:Nat):(Kn j\/j=nxt)<->po Kn nxt (nxt+1) j:=by unfold po;grind
theorem Dg(hI:Inv S K w0 Kn φ (au H) w):¬S w.heap.size/\¬K w.heap.size:=⟨fun h=>Nat.lt_irrefl _ (hI.uH _ h),fun h=>by have:=hI.oe.HK _ h;have:=hI.oe.sT;omega⟩
theorem kH.box{hf:Nat->Option Ob}(hI:Inv S K w0 Kn φ (au H) w)(hh:hf=au H)(hn:¬Kn nxt){cs:List C}{aG:Array Value}(t:TypeId)(hlen:cs.length=aG.size)
  (h:∀(i:Nat)(x:C),cs[i]?=some x->RC S w Kn φ x (aG.getD i undef)):
  kH S K w0 w Kn φ hf nxt (nxt+1) (.c (.op nxt 0)) [(nxt,some (.box cs))] (.pointer (some ⟨w.heap.size,0,none⟩)) {w with heap:=w.heap.push (.cells aG t)}:=by
 subst hh;obtain⟨nS,nK⟩:=Dg hI;have hs:=gy.push hI.uH (.cells aG t);refine⟨bn _,S,_,hs,⟨fun _ h=>.inl h,(iZ _ hn).dH⟩,.c ?_,(hI.alloc hn aG t 1 0 _ (.box rfl nS nK (Ai w aG t) hlen fun i x hi=>(h i x hi).mono hs (iZ _ hn))).wV fun j=>o3 j⟩;have:=RC.op (S:=S) (w:={w with heap:=w.heap.push (.cells aG t)}) (Kn:=po Kn nxt (nxt+1)) (φ:=ext φ nxt ⟨w.heap.size,0,1,aG.size,0⟩) (id:=nxt) (off:=0) (.inr (by omega));simpa[ext]using this
theorem kH.aG{hf:Nat->Option Ob}(hI:Inv S K w0 Kn φ hf w)(hn:¬Kn nxt){sz cap:Nat}{rows:List (List D)}{aG:Array Value}(t:TypeId)(hsz:0<sz)
  (hcap:rows.length<=cap) (hfit:cap*sz<=aG.size) (h:cI S w sz (fun i=>aG[i]?) 0 rows):
  kH S K w0 w Kn φ hf nxt (nxt+1) (.c (.fx sz nxt 0 rows.length)) [(nxt,some (.aG sz rows))] (.slice (some ⟨w.heap.size,0,none⟩) rows.length cap) {w with heap:=w.heap.push (.cells aG t)}:=by
 have nS:=fun h=>Nat.lt_irrefl _ (hI.uH _ h);have nK:¬K w.heap.size:=fun h=>by have:=hI.oe.HK _ h;have:=hI.oe.sT;omega
 have hs:=gy.push hI.uH (.cells aG t);have hrl:rows.length*sz<=cap*sz:=az _ hcap;refine⟨bn _,S,_,hs,⟨fun _ h=>.inl h,(iZ _ hn).dH⟩,.c ?_,(hI.alloc hn aG t sz cap _ (.aG hsz rfl nS nK (Ai w aG t) rfl (by simp;omega) (h.mono hs) hcap)).wV fun j=>o3 j⟩;have e:ext φ nxt ⟨w.heap.size,0,sz,aG.size,cap⟩ nxt=⟨w.heap.size,0,sz,aG.size,cap⟩:=by simp[ext]
 have:=RC.fx (S:=S) (w:={w with heap:=w.heap.push (.cells aG t)}) (Kn:=po Kn nxt (nxt+1)) (φ:=ext φ nxt _) (id:=nxt) (off:=0) (addr:=0)
  (.inr (by omega)) hcap (by rw[e];simp) (by rw[e];simpa using hfit) (by rw[e];simp)
 rw[e]at this;simpa using this
theorem zX(t:TypeId)(val:Value):(newVar t val).run P w=.ok ⟨w.heap.size,0,none⟩ {w with heap:=w.heap.push (.cells val.cells t)}:=by simp[newVar,newRow]
theorem Nn{z:List Value}{aG:Array Value}(hz:aG.toList=z)(hp:∀x∈z,ez x=true):(eS z).length=aG.size/\∀(i:Nat)(x:C),(eS z)[i]?=some x->RC S w Kn φ x (aG.getD i undef):=by
 subst hz;refine⟨by simp[eS],fun i x hi=>?_⟩;simp only[eS,aN]at hi;obtain⟨y,hy,rfl⟩:=aH.1 hi;have e:aG.getD i undef=y:=by simp_all
 rw[e];exact .d (.lit (hp y (aF hy)))
theorem MW{t:TypeId}{z:List Value}(ho:o.op=.alloc t)(hz:jE P t=some z)(hI:Inv S K w0 Kn φ (au H) w)(hn0:nxt<n'->¬Kn nxt)
  (h:ci call (.alloc z) [] H nxt=some (v,u,av,n')):cX P o ρ S K w0 w Kn φ (au H) nxt n' v u:=by
 obtain⟨rfl,rfl,rfl,rfl⟩:TV.c (.op nxt 0)=v/\[(nxt,some (.box (eS z)))]=u/\[]=av/\nxt+1=n':=by simpa[ci]using h
 have hn:=hn0 (aQ _);obtain⟨val,hv,hc,hp⟩:=oU hz w;obtain⟨h1,h2⟩:=Nn (S:=S) (w:=w) (Kn:=Kn) (φ:=φ) hc hp;refine⟨.value _,_,_,?_,.inl rfl,kH.box hI rfl hn t h1 h2⟩;simp[execOp,ho,Instr.alloc,hv,zX]
theorem Sx{t:TypeId}{x:Operand}(ho:o.op=.box t x)(hI:Inv S K w0 Kn φ (au H) w)(hn0:nxt<n'->¬Kn nxt){tv:Option TV}(hx:∀y,tv=some y->fz S w Kn φ y (ρ x))
  (h:ci call .box [tv] H nxt=some (v,u,av,n')):cX P o ρ S K w0 w Kn φ (au H) nxt n' v u:=by
 cases tv with
 |none=>simp[ci]at h
 |some y=>
  simp[ci]at h;split at h
  .rename_i cs hcs;obtain⟨rfl,rfl,rfl,rfl⟩:TV.c _=v/\[(nxt,some _)]=u/\[]=av/\nxt+1=n':=by simpa using h
   have hn:=hn0 (aQ _);obtain⟨h1,h2,_⟩:=(hx y rfl).cells hcs;refine⟨.value _,_,_,?_,.inl rfl,kH.box hI rfl hn t h1 h2⟩;simp[execOp,ho,Instr.box,zX]
  .simp at h
theorem Kb{t:TypeId}{agg:Bool}{n:Nat}(ha:fJ P t=some agg)(hs:fw P t=some n)(hI:Inv S K w0 Kn φ (au H) w){p:C}{pv:Value}(hp:RC S w Kn φ p pv)(hn0:nxt<n'->¬Kn nxt)
  (h:lW agg n p H nxt=some (v,u,av,n')):∃val,(Instr.loadAt t pv).run P w=.ok val w/\kH S K w0 w Kn φ (au H) nxt n' v u val w:=by
 unfold lW at h;split at h
 case h_2=>simp at h
 rename_i id bv;split at h
 case h_2=>simp at h
 rename_i sz slots ho;split at h
 case isFalse=>simp at h
 rename_i hag;obtain⟨rfl,rfl⟩:=hag;obtain⟨hk,hro⟩:=hI.iI id _ ho;have hl:=by cases hro with|nst hsz hl=>exact hl
 cases hp with
 |ep hk'=>
  have ea:(⟨(φ id).cQ,(φ id).aL+bv*(φ id).sz+0,none⟩:Addr)=⟨(φ id).cQ,(φ id).aL+bv,none⟩:=by rw[hl,kh,fy]
  rw[ea];split at h
  .rename_i hsl;cases hro with
   |nst hsz hl hS hK hown hext hfit hr hv=>
    obtain⟨x,h1,h2⟩:=hr bv _ hsl;cases h2
    obtain⟨val,q1,q2⟩:=xK (S:=S) (Kn:=Kn) (φ:=φ) ha hs (cells:=[.d _]) (fun j x hj=>by
     cases j with
     |succ j=>simp at hj
     |zero=>
      obtain rfl:C.d _=x:=by simpa using hj
      exact⟨_,(hown.cell _).trans h1,.d (.lit rfl)⟩) rfl
    grind [Instr.loadAt,Instr.sureAddr,kH.pure]
  .rename_i rows hsl;obtain⟨rfl,rfl,rfl,rfl⟩:TV.c _=v/\[(nxt,some _),(id,some _)]=u/\[id]=av/\nxt+1=n':=by simpa using h
   have hn:=hn0 (aQ _);obtain⟨l,x,h1,h2,h3⟩:=hI.split ho hsl hn
   obtain⟨val,q1,q2⟩:=xK (S:=S) ha hs (cells:=[.fx sz nxt 0 rows.length]) (o:=(φ id).aL+bv) (fun j x' hj=>by
     cases j with
     |succ j=>simp at hj
     |zero=>
      obtain rfl:C.fx sz nxt 0 rows.length=x':=by simpa using hj
      exact⟨x,h1,h2⟩) rfl
   refine⟨val,by simp[Instr.loadAt,Instr.sureAddr,q1],bn _,S,ext φ nxt l,gy.refl _ _,⟨fun i hi=>.inl hi,(iZ l hn).dH⟩,q2.kn fun i=>(o3 i).1,h3.wV fun i=>o3 i⟩
  .simp at h
theorem I0{t:TypeId}{x:Operand}{agg:Bool}{n:Nat}(ho:o.op=.load t x)(ha:fJ P t=some agg)(hs:fw P t=some n)(hI:Inv S K w0 Kn φ (au H) w)
  {tv:Option TV} (hx:∀y,tv=some y->fz S w Kn φ y (ρ x)) (h:ci call (.load agg n) [tv] H nxt=some (v,u,av,n')):cX P o ρ S K w0 w Kn φ (au H) nxt n' v u:=by
 cases tv with
 |none=>simp[ci]at h
 |some y=>
  cases y with
  |c p=>
   change (match g_ agg n p H with|some (v,av)=>some (v,[],av,nxt)|none=>none)=_ at h;split at h
   .rename_i v' ids' hl;obtain⟨rfl,rfl,rfl,rfl⟩:v'=v/\[]=u/\ids'=av/\nxt=n':=by simpa using h
    cases hx _ rfl with|c hp=>obtain⟨val,h1,h2⟩:=zZ ha hs hI hp hl;refine⟨.value _,_,_,?_,.inl rfl,kH.pure hI h2⟩;simp[execOp,ho,h1]
   .simp at h
  |_=>simp[ci]at h
theorem MP{t:TypeId}{x:Operand}(ho:o.op=.load t x)(ha:fJ P t=some false)(hs:fw P t=some 1)(hI:Inv S K w0 Kn φ (au H) w)(hn0:nxt<n'->¬Kn nxt)
  {tv:Option TV} (hx:∀y,tv=some y->fz S w Kn φ y (ρ x)) (h:ci call .vq [tv] H nxt=some (v,u,av,n')):cX P o ρ S K w0 w Kn φ (au H) nxt n' v u:=by
 cases tv with
 |none=>simp[ci]at h
 |some y=>
  cases y with
  |c p=>
   change (match g_ false 1 p H with|some (v,av)=>some (v,[],av,nxt)|none=>lW false 1 p H nxt)=_ at h;split at h
   .rename_i v' ids' hl;exact I0 (call:=call) ho ha hs hI hx (by show(match g_ false 1 p H with|some (v,av)=>some (v,[],av,nxt)|none=>none)=_;rw[hl];exact h)
   .cases hx _ rfl with|c hp=>obtain⟨val,h1,h2⟩:=Kb ha hs hI hp hn0 h;refine⟨.value _,_,_,?_,.inl rfl,h2⟩;simp[execOp,ho,h1]
  |_=>simp[ci]at h
theorem cX.pure{val:Value}(hI:Inv S K w0 Kn φ (au H) w)(hr:(execOp ρ o).run P w=.ok (.value val) w)(h:fz S w Kn φ v val):cX P o ρ S K w0 w Kn φ (au H) nxt nxt v []:=⟨.value val,val,w,hr,.inl rfl,kH.pure hI h⟩
theorem Re{x:Operand}(ho:o.op=.move x\/o.op=.assign x)(hI:Inv S K w0 Kn φ (au H) w){tv:Option TV}(hx:∀y,tv=some y->fz S w Kn φ y (ρ x))
  (h:ci call .mv [tv] H nxt=some (v,u,av,n')):cX P o ρ S K w0 w Kn φ (au H) nxt n' v u:=by
 cases tv with
 |none=>simp[ci]at h
 |some y=>
  obtain⟨rfl,rfl,rfl,rfl⟩:y=v/\[]=u/\[]=av/\nxt=n':=by simpa[ci]using h
  refine cX.pure hI ?_ (hx _ rfl);rcases ho with ho|ho<;>simp[execOp,ho]
theorem PW{c x y:Operand}(ho:o.op=.pick c x y)(hI:Inv S K w0 Kn φ (au H) w){tc tx ty:Option TV}(hc:∀z,tc=some z->fz S w Kn φ z (ρ c))
  (hx:∀z,tx=some z->fz S w Kn φ z (ρ x)) (hy:∀z,ty=some z->fz S w Kn φ z (ρ y))
  (h:ci call .pick [tc,tx,ty] H nxt=some (v,u,av,n')):cX P o ρ S K w0 w Kn φ (au H) nxt n' v u:=by
 match tc,h,hc with
 |some (.c (.d (.lit (.bool b)))),h,hc=>
  change (match(if b then tx else ty)with|some v=>some (v,[],[],nxt)|none=>none)=_ at h;obtain⟨hb,_⟩:=(hc _ rfl).lit;cases b
  .cases ty with
   |none=>simp at h
   |some z=>
    obtain⟨rfl,rfl,rfl,rfl⟩:z=v/\[]=u/\[]=av/\nxt=n':=by simpa using h
    exact cX.pure hI (by simp[execOp,ho,hb,asBool]) (hy _ rfl)
  .cases tx with
   |none=>simp at h
   |some z=>
    obtain⟨rfl,rfl,rfl,rfl⟩:z=v/\[]=u/\[]=av/\nxt=n':=by simpa using h
    exact cX.pure hI (by simp[execOp,ho,hb,asBool]) (hx _ rfl)
theorem E5{x:Operand}(ho:o.op=.nilCheck x)(hI:Inv S K w0 Kn φ (au H) w){tv:Option TV}(hx:∀y,tv=some y->fz S w Kn φ y (ρ x))
  (h:ci call .nilCheck [tv] H nxt=some (v,u,av,n')):cX P o ρ S K w0 w Kn φ (au H) nxt n' v u:=by
 match tv,h,hx with
 |some (.c c),h,hx=>
  have key:(∃a,ρ x=.pointer (some a))\/(∃g vs,ρ x=.func (.func g) #[] vs)->some (TV.c c,([]:eW),([]:List Nat),nxt)=some (v,u,av,n')->cX P o ρ S K w0 w Kn φ (au H) nxt n' v u:=by
   intro hc h;obtain⟨rfl,rfl,rfl,rfl⟩:TV.c c=v/\[]=u/\[]=av/\nxt=n':=by simpa using h
   refine cX.pure hI ?_ (hx _ rfl);rcases hc with⟨a,hc⟩|⟨g,vs,hc⟩<;>simp[execOp,ho,hc]
  have hr:=hx _ rfl;generalize hv0:ρ x=val at hr;cases hr with
  |c hr=>
   cases hr with
   |d hd=>cases hd with|lit hp=>simp[ci]at h|nan=>simp[ci]at h|ex=>simp[ci]at h|sl=>simp[ci]at h|uJ=>simp[ci]at h|pt f hb=>exact key (.inl ⟨_,hv0⟩) h|fn hl hr=>exact key (.inr ⟨_,_,hv0⟩) h
   |fx=>simp[ci]at h
   |ep hk=>exact key (.inl ⟨_,hv0⟩) h
   |op hk=>exact key (.inl ⟨_,hv0⟩) h
   |pJ hl hr=>exact key (.inr ⟨_,_,hv0⟩) h
   |om hk=>simp[ci]at h
theorem NG{k:FloatKind}{n m:Nat}(h:n %k.format.signWeight=m %k.format.signWeight)(hn:yI k n):yI k m:=by
 unfold yI ga.read at*;rw[h]at hn;dsimp only at hn|-;split at hn
 .cases hn
 .rw [if_neg (by assumption)];split at hn
  .cases hn
  .rw [if_neg (by assumption)];split at hn
   .cases hn
   .rw [if_neg (by assumption)];rfl
theorem Fe{k:FloatKind}{n:Nat}(h:yI k n):yI k (Op.negFloat k n):=by refine NG ?_ h;unfold Op.negFloat ga.signWeight;rw[Nat.xor_mod_two_pow,Nat.mod_self,Nat.xor_zero]
theorem JR{op:UnOp}{a va v:Value}(ha:rt a va)(h:T7 op a=some v):∃v',T7 op va=some v'/\rt v v':=by
 cases ha with
 |lit _=>exact⟨v,h,.lit (IL (P:=default) (w:=default) h).2⟩
 |ex=>cases h
 |nan hn hm=>cases op with|neg=>obtain rfl:=aa h;exact⟨_,rfl,.nan (Fe hn) (Fe hm)⟩|_=>cases h
theorem Us{t:TypeId}{op:UnOp}{x:Operand}(ho:o.op=.unOp op t x)(hI:Inv S K w0 Kn φ (au H) w){tv:Option TV}(hx:∀y,tv=some y->fz S w Kn φ y (ρ x))
  (h:ci call (.un op) [tv] H nxt=some (v,u,av,n')):cX P o ρ S K w0 w Kn φ (au H) nxt n' v u:=by
 match tv,h,hx with
 |some (.c (.d (.lit z))),h,hx=>
  change (match T7 op z with|some v=>some (lv v,[],[],nxt)|none=>none)=_ at h;split at h
  .rename_i r hr;obtain⟨rfl,rfl,rfl,rfl⟩:lv r=v/\[]=u/\[]=av/\nxt=n':=by simpa using h
   obtain⟨r',h3,h4⟩:=JR (hx _ rfl).KJ hr;obtain⟨h1,h2⟩:=IL (P:=P) (w:=w) h3;exact cX.pure hI (by simp[execOp,ho,h1]) (.Hy h4)
  .simp at h
theorem Sy{t ty:TypeId}{op:BinOp}{x y:Operand}(ho:o.op=.binOp op t x y ty)(hI:Inv S K w0 Kn φ (au H) w){tx tz:Option TV}(hx:∀z,tx=some z->fz S w Kn φ z (ρ x))
  (hy:∀z,tz=some z->fz S w Kn φ z (ρ y)) (h:ci call (.A6 op) [tx,tz] H nxt=some (v,u,av,n')):cX P o ρ S K w0 w Kn φ (au H) nxt n' v u:=by
 match tx,tz,h,hx,hy with
 |some (.c (.d (.lit a))),some (.c (.d (.lit b))),h,hx,hy=>
  change (match pU op a b with|some v=>some (lv v,[],[],nxt)|none=>none)=_ at h;split at h
  .rename_i r hr;obtain⟨rfl,rfl,rfl,rfl⟩:lv r=v/\[]=u/\[]=av/\nxt=n':=by simpa using h
   have hr:=Ip (hx _ rfl).KJ (hy _ rfl).KJ hr;obtain⟨r',n,h1,hle,h4,h3⟩:=Mr (P:=P) (t:=t) hr;exact⟨.value r',r',_,by simp[execOp,ho,h1,h3],.inl rfl,am _,S,φ,gy.vh _ _ _,qM _ _,.Hy h4,(hI.vh n hle).kn fun _ hi=>.inl hi⟩
  .simp at h
theorem z6{t:TypeId}(hu:P.underlying t=some .bool)(a b:Bool):(Op.equal t (.bool a) (.bool b)).run P w=.ok (a==b) w:=by show(Op.equalIn (9999+1) t _ _).run P w=_;unfold Op.equalIn;rw[Sem.run_bind,bz hu];rfl
theorem KC{t ty:TypeId}{op:BinOp}{x y:Operand}(ho:o.op=.binOp op t x y ty)(hop:op=.eql\/op=.neq)(hu:P.underlying t=some .bool)(hI:Inv S K w0 Kn φ (au H) w)
  {tx tz:Option TV} (hx:∀z,tx=some z->fz S w Kn φ z (ρ x)) (hy:∀z,tz=some z->fz S w Kn φ z (ρ y))
  (h:ci call (.vX (op==.neq)) [tx,tz] H nxt=some (v,u,av,n')):cX P o ρ S K w0 w Kn φ (au H) nxt n' v u:=by
 match tx,tz,h,hx,hy with
 |some (.c (.d (.lit (.bool a)))),some (.c (.d (.lit (.bool b)))),h,hx,hy=>
  obtain⟨ha,_⟩:=(hx _ rfl).lit;obtain⟨hb,_⟩:=(hy _ rfl).lit;change some (lv _,([]:eW),([]:List Nat),nxt)=_ at h;obtain⟨rfl,rfl,rfl,rfl⟩:lv _=v/\[]=u/\[]=av/\nxt=n':=by simpa using h
  refine cX.pure hI ?_ (.rq rfl);rcases hop with rfl|rfl
  .simp [execOp,ho,ha,hb,eqGuard,binOp,z6 hu]
  .simp [execOp,ho,ha,hb,eqGuard,binOp,z6 hu]
theorem Hv{s d:TypeId}{k k':IntKind}{x:Operand}(ho:o.op=.convert s d x)(hs:P.underlying s=some (.int k'))(hd:P.underlying d=some (.int k))(hI:Inv S K w0 Kn φ (au H) w)
  {tv:Option TV} (hx:∀y,tv=some y->fz S w Kn φ y (ρ x)) (h:ci call (.xg k) [tv] H nxt=some (v,u,av,n')):cX P o ρ S K w0 w Kn φ (au H) nxt n' v u:=by
 match tv,h,hx with
 |some (.c (.d (.lit (.int k0 n)))),h,hx=>
  obtain⟨ha,_⟩:=(hx _ rfl).lit;obtain⟨rfl,rfl,rfl,rfl⟩:lv _=v/\[]=u/\[]=av/\nxt=n':=by simpa[ci]using h
  exact cX.pure hI (by simp[execOp,ho,ha,convert,bz hs,bz hd,Conv.intToInt]) (.rq rfl)
theorem MU{s d:TypeId}{k':IntKind}{k:FloatKind}{x:Operand}(ho:o.op=.convert s d x)(hs:P.underlying s=some (.int k'))(hd:P.underlying d=some (.float k))(hI:Inv S K w0 Kn φ (au H) w)
  {tv:Option TV} (hx:∀y,tv=some y->fz S w Kn φ y (ρ x)) (h:ci call (.Ga k) [tv] H nxt=some (v,u,av,n')):cX P o ρ S K w0 w Kn φ (au H) nxt n' v u:=by
 match tv,h,hx with
 |some (.c (.d (.lit (.int k0 n)))),h,hx=>
  obtain⟨ha,_⟩:=(hx _ rfl).lit;obtain⟨rfl,rfl,rfl,rfl⟩:lv (.float k (k.nearest n))=v/\[]=u/\[]=av/\nxt=n':=by simpa[ci]using h
  exact cX.pure hI (by simp[execOp,ho,ha,convert,bz hs,bz hd,Conv.intToFloat]) (.rq rfl)
theorem E_{s d:TypeId}{x:Operand}(ho:o.op=.convert s d x)(hs:P.underlying s=some .string)(hd:P.underlying d=some .string)(hI:Inv S K w0 Kn φ (au H) w)
  {tv:Option TV} (hx:∀y,tv=some y->fz S w Kn φ y (ρ x)) (h:ci call .ur [tv] H nxt=some (v,u,av,n')):cX P o ρ S K w0 w Kn φ (au H) nxt n' v u:=by
 match tv,h,hx with
 |some (.c (.d (.lit (.string s0)))),h,hx=>
  obtain⟨ha,_⟩:=(hx _ rfl).lit;obtain⟨rfl,rfl,rfl,rfl⟩:lv _=v/\[]=u/\[]=av/\nxt=n':=by simpa[ci]using h
  exact cX.pure hI (by simp[execOp,ho,ha,convert,bz hs,bz hd]) (.rq rfl)
theorem Hu{x:Operand}{i:Nat}(ho:o.op=.extract x i)(hI:Inv S K w0 Kn φ (au H) w){tv:Option TV}(hx:∀y,tv=some y->fz S w Kn φ y (ρ x))
  (h:ci call (.extract i) [tv] H nxt=some (v,u,av,n')):cX P o ρ S K w0 w Kn φ (au H) nxt n' v u:=by
 match tv,h,hx with
 |some (.gX xs),h,hx=>
  change (match xs[i]?with|some v=>some (v,[],[],nxt)|none=>none)=_ at h;split at h
  .rename_i y hy;obtain⟨rfl,rfl,rfl,rfl⟩:y=v/\[]=u/\[]=av/\nxt=n':=by simpa using h
   have hr:=hx _ rfl;generalize hv0:ρ x=val at hr;cases hr with
   |@gX _ aG hlen hr=>
    have hlt:i<aG.size:=by grind
    refine cX.pure hI ?_ (hr i y hy);simp[execOp,ho,hv0,Instr.extract,hlt]
  .simp at h
theorem Dd{s:TypeId}{f n:Nat}{fields:Array Field}{fl:Field}{x:Operand}(ho:o.op=.fieldAddr s x f)(hu:P.underlying s=some (.struct fields))(hf:fields[f]?=some fl)
  (hs:fw P fl.type=some (n+1)) (hI:Inv S K w0 Kn φ (au H) w) {tv:Option TV} (hx:∀y,tv=some y->fz S w Kn φ y (ρ x))
  (h:ci call (.fieldAddr fl.offset (n+1)) [tv] H nxt=some (v,u,av,n')):cX P o ρ S K w0 w Kn φ (au H) nxt n' v u:=by
 match tv,h,hx with
 |some (.c c),h,hx=>
  change (match kg fl.offset (n+1) c with|some y=>some (TV.c y,[],[],nxt)|none=>none)=_ at h;split at h
  .rename_i y hy;obtain⟨rfl,rfl,rfl,rfl⟩:TV.c y=v/\[]=u/\[]=av/\nxt=n':=by simpa using h
   have run:∀b off,ρ x=.pointer (some ⟨b,off,none⟩)->(execOp ρ o).run P w=.ok (.value (.pointer (some ⟨b,off+fl.offset,none⟩))) w:=by simp_all[execOp,Instr.fieldAt,bz,Instr.sureAddr,fieldPlace,gG,pk]
   have hr:=hx _ rfl;generalize hv0:ρ x=val at hr;cases hr with
   |c hr=>
    cases hr with
    |d hd=>
     cases hd with
     |@pt cells b off g hb hcell hrd=>
      simp only[kg]at hy;split at hy
      .obtain rfl:=aa hy;refine cX.pure hI (run _ _ hv0) (.c (.d (.Ac hb fun j z hj=>?_)));rw[fq]at hj;split at hj
       .rw [bQ]at hj;exact⟨_,by rw[di];exact hcell _ _ hj,hrd _ _ hj⟩
       .simp at hj
      .simp at hy
     |_=>simp[kg]at hy
    |@op id off hk=>
     obtain rfl:C.op id _=y:=by simpa[kg]using hy
     refine cX.pure hI (run _ _ hv0) (.c ?_);rw[di];exact .op hk
    |@ep id bv off hk=>
     obtain rfl:C.ep id bv _=y:=by simpa[kg]using hy
     refine cX.pure hI (run _ _ hv0) (.c ?_);rw[di];exact .ep hk
    |_=>simp[kg]at hy
  .simp at h
theorem MQ{str:Bool}{t:TypeId}{x:Operand}{c:oc}(ho:o.op=.call c)(hcal:c.callee=.builtin .len)(hargs:c.args= #[x])(hts:c.argTypes= #[t])
  (hu:if str then P.underlying t=some .string else∃b,P.underlying t=some (.slice b)) (hI:Inv S K w0 Kn φ (au H) w) {tv:Option TV} (hx:∀y,tv=some y->fz S w Kn φ y (ρ x))
  (h:ci call (.len str) [tv] H nxt=some (v,u,av,n')):cX P o ρ S K w0 w Kn φ (au H) nxt n' v u:=by
 match tv,h,hx with
 |some (.c y),h,hx=>
  change (match vu str y with|some n=>some (lv (.int .i64 n),[],[],nxt)|none=>none)=_ at h;split at h
  .rename_i n hn;obtain⟨rfl,rfl,rfl,rfl⟩:lv (.int .i64 n)=v/\[]=u/\[]=av/\nxt=n':=by simpa using h
   refine cX.pure hI ?_ (.rq rfl);have hr:=hx _ rfl;generalize hv0:ρ x=val at hr;cases str with
   |true=>
    simp only[if_true]at hu
    match y,hn,hr with
    |.d (.lit (.string s)),hn,hr=>
     obtain⟨rfl,_⟩:=hr.lit;obtain rfl:(s.size:Int)=n:=by simpa[vu]using hn
     simp[execOp,ho,hcal,hargs,hts,resolve,invoke,builtin,hv0,Builtin.len_,bz hu,goInt]
   |false=>
    obtain⟨b,hu⟩:=hu;have hsl:∀a l k,val=.slice a l k->n=(l:Int)->(execOp ρ o).run P w=.ok (.value (.int .i64 n)) w:=by intro a l k e1 e2;simp[execOp,ho,hcal,hargs,hts,resolve,invoke,builtin,hv0,e1,e2,Builtin.len_,bz hu,goInt]
    match y,hn,hr with
    |.d (.lit (.slice none 0 0)),hn,hr=>obtain⟨rfl,_⟩:=hr.lit;exact hsl _ _ _ rfl (by simpa[vu]using hn.symm)
    |.d (.sl sz rows),hn,hr=>
     cases hr with
     |c hr=>cases hr with
      |d hd=>cases hd with|sl=>exact hsl _ _ _ rfl (by simpa[vu]using hn.symm)|uJ=>exact hsl _ _ _ rfl (by simpa[vu]using hn.symm)
    |.fx sz id off len,hn,hr=>
     cases hr with
     |c hr=>cases hr with|fx=>exact hsl _ _ _ rfl (by simpa[vu]using hn.symm)
  .simp at h
theorem sD{op:BinOp}(hop:op=.eql\/op=.neq){t:TypeId}{x y:Value}{b:Bool}(a c:Operand)
  (h1:binOp .eql t x y=(do pure (.bool (<-Op.equal t x y)))) (h2:binOp .neq t x y=(do pure (.bool (!(<-Op.equal t x y)))))
  (hg:(eqGuard op t a c x y).run P w=.ok () w) (he:(Op.equal t x y).run P w=.ok b w):
  ((do eqGuard op t a c x y;binOp op t x y):Sem Value).run P w=.ok (.bool (if op==.neq then !b else b)) w:=by
 rcases hop with rfl|rfl
 .simp_all
 simp_all
theorem rP{op:BinOp}{t:TypeId}(a c:Operand){x y:Value}(h:match x,y with|.nilIface,.nilIface=>False|.agg _,.agg _=>False|_,_=>True):
  (eqGuard op t a c x y).run P w=.ok () w:=by
 unfold eqGuard;cases op<;>simp<;>(cases x<;>cases y<;>simp_all)
theorem um(t:TypeId)(x y:Value):Op.equal t x y=Op.equalIn (9999+1) t x y:=rfl
def M5(P:Program)(t:TypeId):Nat->Prop
 |0=>∃x,P.underlying t=some (.slice x)
 |1=>∃x,P.underlying t=some (.pointer x)
 |2=>∃a b c,P.underlying t=some (.func a b c)
 |_=>False
theorem Kc{op:BinOp}(hop:op=.eql\/op=.neq){kind:Nat}{t:TypeId}{y:C}{val:Value}{b:Bool}(a c:Operand)(hu:M5 P t kind)
  (hr:fz S w Kn φ (.c y) val) (hn:qW kind y=some b):
  ((do eqGuard op t a c val (oZ kind);binOp op t val (oZ kind)):Sem Value).run P w=.ok (.bool (if op==.neq then !b else b)) w/\
  ((do eqGuard op t a c (oZ kind) val;binOp op t (oZ kind) val):Sem Value).run P w=.ok (.bool (if op==.neq then !b else b)) w:=by
 have hsl:(∃x,P.underlying t=some (.slice x))->∀q l k,kind=0->val=.slice q l k->b=q.isNone->
   ((do eqGuard op t a c val (oZ kind);binOp op t val (oZ kind)):Sem Value).run P w=.ok (.bool (if op==.neq then !b else b)) w/\
   ((do eqGuard op t a c (oZ kind) val;binOp op t (oZ kind) val):Sem Value).run P w=.ok (.bool (if op==.neq then !b else b)) w:=by
  rintro⟨x,hu'⟩ q l k rfl rfl rfl;refine⟨sD hop a c rfl rfl (rP a c trivial) ?_,sD hop a c rfl rfl (rP a c trivial) ?_⟩
  all_goals
   rw[um];unfold Op.equalIn;rw[Sem.run_bind,bz hu'];cases q<;>rfl
 have hpt:(∃x,P.underlying t=some (.pointer x))->∀q,kind=1->val=.pointer q->b=q.isNone->
   ((do eqGuard op t a c val (oZ kind);binOp op t val (oZ kind)):Sem Value).run P w=.ok (.bool (if op==.neq then !b else b)) w/\
   ((do eqGuard op t a c (oZ kind) val;binOp op t (oZ kind) val):Sem Value).run P w=.ok (.bool (if op==.neq then !b else b)) w:=by
  rintro⟨x,hu'⟩ q rfl rfl rfl;refine⟨sD hop a c ?_ ?_ (rP a c trivial) ?_,sD hop a c ?_ ?_ (rP a c trivial) ?_⟩
  .cases q<;>rfl
  .cases q<;>rfl
  .rw [um];unfold Op.equalIn;rw[Sem.run_bind,bz hu'];cases q<;>rfl
  .cases q<;>rfl
  .cases q<;>rfl
  .rw [um];unfold Op.equalIn;rw[Sem.run_bind,bz hu'];cases q<;>rfl
 have hfn:(∃x y z,P.underlying t=some (.func x y z))->kind=2->((val=.nilFunc/\b=true)\/((∃f p q,val=.func f p q)/\b=false))->
   ((do eqGuard op t a c val (oZ kind);binOp op t val (oZ kind)):Sem Value).run P w=.ok (.bool (if op==.neq then !b else b)) w/\
   ((do eqGuard op t a c (oZ kind) val;binOp op t (oZ kind) val):Sem Value).run P w=.ok (.bool (if op==.neq then !b else b)) w:=by
  rintro⟨x,y,z,hu'⟩ rfl (⟨rfl,rfl⟩|⟨⟨f,p,q,rfl⟩,rfl⟩)
  all_goals
   refine⟨sD hop a c rfl rfl (rP a c trivial) ?_,sD hop a c rfl rfl (rP a c trivial) ?_⟩
   all_goals
    rw[um];unfold Op.equalIn;rw[Sem.run_bind,bz hu'];rfl
 cases hr with
 |c hr=>
  match kind,y,hn,hr,hu with
  |0,.d (.lit (.slice none 0 0)),hn,hr,hu=>cases hr with|d hd=>cases hd with|lit hp=>exact hsl hu _ _ _ rfl rfl (by simpa[qW]using hn.symm)
  |0,.d (.sl _ _),hn,hr,hu=>cases hr with|d hd=>cases hd with|sl=>exact hsl hu _ _ _ rfl rfl (by simpa[qW]using hn.symm)|uJ=>exact hsl hu _ _ _ rfl rfl (by simpa[qW]using hn.symm)
  |0,.fx _ _ _ _,hn,hr,hu=>cases hr with|fx=>exact hsl hu _ _ _ rfl rfl (by simpa[qW]using hn.symm)
  |1,.d (.lit (.pointer none)),hn,hr,hu=>cases hr with|d hd=>cases hd with|lit hp=>exact hpt hu _ rfl rfl (by simpa[qW]using hn.symm)
  |1,.d (.pt _),hn,hr,hu=>cases hr with|d hd=>cases hd with|pt=>exact hpt hu _ rfl rfl (by simpa[qW]using hn.symm)
  |1,.ep _ _ _,hn,hr,hu=>cases hr with|ep=>exact hpt hu _ rfl rfl (by simpa[qW]using hn.symm)
  |1,.op _ _,hn,hr,hu=>cases hr with|op=>exact hpt hu _ rfl rfl (by simpa[qW]using hn.symm)
  |2,.d (.lit .nilFunc),hn,hr,hu=>cases hr with|d hd=>cases hd with|lit hp=>exact hfn hu rfl (.inl ⟨rfl,by simpa[qW]using hn.symm⟩)
  |2,.d (.fn _ _),hn,hr,hu=>cases hr with|d hd=>cases hd with|fn=>exact hfn hu rfl (.inr ⟨⟨_,_,_,rfl⟩,by simpa[qW]using hn.symm⟩)
  |2,.pJ _ _,hn,hr,hu=>cases hr with|pJ=>exact hfn hu rfl (.inr ⟨⟨_,_,_,rfl⟩,by simpa[qW]using hn.symm⟩)
theorem yH{kind:Nat}{x:Operand}(h:x8 kind x=true):x=.const (oZ kind):=by unfold x8 at h;split at h<;>first|rfl|simp at h
theorem E8{t ty:TypeId}{op:BinOp}{x y z:Operand}{kind:Nat}(ho:o.op=.binOp op t x y ty)(hop:op=.eql\/op=.neq)(hu:M5 P t kind)(hI:Inv S K w0 Kn φ (au H) w)
  (hc:∀v,ρ (.const v)=v) (hz:(z=x/\x8 kind y=true)\/(z=y/\x8 kind x=true)) {tv:Option TV} (hx:∀y,tv=some y->fz S w Kn φ y (ρ z))
  (h:ci call (.rT kind (op==.neq)) [tv] H nxt=some (v,u,av,n')):cX P o ρ S K w0 w Kn φ (au H) nxt n' v u:=by
 match tv,h,hx with
 |some (.c c),h,hx=>
  change (match qW kind c with|some b=>some (lv _,([]:eW),([]:List Nat),nxt)|none=>none)=_ at h;split at h
  .rename_i b hb;obtain⟨rfl,rfl,rfl,rfl⟩:lv _=v/\[]=u/\[]=av/\nxt=n':=by simpa using h
   refine cX.pure hI ?_ (.rq rfl);obtain⟨h1,h2⟩:=Kc hop x y hu (hx _ rfl) hb;rcases hz with⟨rfl,hn⟩|⟨rfl,hn⟩
   .have e:=yH hn;simp only[execOp,ho,Sem.run_bind];simp_all
   .have e:=yH hn;simp only[execOp,ho,Sem.run_bind];simp_all
  .simp at h
end
section
variable{P:Program}{S K:Nat->Prop}{w0 w:World}{Kn:Nat->Prop}{φ:Nat->gj}{H:bp}{e:jk}{ρ:Operand->Value}{o:Oper}{call:Call}
 {nxt n':Nat} {v:TV} {u:eW} {av:List Nat}
theorem yP{α:Type}:∀{l:List (Option α)}{xs:List α},dD l=some xs->l=xs.map some:=by
 intro l;induction l with
 |nil=>
  intro xs h;obtain rfl:[]=xs:=by simpa[dD]using h
  rfl
 |cons a l ih=>
  intro xs h;cases a with
  |none=>simp[dD]at h
  |some x=>
   simp[dD]at h
   grind
theorem ux{args:List Operand}{xs:List TV}(hρ:∀x tv,kz e x=some tv->fz S w Kn φ tv (ρ x))(h:dD (args.map (kz e))=some xs):
  xs.length=args.length/\∀(i:Nat)(x:Operand)(tv:TV),args[i]?=some x->xs[i]?=some tv->fz S w Kn φ tv (ρ x):=by
 have h1:=yP h;have hl:=by have:=congrArg iN h1;simpa using this.symm
 refine⟨hl,fun i x tv hx htv=>hρ x tv ?_⟩;have h2:=congrArg (fun l=>l[i]?) h1
 grind
theorem PX{f:FuncId}{first captured:Array Operand}(ho:o.op=.makeFunc (.func f) first captured)(hf:first.isEmpty=true)(hI:Inv S K w0 Kn φ (au H) w)
  (hρ:∀x tv,kz e x=some tv->fz S w Kn φ tv (ρ x)) (h:ci call (.KQ f) (captured.toList.map (kz e)) H nxt=some (v,u,av,n')):cX P o ρ S K w0 w Kn φ (au H) nxt n' v u:=by
 change (match dD (captured.toList.map (kz e))with
  |some xs=>(match dD _ with|some cs=>some (TV.c (.pJ f cs),([]:eW),([]:List Nat),nxt)|none=>none)
  |none=>none)=_ at h
 split at h
 .rename_i xs hxs;split at h
  .rename_i cs hcs;obtain⟨rfl,rfl,rfl,rfl⟩:TV.c _=v/\[]=u/\[]=av/\nxt=n':=by simpa using h
   obtain⟨hl,hr⟩:=ux hρ hxs;have h2:=yP hcs;have hl2:=by have:=congrArg iN h2;simpa using this.symm
   have hf':=by simpa using hf
   refine cX.pure (val:=.func _ #[] (captured.map ρ)) hI (by simp[execOp,ho,Instr.makeFunc,hf']) (.c (.pJ (by simp[hl2,hl]) fun j c hj=>?_));have hj':j<xs.length:=by grind
   have h3:=congrArg (fun l=>l[j]?) h2;simp only[aN,hj,ao hj']at h3;have h4:=aa h3;have hcap:=by rw[hl]at hj';simpa using hj'
   have hx:=hr j captured[j] xs[j] (by simp) (ao hj');have e1:(captured.map ρ).getD j undef=ρ captured[j]:=by simp[hcap]
   rw[e1];cases hy:xs[j]with
   |c y=>
    rw[hy]at h4 hx;obtain rfl:y=c:=by simpa using h4
    cases hx with|c hx=>exact hx
   |_=>rw[hy]at h4;simp at h4
  .simp at h
 .simp at h
theorem vA{n:Int}(h0:0<=n)(h1:n<=2147483648):IntKind.i64.wrap n=n:=by unfold IntKind.wrap IntKind.bits IntKind.signed;simp;split<;>omega
theorem xL{v:Value}{k:IntKind}{n:Int}(h:v=.int k n):(asInt v).run P w=.ok n w:=by subst h;simp[asInt,asIntOf]
theorem nc{v:Value}{k:IntKind}{n:Int}(h:v=.int k n):(asIntOf v).run P w=.ok (k,n) w:=by subst h;simp[asIntOf]
theorem iO{tv:Option TV}{val:Value}{n:Int}(h:ce tv=some n)(hr:∀y,tv=some y->fz S w Kn φ y val):∃k,val=.int k n:=by
 unfold ce at h;split at h
 .obtain rfl:=aa h;obtain⟨hv,_⟩:=(hr _ rfl).lit;exact⟨_,hv⟩
 .simp at h
theorem jQ{v:Value}{k:IntKind}{n:Int}{y:Nat}{code:BoundsCode}(h:v=.int k n)(h0:0<=n)(h1:n<=y):(Instr.sliceBound v y code).run P w=.ok n.toNat w:=by simp[Instr.sliceBound,Sem.run_bind,nc h,Result.andThen_ok,h0,h1,and_self,if_true,Sem.run_pure]
theorem sE{FI:Bool}{len cap:Nat}{lo hi:Option Value}{l h:Option Int}(hlo':lo.isSome=l.isSome)(hl1:∀x,lo=some x->∃k n,x=.int k n/\l=some n)
  (hhi':hi.isSome=h.isSome) (hhi:∀x,hi=some x->∃k n,x=.int k n/\h=some n)
  (h0:0<=l.getD 0) (h1:l.getD 0<=h.getD len) (h2:h.getD len<=cap):
  (Instr.sliceBounds FI len cap lo hi none).run P w=.ok ((l.getD 0).toNat,(h.getD len).toNat,cap) w:=by
 unfold Instr.sliceBounds;cases hi with
 |none=>
  cases h with
  |some _=>simp at hhi'
  |none=>cases lo with|none=>simp_all|some x=>obtain⟨k,n,rfl,rfl⟩:=hl1 x rfl;have:=jQ (P:=P) (w:=w) (v:=.int k n) (code:=.sliceB) rfl h0 h1;simp[this]
 |some y=>obtain⟨k,n,rfl,rfl⟩:=hhi y rfl;simp at h1 h2;have hb:=jQ (P:=P) (w:=w) (v:=.int k n) (code:=if FI then .sliceAcap else .sliceAlen) rfl (by omega) h2;cases lo with|none=>simp_all|some x=>obtain⟨k',n',rfl,rfl⟩:=hl1 x rfl;simp at h0 h1;have:=jQ (P:=P) (w:=w) (v:=.int k' n') (y:=n.toNat) (code:=.sliceB) rfl h0 (by omega);simp[hb,this]
theorem EA{str:Bool}{sz:Nat}{t:TypeId}{x y:C}{val:Value}{lo hi:Option Value}{l h:Option Int}
  (hu:if str then P.underlying t=some .string else∃el,P.underlying t=some (.slice el)/\fw P el=some sz) (hr:RC S w Kn φ x val)
  (hlo':lo.isSome=l.isSome) (hl1:∀x,lo=some x->∃k n,x=.int k n/\l=some n) (hhi':hi.isSome=h.isSome) (hhi:∀x,hi=some x->∃k n,x=.int k n/\h=some n)
  (hs:fI str sz x l h=some y):∃val',(Instr.sliceAt t val lo hi none).run P w=.ok val' w/\RC S w Kn φ y val':=by
 unfold fI at hs;cases str with
 |true=>
  simp only[if_true]at hs hu;split at hs
  .rename_i s;split at hs
   .rename_i hb;obtain⟨hb1,hb2,hb3⟩:=hb;obtain rfl:=aa hs;cases hr with
    |d hd=>cases hd with|lit hp=>have:=sE (P:=P) (w:=w) (FI:=false) (len:=s.size) (cap:=s.size) hlo' hl1 hhi' hhi hb1 hb2 hb3;exact⟨.string (s.extract (l.getD 0).toNat (h.getD s.size).toNat),by simp[Instr.sliceAt,Instr.slice,bz hu,this],.d (.lit rfl)⟩
   .simp at hs
  .simp at hs
 |false=>
  simp only[bD,if_false]at hs hu;obtain⟨el,hu,hsz⟩:=hu
  have run:∀(a:Addr)(len cap:Nat),val=.slice (some a) len cap->0<=l.getD 0->l.getD 0<=h.getD len->h.getD len<=cap->(cap≠(l.getD 0).toNat->a.spot=none)->
    (Instr.sliceAt t val lo hi none).run P w=.ok (.slice (some (if cap=(l.getD 0).toNat then a else⟨a.block,a.off+(l.getD 0).toNat*sz,none⟩))
     ((h.getD len).toNat-(l.getD 0).toNat) (cap-(l.getD 0).toNat)) w:=by
   intro a len cap hv h0 h1 h2 hsp;have hb:=sE (P:=P) (w:=w) (FI:=true) (len:=len) (cap:=cap) hlo' hl1 hhi' hhi h0 h1 h2;simp only[Instr.sliceAt,Instr.slice,Sem.run_bind,bz hu,Result.andThen_ok,hv,hb,gG hsz,Sem.run_pure];congr 2;split
   .rfl
   .rename_i hne;obtain⟨b,off,spot⟩:=a;obtain rfl:spot=none:=hsp hne;simp[pk]
  split at hs
  .split at hs
   .rename_i hb;obtain⟨hb1,hb2,hb3⟩:=hb;obtain rfl:=aa hs;cases hr with
    |d hd=>cases hd with
     |lit hp=>
      have e1:l.getD 0=0:=by omega
      have e2:h.getD 0=0:=by omega
      have hb:=sE (P:=P) (w:=w) (FI:=true) (len:=0) (cap:=0) hlo' hl1 hhi' hhi hb1 (by simpa using hb2) (by simpa using hb3);refine⟨.slice none 0 0,?_,.d (.lit rfl)⟩;have e3:h.getD (((0:Nat):Int))=0:=e2;rw[e1,e3]at hb;simp only[Instr.sliceAt,Instr.slice,Sem.run_bind,bz hu,Result.andThen_ok,hb,gG hsz,Sem.run_pure];rfl
   .simp at hs
  .rename_i sz' id off len;split at hs
   .rename_i hb;obtain⟨hb0,hb1,hb2,hb3⟩:=hb;obtain rfl:=aa hs;cases hr with
    |@fx _ _ _ cap addr hk hcap haddr hext hcl=>
     subst hb0;refine⟨_,run _ len cap rfl hb1 hb2 (by omega) (fun _=>rfl),?_⟩;have hle:(l.getD 0).toNat<=cap:=by omega
     by_cases e:cap=(l.getD 0).toNat
     .rw [if_pos e];exact .fx hk (by omega) (fun h=>by omega) (by rw[<-e,lZ];omega) (by omega)
     .rw [if_neg e];have ha:=haddr (by omega);refine .fx hk (by omega) (fun _=>?_) ?_ (by omega)
      .grind
      .have:(l.getD 0).toNat*(φ id).sz+(cap-(l.getD 0).toNat)*(φ id).sz=cap*(φ id).sz:=by rw[<-bA];congr 1;omega
       grind
   .simp at hs
  .rename_i sz' rows;split at hs
   .rename_i hb;obtain⟨hb0,hb1,hb2,hb3⟩:=hb;obtain rfl:=aa hs;cases hr with
    |d hd=>
     cases hd with
     |@sl _ _ b off cap g hb hsz0 hcap hrow hcell hrd=>
      subst hb0;refine⟨_,run _ rows.length cap rfl hb1 hb2 (by omega) (fun _=>rfl),?_⟩;have hR:cI S w sz' (fun i=>w.cell? ⟨b,i,none⟩) off rows:=⟨hrow,fun i r hi j x hj=>⟨_,hcell i r hi j x hj,hrd i r hi j x hj⟩⟩
      have hlen:((rows.drop (l.getD 0).toNat).take ((h.getD rows.length).toNat-(l.getD 0).toNat)).length=(h.getD rows.length).toNat-(l.getD 0).toNat:=by simp;omega
      by_cases e:cap=(l.getD 0).toNat
      .rw [if_pos e];exact .d (.BW hb hsz0 hlen (by omega) (hR.yR _ _ fun h=>by omega))
      .rw [if_neg e];exact .d (.BW hb hsz0 hlen (by omega) (hR.yR _ _ fun _=>rfl))
     |@uJ _ a hsz0=>
      subst hb0;simp only[mQ]at hb1 hb2 hb3;have e1:l.getD 0=0:=by omega
      refine⟨_,run _ 0 0 rfl hb1 hb2 (by simpa using hb3) (fun hne=>absurd (by rw[e1];rfl) hne),?_⟩;rw[if_pos (by rw[e1];rfl)];have e2:(([]:List (List D)).drop (l.getD 0).toNat).take ((h.getD ([]:List (List D)).length).toNat-(l.getD 0).toNat)=[]:=by simp
      rw[e2];have e3:(h.getD ((0:Nat):Int)).toNat-(l.getD 0).toNat=0:=by omega
      have e4:(0:Nat)-(l.getD 0).toNat=0:=by omega
      first
       |(rw[e3,e4];exact .d (.uJ hsz0))
       |(simp[e1]at hb3|-;exact .d (.uJ hsz0))
   .simp at hs
  .simp at hs
theorem zY{str:Bool}{sz:Nat}{t:TypeId}{x y:C}{val:Value}{lo:Option Value}{hi:Value}{k2:IntKind}{l:Option Int}{h:Int}{av:List Nat}(hI:Inv S K w0 Kn φ (au H) w)
  (hu:if str then P.underlying t=some .string else∃el,P.underlying t=some (.slice el)/\fw P el=some sz) (hr:RC S w Kn φ x val)
  (hlo':lo.isSome=l.isSome) (hl1:∀x,lo=some x->∃k n,x=.int k n/\l=some n) (hhi:hi=.int k2 h) (hs:oF str sz x (l.getD 0) h H=some (y,av)):∃val',(Instr.sliceAt t val lo (some hi) none).run P w=.ok val' w/\RC S w Kn φ y val':=by
 unfold oF at hs;split at hs
 case h_2=>simp at hs
 rename_i sz' id off len;obtain⟨el,hu,hsz⟩:=hu
 have key:sz'=sz/\0<=l.getD 0/\l.getD 0<=h/\off+h.toNat<=(φ id).cap/\y=.fx sz id (off+(l.getD 0).toNat) (h.toNat-(l.getD 0).toNat):=by
  split at hs
  .rename_i szo rows hob;split at hs
   case isFalse=>simp at hs
   rename_i hb;obtain⟨_,h0⟩:=hI.iI _ _ hob;have hvis:rows.length<=(φ id).cap:=by cases h0 with|aG hsz0 hl hS hK hown hext hfit hrr hvis=>exact hvis
   grind
  .rename_i szo rows cp hob;split at hs
   case isFalse=>simp at hs
   rename_i hb;obtain⟨_,h0⟩:=hI.iI _ _ hob;have hvis:(φ id).cap=cp:=by cases h0 with|cap hsz0 hl hS hK hown hext hfit hrr hvis hc=>exact hc
   simp_all
  .simp at hs
 obtain⟨hb0,hb1,hb2,hvis,rfl⟩:=key;cases hr with
 |@fx _ _ _ cap addr hk hcap haddr hext hcl=>
  subst hb0;have hc:h<=cap:=by omega
  have hbd:=sE (P:=P) (w:=w) (FI:=true) (len:=len) (cap:=cap) (lo:=lo) (hi:=some hi) (l:=l) (h:=some h) hlo' hl1 rfl (fun x hx=>⟨k2,h,by rw[<-aa hx,hhi],rfl⟩) hb1 hb2 hc;generalize l.getD 0=l at*;refine⟨.slice (some (if cap=l.toNat then⟨(φ id).cQ,addr,none⟩else⟨(φ id).cQ,addr+l.toNat*(φ id).sz,none⟩)) (h.toNat-l.toNat) (cap-l.toNat),?_,?_⟩
  .simp only[Instr.sliceAt,Instr.slice,Sem.run_bind,bz hu,Result.andThen_ok,hbd,gG hsz,Sem.run_pure];congr 2;split
   .rfl
   .simp [pk]
  .by_cases e:cap=l.toNat
   .rw [if_pos e];exact .fx hk (by omega) (fun h=>by omega) (by rw[<-e,lZ];omega) (by omega)
   .rw [if_neg e];have ha:=haddr (by omega);refine .fx hk (by omega) (fun _=>?_) ?_ (by omega)
    .rw [ha,bA];omega
    .have:l.toNat*(φ id).sz+(cap-l.toNat)*(φ id).sz=cap*(φ id).sz:=by rw[<-bA];congr 1;omega
     omega
theorem Ky{sz:Nat}{t:TypeId}{el:TypeId}{x a b c:Operand}(ho:o.op=.slice t x (some a) (some b) (some c))
  (hu:P.underlying t=some (.slice el)) (hsz:fw P el=some sz) (hI:Inv S K w0 Kn φ (au H) w) (hn0:nxt<n'->¬Kn nxt)
  (hρ:∀x tv,kz e x=some tv->fz S w Kn φ tv (ρ x))
  (h:ci call (.CW sz) ([x,a,b,c].map (kz e)) H nxt=some (v,u,av,n')):cX P o ρ S K w0 w Kn φ (au H) nxt n' v u:=by
 simp only[aK,aZ]at h;cases hx:kz e x with
 |none=>rw[hx]at h;simp[ci]at h
 |some tv=>
  rw[hx]at h;cases tv with
  |agg cs=>simp[ci]at h
  |gX xs=>simp[ci]at h
  |c xc=>
   have hr:=hρ x _ hx;cases hr with
   |c hr=>
   change (match ce (kz e a),ce (kz e b),ce (kz e c)with
    |some l,some u,some m=>(match N6 sz xc l u m nxt with|some y=>some (TV.c y,([]:eW),([]:List Nat),nxt+1)|none=>none)
    |_,_,_=>none)=_ at h
   split at h
   .rename_i l hh m hl hhh hm;obtain⟨k1,e1⟩:=iO hl (hρ a);obtain⟨k2,e2⟩:=iO hhh (hρ b);obtain⟨k3,e3⟩:=iO hm (hρ c);split at h
    .rename_i y hy;obtain⟨rfl,rfl,rfl,rfl⟩:TV.c y=v/\[]=u/\[]=av/\nxt+1=n':=by simpa using h
     unfold N6 at hy;split at hy
     .rename_i sz' id off len;split at hy
      .rename_i hb;obtain⟨hb0,hb1,hb2,hb3,hb4⟩:=hb;have hn:=hn0 (aQ _);generalize hv0:ρ x=val at hr;cases hr with
       |@fx _ _ _ cap addr hk hcap haddr hext hcl=>
        subst hb0;have s1:=jQ (P:=P) (w:=w) (v:=.int k3 m) (y:=cap) (code:=.slice3Acap) rfl (by omega) (by omega);have s2:=jQ (P:=P) (w:=w) (v:=.int k2 hh) (y:=m.toNat) (code:=.slice3B) rfl (by omega) (by omega);have s3:=jQ (P:=P) (w:=w) (v:=.int k1 l) (y:=hh.toNat) (code:=.slice3C) rfl (by omega) (by omega);have hbd:(Instr.sliceBounds true len cap (some (.int k1 l)) (some (.int k2 hh)) (some (.int k3 m))).run P w=.ok (l.toNat,hh.toNat,m.toNat) w:=by simp_all[Instr.sliceBounds]
        let loc:gj:=⟨(φ id).cQ,if m.toNat=l.toNat then addr else addr+l.toNat*(φ id).sz,(φ id).sz,(φ id).ext,m.toNat-l.toNat⟩
        have hlt:l.toNat*(φ id).sz+(m.toNat-l.toNat)*(φ id).sz<=cap*(φ id).sz:=by rw[<-bA];exact az _ (by omega)
        refine⟨.value (.slice (some (if m.toNat=l.toNat then⟨(φ id).cQ,addr,none⟩else⟨(φ id).cQ,addr+l.toNat*(φ id).sz,none⟩)) (hh.toNat-l.toNat) (m.toNat-l.toNat)),_,w,?_,.inl rfl,bn _,S,ext φ nxt loc,gy.refl _ _,⟨fun _ h=>.inl h,(iZ _ hn).dH⟩,.c ?_,?_⟩
        .simp only[execOp,ho,Option.map_some,hv0,e1,e2,e3,Instr.sliceAt,Instr.slice,Sem.run_bind,bz hu,Result.andThen_ok,hbd,gG hsz,Sem.run_pure]
         grind [pk]
        .have e:ext φ nxt loc nxt=loc:=by simp[ext]
         have:=RC.fx (S:=S) (w:=w) (Kn:=po Kn nxt (nxt+1)) (φ:=ext φ nxt loc) (id:=nxt) (off:=0) (len:=hh.toNat-l.toNat) (cap:=m.toNat-l.toNat) (addr:=loc.aL)
          (.inr (by omega)) (by omega) (by rw[e];simp) (by
           rw[e];show(if m.toNat=l.toNat then addr else addr+l.toNat*(φ id).sz)+(m.toNat-l.toNat)*(φ id).sz<=(φ id).ext;split
           .rename_i q;rw[q,lZ];omega
           .omega) (by rw[e];exact bS _)
         grind
        .have hren:=iZ (Kn:=Kn) (φ:=φ) loc hn;have:=hI.ld (gy.refl _ _) hren hI.uH hI.sk hI.oe (hf':=au H) (fun i o ho=>.inl ⟨ho,fun hown=>⟨rfl,((hI.iI i o ho).2.bk hown).1⟩⟩) (fun i j a b hi hj oa ob hne=>by rw[hren.dH _ (hI.iI i a hi).1,hren.dH _ (hI.iI j b hj).1];exact hI.ph i j a b hi hj oa ob hne) (hI.EI hren fun _ _=>rfl);exact this.wV fun j=>o3 j
      .simp at hy
     .simp at hy
    .simp at h
   .simp at h
theorem E4{str:Bool}{sz:Nat}{t:TypeId}{x:Operand}{lo hi:Option Operand}(ho:o.op=.slice t x lo hi none)
  (hu:if str then P.underlying t=some .string else∃el,P.underlying t=some (.slice el)/\fw P el=some sz) (hI:Inv S K w0 Kn φ (au H) w)
  (hρ:∀x tv,kz e x=some tv->fz S w Kn φ tv (ρ x))
  (h:ci call (.slice str sz lo.isSome hi.isSome) ((x::lo.toList++hi.toList).map (kz e)) H nxt=some (v,u,av,n')):cX P o ρ S K w0 w Kn φ (au H) nxt n' v u:=by
 simp only[List.cons_append,aK,List.map_append]at h;cases hx:kz e x with
 |none=>rw[hx]at h;cases lo<;>cases hi<;>simp[ci]at h
 |some tv=>
  rw[hx]at h;cases tv with
  |agg cs=>cases lo<;>cases hi<;>simp[ci]at h
  |gX xs=>cases lo<;>cases hi<;>simp[ci]at h
  |c c=>
   have hr:=hρ x _ hx;cases hr with
   |c hr=>
   have qU:∀l h',lo.isSome=l.isSome->(∀y,lo=some y->ce (kz e y)=l)->hi.isSome=h'.isSome->(∀y,hi=some y->ce (kz e y)=h')->
     (match fI str sz c l h' with|some y=>some (TV.c y,([]:eW),([]:List Nat),nxt)|none=>none)=some (v,u,av,n')->cX P o ρ S K w0 w Kn φ (au H) nxt n' v u:=by
    intro l h' e1 e2 e3 e4 hm;split at hm
    .rename_i y hy;obtain⟨rfl,rfl,rfl,rfl⟩:TV.c y=v/\[]=u/\[]=av/\nxt=n':=by simpa using hm
     have conv:∀(q:Option Operand)(l:Option Int),q.isSome=l.isSome->(∀y,q=some y->ce (kz e y)=l)->∀x,q.map ρ=some x->∃k n,x=.int k n/\l=some n:=by
      intro q l e1 e2 x hq;cases q with
      |none=>simp at hq
      |some y=>
       obtain rfl:ρ y=x:=by simpa using hq
       cases l with|none=>simp at e1|some n=>obtain⟨k,hk⟩:=iO (e2 y rfl) (hρ y);exact⟨k,n,hk,rfl⟩
     obtain⟨val',h1,h2⟩:=EA (P:=P) (lo:=lo.map ρ) (hi:=hi.map ρ) hu hr (by simpa using e1) (conv lo l e1 e2) (by simpa using e3) (conv hi h' e3 e4) hy;exact cX.pure hI (by simp[execOp,ho,h1]) (.c h2)
    .simp at hm
   cases lo with
   |none=>
    cases hi with
    |none=>exact qU none none rfl (fun y hy=>by simp at hy) rfl (fun y hy=>by simp at hy) h
    |some z=>
     change (match ce (kz e z)with|some u=>(match fI str sz c none (some u)with|some y=>some (TV.c y,([]:eW),([]:List Nat),nxt)|none=>(match oF str sz c 0 u H with|some (y,av)=>some (TV.c y,([]:eW),av,nxt)|none=>none))|none=>none)=_ at h;split at h
     .rename_i n hn;split at h
      .rename_i y hy;exact qU none (some n) rfl (fun y hy=>by simp at hy) rfl (fun y hy=>aa hy▸hn) (by rw[hy];exact h)
      .split at h
       .rename_i y ids1 hy;obtain⟨rfl,rfl,_,rfl⟩:TV.c y=v/\[]=u/\ids1=av/\nxt=n':=by simpa using h
        obtain⟨k2,e2⟩:=iO hn (hρ z);obtain⟨val',h1,h2⟩:=zY (P:=P) (t:=t) (lo:=none) (l:=none) hI hu hr rfl (fun x hx=>by simp at hx) e2 hy;exact cX.pure hI (by simp[execOp,ho,h1]) (.c h2)
       .simp at h
     .simp at h
   |some q=>
    cases hi with
    |none=>
     change (match ce (kz e q)with|some l=>(match fI str sz c (some l) none with|some y=>some (TV.c y,([]:eW),([]:List Nat),nxt)|none=>none)|none=>none)=_ at h;split at h
     .rename_i n hn;exact qU (some n) none rfl (fun y hy=>aa hy▸hn) rfl (fun y hy=>by simp at hy) h
     .simp at h
    |some z=>
     change (match ce (kz e q),ce (kz e z)with
      |some l,some u=>(match fI str sz c (some l) (some u)with
       |some y=>some (TV.c y,([]:eW),([]:List Nat),nxt)
       |none=>(match oF str sz c l u H with|some (y,av)=>some (TV.c y,([]:eW),av,nxt)|none=>none))
      |_,_=>none)=_ at h
     split at h
     .rename_i m n hm hn;split at h
      .grind
      .split at h
       .rename_i y ids1 hy;obtain⟨rfl,rfl,_,rfl⟩:TV.c y=v/\[]=u/\ids1=av/\nxt=n':=by simpa using h
        obtain⟨k1,e1⟩:=iO hm (hρ q);obtain⟨k2,e2⟩:=iO hn (hρ z);obtain⟨val',h1,h2⟩:=zY (P:=P) (t:=t) (lo:=some (ρ q)) (l:=some m) hI hu hr rfl (fun x hx=>⟨k1,m,by rw[<-aa hx,e1],rfl⟩) e2 hy;exact cX.pure hI (by simp[execOp,ho,h1]) (.c h2)
       .simp at h
     .simp at h
theorem wK{t:TypeId}{x i:Operand}{aG:Option Nat}{sz:Nat}(ho:o.op=.indexAddr t x i)
  (hu:match aG with|none=>∃el,P.underlying t=some (.slice el)/\fw P el=some sz|some len=>∃el,P.underlying t=some (.array len el)/\fw P el=some sz)
  (hI:Inv S K w0 Kn φ (au H) w) {tx ti:Option TV} (hx:∀y,tx=some y->fz S w Kn φ y (ρ x)) (hi:∀y,ti=some y->fz S w Kn φ y (ρ i))
  (h:ci call (.indexAddr aG sz) [tx,ti] H nxt=some (v,u,av,n')):cX P o ρ S K w0 w Kn φ (au H) nxt n' v u:=by
 match tx,h,hx with
 |some (.c c),h,hx=>
  change (match ce ti with|some i=>(match iJ aG sz c i with|some y=>some (TV.c y,([]:eW),([]:List Nat),nxt)|none=>none)|none=>none)=_ at h;split at h
  .rename_i n hn;obtain⟨k,hk⟩:=iO hn hi;split at h
   .rename_i y hy;obtain⟨rfl,rfl,rfl,rfl⟩:TV.c y=v/\[]=u/\[]=av/\nxt=n':=by simpa using h
    have hr:=hx _ rfl;generalize hv0:ρ x=val at hr;cases hr with
    |c hr=>
    cases aG with
    |none=>
     obtain⟨el,hu,hsz⟩:=hu;simp only[iJ]at hy;have run:∀b off len cap,val=.slice (some ⟨b,off,none⟩) len cap->0<=n->n<len->(execOp ρ o).run P w=.ok (.value (.pointer (some ⟨b,off+n.toNat*sz,none⟩))) w:=by intro b off len cap hv h0 h1;simp[execOp,ho,hv0,hv,Instr.indexAt,nc hk,bz hu,h0,h1,gG hsz,pk]
     split at hy
     .rename_i sz' id off len;split at hy
      .rename_i hb;obtain⟨h0,h1,rfl⟩:=hb;obtain rfl:=aa hy;cases hr with
       |@fx _ _ _ cap addr hkn hcap haddr hext=>
        refine cX.pure hI (run _ _ _ _ rfl h0 h1) (.c ?_);have ha:=haddr (by omega);have e1:addr+n.toNat*(φ id).sz=(φ id).aL+(off+n.toNat)*(φ id).sz+0:=by rw[ha,bA];omega
        rw[e1];exact .ep hkn
      .simp at hy
     .rename_i sz' rows;split at hy
      .rename_i hb;obtain⟨h0,rfl⟩:=hb;split at hy
       .rename_i r hr';obtain rfl:=aa hy;cases hr with
        |d hd=>cases hd with|@sl _ _ b off cap g hb hsz0 hcap hrow hcell hrd=>have hlt:n.toNat<rows.length:=(aB.1 hr').1;refine cX.pure hI (run _ _ _ _ rfl h0 (by omega)) (.c (.d (.Ac hb fun j z hj=>⟨_,hcell _ _ hr' j z hj,hrd _ _ hr' j z hj⟩)))|uJ=>simp at hr'
       .simp at hy
      .simp at hy
     .simp at hy
    |some len=>
     obtain⟨el,hu,hsz⟩:=hu;simp only[iJ]at hy;split at hy
     .rename_i hb;obtain⟨h0,h1⟩:=hb;have run:∀b off,val=.pointer (some ⟨b,off,none⟩)->(execOp ρ o).run P w=.ok (.value (.pointer (some ⟨b,off+n.toNat*sz,none⟩))) w:=by intro b off hv;have hu':=bz hu;simp only[execOp,ho,hv0,hv,Instr.indexAt,Sem.run_bind,nc hk,Result.andThen_ok,hu',Instr.sureAddr,Sem.run_pure,h0,h1,and_self,if_true,gG hsz,pk]
      split at hy
      .rename_i id off;obtain rfl:=aa hy;cases hr with|op hkn=>refine cX.pure hI (run _ _ rfl) (.c ?_);rw[di];exact .op hkn
      .rename_i id bv off;obtain rfl:=aa hy;cases hr with|ep hkn=>refine cX.pure hI (run _ _ rfl) (.c ?_);rw[di];exact .ep hkn
      .rename_i cells;split at hy
       .obtain rfl:=aa hy;cases hr with
        |d hd=>
         cases hd with
         |@pt _ b off g hb hcell hrd=>
          refine cX.pure hI (run _ _ rfl) (.c (.d (.Ac hb fun j z hj=>?_)));rw[fq]at hj;split at hj
          .rw [bQ]at hj;exact⟨_,by rw[di];exact hcell _ _ hj,hrd _ _ hj⟩
          .simp at hj
       .simp at hy
      .simp at hy
     .simp at hy
   .simp at h
  .simp at h
theorem E7{t:TypeId}{x i:Operand}(ho:o.op=.index t x i)(hu:P.underlying t=some .string)(hI:Inv S K w0 Kn φ (au H) w)
  {tx ti:Option TV} (hx:∀y,tx=some y->fz S w Kn φ y (ρ x)) (hi:∀y,ti=some y->fz S w Kn φ y (ρ i))
  (h:ci call .ql [tx,ti] H nxt=some (v,u,av,n')):cX P o ρ S K w0 w Kn φ (au H) nxt n' v u:=by
 match tx,h,hx with
 |some (.c (.d (.lit (.string s)))),h,hx=>
  change (match ce ti with|some i=>(match(if 0<=i then s[i.toNat]?else none)with|some b=>some (lv _,([]:eW),([]:List Nat),nxt)|none=>none)|none=>none)=_ at h;split at h
  .rename_i n hn;obtain⟨k,hk⟩:=iO hn hi;split at h
   .rename_i b hb;obtain⟨rfl,rfl,rfl,rfl⟩:lv _=v/\[]=u/\[]=av/\nxt=n':=by simpa using h
    obtain⟨hv,_⟩:=(hx _ rfl).lit;exact cX.pure hI (by simp[execOp,ho,hv,Instr.index,nc hk,bz hu,hb]) (.rq rfl)
   .simp at h
  .simp at h
theorem Ez{t:TypeId}{agg:Bool}{n off:Nat}(ha:fJ P t=some agg)(hn:fw P t=some n){cs:List C}{aG:Array Value}{v:TV}(hlen:cs.length=aG.size)
  (hc:∀(i:Nat)(x:C),cs[i]?=some x->RC S w Kn φ x (aG.getD i undef)) (h:FD agg n (cs.drop off)=some v):∃val,(part t aG off).run P w=.ok val w/\fz S w Kn φ v val:=by
 unfold FD at h;cases agg with
 |true=>
  simp only[if_true]at h;split at h
  .rename_i hle;obtain rfl:=aa h;simp only[List.length_drop]at hle;refine⟨.agg (aG.extract off (off+n)),by simp[part,uL ha,gG hn],.agg ?_ fun i x hi=>?_⟩
   .simp;omega
   .rw [fq]at hi;split at hi
    .rw [bQ]at hi
     have e1:(aG.extract off (off+n)).getD i undef=aG.getD (off+i) undef:=by
      have h1:(aG.extract off (off+n))[i]?=aG[off+i]?:=by rw[Array.getElem?_extract,if_pos (by omega)]
      simp_all
     rw[e1];exact hc _ _ hi
    .simp at hi
  .simp at h
 |false=>
  simp only[bD,if_false]at h;split at h
  .rename_i x r hd;obtain rfl:=aa h;have hx:cs[off]?=some x:=by have:=congrArg (fun l=>l[0]?) hd;simpa using this
   have hlt:off<aG.size:=by grind
   refine⟨aG.getD off undef,?_,.c (hc _ _ hx)⟩;simp[part,uL ha,hlt]
  .simp at h
theorem MS{s:TypeId}{f n:Nat}{agg:Bool}{fields:Array Field}{fl:Field}{x:Operand}(ho:o.op=.field s x f)(hu:P.underlying s=some (.struct fields))(hf:fields[f]?=some fl)
  (ha:fJ P fl.type=some agg) (hs:fw P fl.type=some n) (hI:Inv S K w0 Kn φ (au H) w) {tv:Option TV} (hx:∀y,tv=some y->fz S w Kn φ y (ρ x))
  (h:ci call (.field agg fl.offset n) [tv] H nxt=some (v,u,av,n')):cX P o ρ S K w0 w Kn φ (au H) nxt n' v u:=by
 match tv,h,hx with
 |some (.agg cs),h,hx=>
  change (match FD agg n _ with|some v=>some (v,([]:eW),([]:List Nat),nxt)|none=>none)=_ at h;split at h
  .rename_i y hy;have hr:=hx _ rfl;generalize hv0:ρ x=val at hr;cases hr with|agg hlen hc=>obtain⟨val,h1,h2⟩:=Ez ha hs hlen hc hy;simp_all[cX.pure,execOp,Instr.field,bz,asAgg]
  .simp at h
theorem MR{t el:TypeId}{len n:Nat}{agg:Bool}{x i:Operand}(ho:o.op=.index t x i)(hu:P.underlying t=some (.array len el))
  (ha:fJ P el=some agg) (hs:fw P el=some n) (hI:Inv S K w0 Kn φ (au H) w) {tx ti:Option TV} (hx:∀y,tx=some y->fz S w Kn φ y (ρ x)) (hi:∀y,ti=some y->fz S w Kn φ y (ρ i))
  (h:ci call (.index agg len n) [tx,ti] H nxt=some (v,u,av,n')):cX P o ρ S K w0 w Kn φ (au H) nxt n' v u:=by
 match tx,h,hx with
 |some (.agg cs),h,hx=>
  change (match ce ti with|some i=>(if 0<=i/\i<len then(match FD agg n _ with|some v=>some (v,([]:eW),([]:List Nat),nxt)|none=>none)else none)|none=>none)=_ at h;split at h
  .rename_i m hm;obtain⟨k,hk⟩:=iO hm hi;split at h
   .rename_i hb;split at h
    .rename_i y hy;obtain⟨rfl,rfl,rfl,rfl⟩:y=v/\[]=u/\[]=av/\nxt=n':=by simpa using h
     have hr:=hx _ rfl;generalize hv0:ρ x=val at hr;cases hr with|agg hlen hc=>obtain⟨val,h1,h2⟩:=Ez ha hs hlen hc hy;exact cX.pure hI (by simp[execOp,ho,hv0,Instr.index,nc hk,bz hu,hb.1,hb.2,gG hs,h1]) h2
    .simp at h
   .simp at h
  .simp at h
end
section
variable{P:Program}{S K:Nat->Prop}{w0 w:World}{Kn:Nat->Prop}{φ:Nat->gj}{H:bp}{e:jk}{ρ:Operand->Value}{o:Oper}{call:Call}
 {nxt n':Nat} {v:TV} {u:eW} {av:List Nat}
def P5(m:Bool):Value->Value->Sem Value:=if m then Builtin.max2 else Builtin.min2
theorem Rk{m:Bool}{k:FloatKind}{a b:Nat}(hn:yI k a)(hm:yI k b)(y:Value):I_ m (.float k a) y=I_ m (.float k b) y:=by cases y with|float k' y=>unfold I_;obtain⟨_,_,_,_,a5⟩:=I7 hn y;obtain⟨_,_,_,_,b5⟩:=I7 hm y;simp[a5,b5]|_=>rfl
theorem Rj{m:Bool}{k:FloatKind}{a b:Nat}(hn:yI k a)(hm:yI k b)(y:Value):I_ m y (.float k a)=I_ m y (.float k b):=by cases y with|float k' y=>simp_all[I_,M9]|_=>rfl
theorem KO{m:Bool}{a b va vb v:Value}(ha:rt a va)(hb:rt b vb)(h:I_ m a b=some v):I_ m va vb=some v:=by
 cases ha with
 |ex=>cases hb<;>(cases h)
 |lit _=>cases hb with|lit _=>exact h|nan hn hm=>rw[<-Rj hn hm];exact h|ex=>cases a<;>cases h
 |nan hn hm=>cases hb with|lit _=>rw[<-Rk hn hm];exact h|nan hn' hm'=>rw[<-Rk hn hm,<-Rj hn' hm'];exact h|ex=>cases h
theorem PC{m:Bool}{x y z:Value}(h:I_ m x y=some z):∃z' n,(P5 m x y).run P w=.ok z' {w with drawn:=n}/\w.drawn<=n/\rt z z':=by
 have key:(P5 m x y).run P w=.ok z w/\ez z=true->∃z' n,(P5 m x y).run P w=.ok z' {w with drawn:=n}/\w.drawn<=n/\rt z z':=fun h=>⟨z,w.drawn,h.1,am _,.lit h.2⟩;unfold I_ at h;split at h
 .split at h
  .obtain rfl:=aa h;refine key ?_;cases m<;>simp[P5,Builtin.max2,Builtin.min2,ez]
  .simp at h
 .rename_i k a k' b;split at h
  .split at h
   .rename_i ho;obtain rfl:=aa h;refine⟨.float k ((Question.nanMinMax k m a b).cut (w.tape w.drawn (.nanMinMax k m a b))),w.drawn+1,?_,bn _,.nan (FJ k) ?_⟩
    .cases m<;>simp[P5,Builtin.max2,Builtin.min2,ho,run_choose,Question.forced]
    .have:∀t,(Question.nanMinMax k m a b).cut t=(Question.nanBits k a b).cut t:=by intro t;cases k<;>rfl
     rw[this];exact Jk _ _ _ _
   .rename_i ho;obtain rfl:=aa h;refine key ?_;cases m<;>simp[P5,Builtin.max2,Builtin.min2,ez,ho]
   .rename_i ho;obtain rfl:=aa h;refine key ?_;cases m<;>simp[P5,Builtin.max2,Builtin.min2,ez,ho]
   .rename_i ho;obtain rfl:=aa h;refine key ?_;cases m<;>simp[P5,Builtin.max2,Builtin.min2,ez,ho]
  .simp at h
 .simp at h
theorem PB{m:Bool}(hρ:∀x y,kz e x=some (.c (.d (.lit y)))->rt y (ρ x)):∀(r:List Operand)(x z vx:Value)(w:World),rt x vx->Nd m x (r.map (kz e))=some z->
  ∃z' n,((r.map ρ).foldlM (P5 m) vx).run P w=.ok z' {w with drawn:=n}/\w.drawn<=n/\rt z z':=by
 intro r;induction r with
 |nil=>
  intro x z vx w hx h;obtain rfl:x=z:=by simpa[Nd]using h
  exact⟨vx,w.drawn,rfl,am _,hx⟩
 |cons a r ih=>
  intro x z vx w hx h;simp at h|-
  match ha:kz e a,h with
  |some (.c (.d (.lit y))),h=>
   simp[Nd]at h;split at h
   .rename_i z' hz;have hz:=KO hx (hρ a _ ha) hz;obtain⟨z1,n1,h1,l1,e1⟩:=PC (P:=P) hz;obtain⟨z2,n2,h3,l2,e2⟩:=ih z' z z1 {w with drawn:=n1} e1 h;refine⟨z2,n2,?_,Nat.le_trans l1 l2,e2⟩;simp_all
   .simp at h
theorem Ca{m:Bool}{c:oc}(ho:o.op=.call c)(hcal:c.callee=.builtin (if m then .max else .min))(hI:Inv S K w0 Kn φ (au H) w)
  (hρ:∀x tv,kz e x=some tv->fz S w Kn φ tv (ρ x)) (h:ci call (.sO m) (c.args.toList.map (kz e)) H nxt=some (v,u,av,n')):cX P o ρ S K w0 w Kn φ (au H) nxt n' v u:=by
 generalize hargs:c.args.toList=args at h;cases args with
 |nil=>simp[ci]at h
 |cons a r=>
  simp only[aK]at h
  match ha:kz e a,h with
  |some (.c (.d (.lit x))),h=>
   change (match Nd m x (r.map (kz e))with|some v=>some (lv v,([]:eW),([]:List Nat),nxt)|none=>none)=_ at h;split at h
   .rename_i z hz;obtain⟨rfl,rfl,rfl,rfl⟩:lv z=v/\[]=u/\[]=av/\nxt=n':=by simpa using h
    obtain⟨z',n,h1,hle,h4⟩:=PB (P:=P) (fun x y hx=>(hρ x _ hx).KJ) r x z _ w (hρ a _ ha).KJ hz;have e1:List.map ρ c.args.toList=ρ a::r.map ρ:=by rw[hargs,aK]
    refine⟨.value z',z',_,?_,.inl rfl,am _,S,φ,gy.vh _ _ _,qM _ _,.Hy h4,(hI.vh n hle).kn fun _ hi=>.inl hi⟩;cases m
    .have h1':((r.map ρ).foldlM Builtin.min2 (ρ a)).run P w=.ok z' {w with drawn:=n}:=h1;simp_all[execOp,resolve,invoke,builtin,Builtin.min_]
    .have h1':((r.map ρ).foldlM Builtin.max2 (ρ a)).run P w=.ok z' {w with drawn:=n}:=h1;simp[execOp,ho,hcal,resolve,invoke,builtin,Builtin.max_,e1,h1']
   .simp at h
def CR(S:Nat->Prop)(w:World)(Kn:Nat->Prop)(φ:Nat->gj)(cs:List C)(vs:List Value):Prop:=cs.length=vs.length/\∀(i:Nat)(x:C)(y:Value),cs[i]?=some x->vs[i]?=some y->RC S w Kn φ x y
theorem CR.aT{cs ds:List C}{vs us:List Value}(h1:CR S w Kn φ cs vs)(h2:CR S w Kn φ ds us)(off:Nat)(hfit:off+ds.length<=cs.length):
  CR S w Kn φ (aT cs off ds) (aT vs off us):=by
 have hl1:=h1.1;have hl2:=h2.1;refine⟨by grind [eL],fun i x y hx hy=>?_⟩;rw[jG _ _ _ hfit]at hx;rw[jG _ _ _ (by omega)]at hy;by_cases c1:i<off
 .rw [if_pos c1]at hx hy;exact h1.2 i x y hx hy
 .rw [if_neg c1]at hx hy;by_cases c2:i<off+ds.length
  .rw [if_pos c2]at hx;rw[if_pos (by omega)]at hy;exact h2.2 _ x y hx hy
  .rw [if_neg c2]at hx;rw[if_neg (by omega)]at hy;exact h1.2 i x y hx hy
theorem fz.cr{tv:TV}{val:Value}{cs:List C}(h:fz S w Kn φ tv val)(hc:cellsOf tv=some cs):CR S w Kn φ cs val.cells.toList:=by
 obtain⟨h1,h2,_⟩:=h.cells hc;refine⟨by simpa using h1,fun i x y hx hy=>?_⟩;have:=h2 i x hx;have e1:val.cells.getD i undef=y:=by simp_all
 rwa[e1]at this
theorem AV{cs:List C}{aG:Array Value}(h:CR S w Kn φ cs aG.toList):cs.length=aG.size/\∀(i:Nat)(x:C),cs[i]?=some x->RC S w Kn φ x (aG.getD i undef):=by
 have hl:=by simpa using h.1
 refine⟨hl,fun i x hx=>?_⟩;have hlt:i<aG.size:=by grind
 refine h.2 i x _ hx ?_;simp[hlt]
theorem Nr:∀(l:List Value)(k:Nat)(aG:Array Value)(off:Nat),off+k+l.length<=aG.size->
  ((l.zipIdx k).foldl (fun(cs:Array Value)(p:Value×Nat)=>cs.setIfInBounds (off+p.2) p.1) aG).toList=aT aG.toList (off+k) l:=by
 intro l;induction l with
 |nil=>simp[aT]
 |cons a l ih=>
  intro k aG off hfit;simp only[List.length_cons]at hfit;simp only[List.zipIdx_cons,List.foldl_cons];rw[ih (k+1) _ off (by simp;omega)];apply List.ext_getElem?;intro i;rw[jG _ _ _ (by simp;omega),jG _ _ _ (by simp;omega)];by_cases c1:i<off+k
  .have c3:i<off+(k+1):=by omega
   have c4:¬off+k=i:=by omega
   simp[c1,c3,c4]
  .by_cases c2:i=off+k
   .have:=by omega
    have c5:off+k<aG.size:=by omega
    simp[this,c5]
   .have c3:¬i<off+(k+1):=by omega
    have c4:¬off+k=i:=by omega
    by_cases c5:i<off+k+(l.length+1)
    .have c6:i<off+(k+1)+l.length:=by omega
     have c7:i-(off+k)=(i-(off+(k+1)))+1:=by omega
     simp[c1,c3,c5,c6,c7]
    .have c6:¬i<off+(k+1)+l.length:=by omega
     simp[c1,c3,c4,c5,c6]
theorem QU(vs aG:Array Value)(off:Nat)(hfit:off+vs.size<=aG.size):
  (vs.zipIdx.foldl (fun(cs:Array Value)(p:Value×Nat)=>cs.setIfInBounds (off+p.2) p.1) aG).toList=aT aG.toList off vs.toList:=by
 rw[<-Array.foldl_toList];simp_all[Nr]
theorem vU(gZ:Nat->Option (Nat×Nat)):∀(parts:List (Nat×Operand))(pl:List (Nat×Nat))(xs:List TV)(cs cs':List C)(aG:Array Value),
  pl.length=parts.length->(∀(i:Nat)(p:Nat×Operand)(q:Nat×Nat),parts[i]?=some p->pl[i]?=some q->gZ p.1=some q)->
  xs.length=parts.length->(∀(i:Nat)(p:Nat×Operand)(x:TV),parts[i]?=some p->xs[i]?=some x->fz S w Kn φ x (ρ p.2))->
  CR S w Kn φ cs aG.toList->kU cs (pl.zip xs)=some cs'->
  ∃arr',Instr.fill gZ aG (parts.map fun p=>(p.1,ρ p.2))=some arr'/\CR S w Kn φ cs' arr'.toList:=by
 intro parts;induction parts with
 |nil=>
  intro pl xs cs cs' aG h1 _ h2 _ hcr h;have e1:pl=[]:=List.length_eq_zero_iff.1 h1;subst e1;obtain rfl:cs=cs':=by simpa[kU]using h
  exact⟨aG,rfl,hcr⟩
 |cons p parts ih=>
  intro pl xs cs cs' aG h1 hpl h2 hxs hcr h;cases pl with
  |nil=>simp at h1
  |cons q pl=>
   cases xs with
   |nil=>simp at h2
   |cons x xs=>
    obtain⟨off,n⟩:=q;simp only[List.zip_cons_cons,kU]at h;split at h
    .rename_i ds hds;split at h
     .have hp:=hpl 0 p (off,n) rfl rfl;have hx:=(hxs 0 p x rfl rfl).cr hds;have hsz:=by have:=hx.1;simp at this;omega
      have hal:=by simpa using hcr.1
      have hcr':=hcr.aT hx off (by omega);rw[<-QU (ρ p.2).cells aG off (by omega)]at hcr'
      obtain⟨arr',h3,h4⟩:=ih pl xs _ cs' _ (by simpa using h1) (fun i p q hp hq=>hpl (i+1) p q (by simpa using hp) (by simpa using hq)) (by simpa using h2)
       (fun i p x hp hx=>hxs (i+1) p x (by simpa using hp) (by simpa using hx)) hcr' h
      refine⟨arr',?_,h4⟩;simp only[aK,Instr.fill,hp]
      grind
     .simp at h
    .simp at h
theorem Dl{z:List Value}(hp:∀x∈z,ez x=true):CR S w Kn φ (eS z) z:=by refine⟨by simp[eS],fun i x y hx hy=>?_⟩;simp only[eS,aN,hy]at hx;obtain rfl:=aa hx;exact .d (.lit (hp y (aF hy)))
theorem Hi{fields:Array Field}:∀{is:List Nat}{pl:List (Nat×Nat)},dN P fields is=some pl->pl.length=is.length/\
  ∀(k i:Nat)(q:Nat×Nat),is[k]?=some i->pl[k]?=some q->∃f,fields[i]?=some f/\q.1=f.offset/\fw P f.type=some q.2:=by
 intro is;induction is with
 |nil=>
  intro pl h;obtain rfl:[]=pl:=by simpa[dN]using h
  simp_all
 |cons i is ih=>
  intro pl h;simp[dN]at h;split at h
  .rename_i f l hf hl;split at h
   .rename_i n hn;obtain rfl:=aa h;obtain⟨h1,h2⟩:=ih hl;refine⟨by simp[h1],fun k j q hk hq=>?_⟩;cases k with
    |zero=>
     obtain rfl:i=j:=by simpa using hk
     obtain rfl:(f.offset,n)=q:=by simpa using hq
     exact⟨f,hf,rfl,hn⟩
    |succ k=>exact h2 k j q (by simpa using hk) (by simpa using hq)
   .simp at h
  .simp at h
theorem G0(g:Field->Nat×Nat):∀(l:List Field),(∀f∈l,∃n,fw P f.type=some n/\g f=(f.offset,n))->
  (l.mapM fun f=>(do pure (f.offset,<-sizeOf f.type):Sem (Nat×Nat))).run P w=.ok (l.map g) w:=by
 intro l;induction l with|nil=>intro _;rfl|cons f l ih=>simp_all[gG]
theorem Fa{t:TypeId}{parts:Array (Nat×Operand)}{z:List Value}{pl:List (Nat×Nat)}(ho:o.op=.build t parts)(hz:jE P t=some z)
  (hu:(∃fields,P.underlying t=some (.struct fields)/\dN P fields (parts.toList.map (·.1))=some pl/\fields.toList.all (fun f=>(fw P f.type).isSome)=true)\/
   (∃len el n,P.underlying t=some (.array len el)/\fw P el=some n/\pl=parts.toList.map fun p=>(p.1*n,n)))
  (hI:Inv S K w0 Kn φ (au H) w) (hρ:∀x tv,kz e x=some tv->fz S w Kn φ tv (ρ x))
  (h:ci call (.build z pl) ((parts.toList.map (·.2)).map (kz e)) H nxt=some (v,u,av,n')):cX P o ρ S K w0 w Kn φ (au H) nxt n' v u:=by
 change (match dD ((parts.toList.map (·.2)).map (kz e))with
  |some xs=>(match kU (eS z) (pl.zip xs)with|some cs=>some (TV.agg cs,([]:eW),([]:List Nat),nxt)|none=>none)
  |none=>none)=_ at h
 split at h
 .rename_i xs hxs;split at h
  .rename_i cs hcs;obtain⟨rfl,rfl,rfl,rfl⟩:TV.agg cs=v/\[]=u/\[]=av/\nxt=n':=by simpa using h
   obtain⟨hl,hr⟩:=ux hρ hxs;obtain⟨zv,hzr,hzl,hzp⟩:=oU hz w
   have key:∀gZ:Nat->Option (Nat×Nat),pl.length=parts.toList.length->(∀(i:Nat)(p:Nat×Operand)(q:Nat×Nat),parts.toList[i]?=some p->pl[i]?=some q->gZ p.1=some q)->
     ∃arr',Instr.fill gZ zv.cells ((parts.map fun p=>(p.1,ρ p.2)).toList)=some arr'/\CR S w Kn φ cs arr'.toList:=by
    intro gZ h1 h2
    have:=vU (S:=S) (w:=w) (Kn:=Kn) (φ:=φ) (ρ:=ρ) gZ parts.toList pl xs (eS z) cs zv.cells h1 h2 (by simpa using hl) (fun i p x hp hx=>hr i p.2 x (by simp_all) hx)
     (by rw[hzl];exact Dl hzp) hcs
    simpa using this
   rcases hu with⟨fields,hu,hpl,hall⟩|⟨len,el,n,hu,hn,rfl⟩
   .obtain ⟨h1,h2⟩:=Hi hpl;let g:Field->Nat×Nat:=fun f=>(f.offset,(fw P f.type).getD 0)
    have hg:(fields.mapM fun f=>(do pure (f.offset,<-sizeOf f.type):Sem (Nat×Nat))).run P w=.ok (fields.map g) w:=by
     rw[Array.mapM_eq_mapM_toList]
     have:=G0 (P:=P) (w:=w) g fields.toList fun f hf=>by
      grind [bg,Option.isSome_iff_exists]
     simp only[Sem.run_map,this,Result.andThen_ok];congr 1;apply Array.ext';rw[Array.toList_map]
    obtain⟨arr',h3,h4⟩:=key (fun i=>(fields.map g)[i]?) (by simpa using h1) (fun i p q hp hq=>by
     obtain⟨f,hf,hq1,hq2⟩:=h2 i p.1 q (by grind) hq
     grind)
    obtain⟨h5,h6⟩:=AV h4;refine cX.pure (val:=.agg arr') hI ?_ (.agg h5 h6);simp only[execOp,ho,Sem.run_bind,Instr.build,hzr,Result.andThen_ok,bz hu,hg,h3,Sem.run_pure]
   .obtain ⟨arr',h3,h4⟩:=key (fun i=>some (i*n,n)) (by simp) (fun i p q hp hq=>by simp_all);obtain⟨h5,h6⟩:=AV h4;refine cX.pure (val:=.agg arr') hI ?_ (.agg h5 h6);simp only[execOp,ho,Sem.run_bind,Instr.build,hzr,Result.andThen_ok,bz hu,gG hn,h3,Sem.run_pure]
  .simp at h
 .simp at h
theorem kH.from{S1:Nat->Prop}{hf hf1:Nat->Option Ob}{u1 u2:eW}{val:Value}{w':World}(hs:gy S w S1 w)(he:hf1=bf u1 hf)(h:kH S1 K w0 w Kn φ hf1 nxt n' v u2 val w'):
  kH S K w0 w Kn φ hf nxt n' v (u2++u1) val w':=by
 obtain⟨h1,S',φ',h2,h3,h4,h5⟩:=h;exact⟨h1,S',φ',hs.trans h2,h3,h4,by rw[dp,<-he];exact h5⟩
theorem Ie{α:Type}(sz:Nat):∀(n:Nat)(l:List α),n*sz<=l.length->(nT sz n l).length=n/\∀i r,(nT sz n l)[i]?=some r->r=(l.drop (i*sz)).take sz/\r.length=sz:=by
 intro n;induction n with
 |zero=>intro l _;exact⟨rfl,fun i r hi=>by simp[nT]at hi⟩
 |succ n ih=>
  intro l hl;have e1:(n+1)*sz=n*sz+sz:=dJ n sz;obtain⟨h1,h2⟩:=ih (l.drop sz) (by simp;omega);refine⟨by simp[nT,h1],fun i r hi=>?_⟩;cases i with
  |zero=>
   obtain rfl:l.take sz=r:=by simpa[nT]using hi
   exact⟨by simp,by simp;omega⟩
  |succ i=>grind [nT,List.drop_drop,dJ]
theorem tJ{zc:Array Value}{z:List Value}{sz n:Nat}(hz:zc.toList=z)(hl:z.length=sz)(hpos:0<sz):
  ((lR n).map (fun i=>zc[i %zc.size]!)).toList=(bm n).map fun i=>z.getD (i %sz) undef:=by
 grind [Array.toList_map,Array.toList_range,List.map_congr_left,lP]
theorem Bv{t el:TypeId}{len n:Nat}{parts:Array (Nat×Operand)}{z:List Value}(ho:o.op=.buildSlice t len parts)(hu:P.underlying t=some (.slice el))
  (hs:fw P el=some (n+1)) (hz:jE P el=some z) (hlim:len*(n+1)<=4096/\z.length=n+1)
  (hI:Inv S K w0 Kn φ (au H) w) (hn0:nxt<n'->¬Kn nxt) (hρ:∀x tv,kz e x=some tv->fz S w Kn φ tv (ρ x))
  (h:ci call (.buildSlice (n+1) len ((bm (len*(n+1))).map fun i=>z.getD (i %(n+1)) undef) (parts.toList.map (·.1))) ((parts.toList.map (·.2)).map (kz e)) H nxt=some (v,u,av,n')):
  cX P o ρ S K w0 w Kn φ (au H) nxt n' v u:=by
 generalize hzs:((bm (len*(n+1))).map fun i=>z.getD (i %(n+1)) undef)=zs at h
 change (match dD ((parts.toList.map (·.2)).map (kz e))with
  |some xs=>
   (match kU (eS zs) _ with
   |some cs=>
    (match dn H cs with
    |some (ds,av)=>(match c8 H av av with|some u=>some (TV.c (.fx (n+1) nxt 0 len),(nxt,some (Ob.aG (n+1) (nT (n+1) len ds)))::u,av,nxt+1)|none=>none)
    |none=>none)
   |none=>none)
  |none=>none)=_ at h
 split at h
 .rename_i xs hxs;split at h
  .rename_i cs hcs;split at h
   .rename_i ds ids' hv;split at h
    .rename_i u' hfz;obtain⟨rfl,rfl,rfl,rfl⟩:TV.c (.fx (n+1) nxt 0 len)=v/\(nxt,some (Ob.aG (n+1) (nT (n+1) len ds)))::u'=u/\ids'=av/\nxt+1=n':=by simpa using h
     have hn:=hn0 (aQ _);obtain⟨hl,hr⟩:=ux hρ hxs;obtain⟨zv,hzr,hzl,hzp⟩:=oU hz w
     have hzp':∀x∈zs,ez x=true:=by
      intro x hx;rw[<-hzs]at hx;obtain⟨i,_,rfl⟩:=List.mem_map.1 hx;have hlt:i %(n+1)<z.length:=by rw[hlim.2];exact lP _ (cL _)
      grind
     have hzero:∃zc:Array Value,(len*(n+1)=0->zc= #[])/\(¬len*(n+1)=0->zc=zv.cells)/\
       ((lR (len*(n+1))).map (fun i=>zc[i %zc.size]!)).toList=zs:=by
      by_cases hc:len*(n+1)=0
      .simp_all
      .refine ⟨zv.cells,fun h=>absurd h hc,fun _=>rfl,?_⟩;rw[tJ hzl hlim.2 (cL _),hzs]
     obtain⟨zc,hzc,hzc1,hzc2⟩:=hzero
     obtain⟨arr',h3,h4⟩:=vU (S:=S) (w:=w) (Kn:=Kn) (φ:=φ) (ρ:=ρ) (fun i=>some (i*(n+1),n+1)) parts.toList _ xs (eS zs) cs ((lR (len*(n+1))).map (fun i=>zc[i %zc.size]!))
      (by simp) (fun i p q hp hq=>by simp_all) (by simpa using hl)
      (fun i p x hp hx=>hr i p.2 x (by simp_all) hx) (by rw[hzc2];exact Dl hzp') hcs
     obtain⟨h5,h6⟩:=AV h4
     have hcl:cs.length=len*(n+1):=by
      have:∀(l:List ((Nat×Nat)×TV))(a b:List C),kU a l=some b->b.length=a.length:=by
       intro l;induction l with
       |nil=>
        intro a b h;obtain rfl:a=b:=by simpa[kU]using h
        rfl
       |cons p l ih=>grind [kU,eL]
      rw[this _ _ _ hcs,<-hzs];simp[eS]
     obtain⟨h7,h8⟩:=pC hI cs ds ids' hv (fun i=>arr'[i]?) (fun i c hi=>by
      have hlt:i<arr'.size:=by grind
      exact⟨arr'.getD i undef,by simp[hlt],h6 i c hi⟩)
     obtain⟨h9,h10⟩:=Ie (n+1) len ds (by omega);have hI1:=hI.DB hfz
     have hrows:cI (SB S w φ (au H) ids') w (n+1) (fun i=>arr'[i]?) 0 (nT (n+1) len ds):=by
      refine⟨fun i r hi=>(h10 i r hi).2,fun i r hi j x hj=>?_⟩;rw[(h10 i r hi).1,fq]at hj;split at hj
      .rw [bQ]at hj;obtain⟨y,hy,hd⟩:=h8 _ x hj;exact⟨y,by rw[<-hy];simp,hd⟩
      .simp at hj
     have hD:=kH.aG (K:=K) (w0:=w0) hI1 hn (cap:=len) (aG:=arr') (sz:=n+1) el (cL n) (by omega) (by omega) hrows;rw[h9]at hD;refine⟨.value _,_,_,?_,.inl rfl,kH.from (u1:=u') (SB.tR _) rfl hD⟩;have h3':Instr.fill (fun i=>some (i*(n+1),n+1)) ((lR (len*(n+1))).map (fun i=>zc[i %zc.size]!)) (parts.map fun p=>(p.1,ρ p.2)).toList=some arr':=by rw[<-h3];simp
     have hlim':¬len*(n+1)>2^24:=by have:=hlim.1;omega
     simp only[execOp,ho,Sem.run_bind,Instr.buildSlice,bz hu,Result.andThen_ok,gG hs,if_neg hlim'];by_cases hc:len*(n+1)=0
     .rw [hzc hc]at h3';simp only[if_pos hc,Sem.run_bind,Sem.run_pure,Result.andThen_ok,h3',newRow,run_newObj]
     .rw [hzc1 hc]at h3';simp only[if_neg hc,Sem.run_bind,hzr,Sem.run_pure,Result.andThen_ok,h3',newRow,run_newObj]
    .simp at h
   .simp at h
  .simp at h
 .simp at h
end
section
variable{P:Program}{S K:Nat->Prop}{w0 w:World}{Kn:Nat->Prop}{φ:Nat->gj}{H:bp}{e:jk}{ρ:Operand->Value}{o:Oper}{call:Call}
 {nxt n':Nat} {v:TV} {u:eW} {av:List Nat}
theorem uw{el:TypeId}(h:pS P el=true):∃i,P.info? el=some i/\0<i.bytes/\i.bytes<=16384:=by
 unfold pS at h
 grind
theorem wJ{t el:TypeId}{n:Nat}{l c:Operand}{z:List Value}(ho:o.op=.makeSlice t l c)(hu:P.underlying t=some (.slice el))
  (hs:fw P el=some (n+1)) (hz:jE P el=some z) (hzl:z.length=n+1) (hb:pS P el=true)
  (hI:Inv S K w0 Kn φ (au H) w) (hn0:nxt<n'->¬Kn nxt) {tl tc:Option TV} (hl:∀y,tl=some y->fz S w Kn φ y (ρ l)) (hc:∀y,tc=some y->fz S w Kn φ y (ρ c))
  (h:ci call (.makeSlice z) [tl,tc] H nxt=some (v,u,av,n')):cX P o ρ S K w0 w Kn φ (au H) nxt n' v u:=by
 change (match ce tl,ce tc with
  |some l,some c=>if 0<=l/\l<=c/\c<=KU then some (TV.c (.fx z.length nxt 0 l.toNat),[(nxt,some (Ob.aG z.length (aj l.toNat (dj z))))],([]:List Nat),nxt+1)else none
  |_,_=>none)=_ at h
 split at h
 .rename_i a b ha hb';split at h
  .rename_i hle;obtain⟨h0,h1,h2⟩:=hle;obtain⟨rfl,rfl,rfl,rfl⟩:TV.c (.fx z.length nxt 0 a.toNat)=v/\[(nxt,some (Ob.aG z.length (aj a.toNat (dj z))))]=u/\[]=av/\nxt+1=n':=by simpa using h
   have hn:=hn0 (aQ _);obtain⟨k1,hk1⟩:=iO ha hl;obtain⟨k2,hk2⟩:=iO hb' hc;obtain⟨i,hi,hby0,hby⟩:=uw hb;obtain⟨zv,hzr,hzv,hzp⟩:=oU hz w;simp only[KU]at h2;have hwa:IntKind.i64.wrap a=a:=vA h0 (by omega);have hwb:IntKind.i64.wrap b=b:=vA (by omega) (by omega);have hmul:(i.bytes:Int)*b<=16384*2147483648:=Int.mul_le_mul (by omega) (by omega) (by omega) (by omega);have hsz:(z.length)=zv.cells.size:=by rw[<-hzv];simp
   let aG:Array Value:=(lR (b.toNat*(n+1))).map (fun i=>zv.cells[i %zv.cells.size]!);have harr:aG.toList=(bm (b.toNat*(n+1))).map fun i=>z.getD (i %(n+1)) undef:=tJ hzv hzl (cL _);have hsize:aG.size=b.toNat*(n+1):=by simp[aG]
   have hrows:cI S w (n+1) (fun i=>aG[i]?) 0 (aj a.toNat (dj z)):=by
    refine⟨fun i r hi=>?_,fun i r hi j x hj=>?_⟩
    .obtain ⟨_,rfl⟩:i<a.toNat/\dj z=r:=by
      grind
     simp[dj,hzl]
    .obtain ⟨hlt,rfl⟩:i<a.toNat/\dj z=r:=by
      grind
     simp only[dj,aN]at hj;obtain⟨y,hy,rfl⟩:=aH.1 hj;have hjl:j<n+1:=by grind
     refine⟨y,?_,.lit (hzp y (aF hy))⟩;have hidx:i*(n+1)+j<b.toNat*(n+1):=by have:(i+1)*(n+1)<=b.toNat*(n+1):=az _ (by omega);rw[dJ]at this;omega
     show aG[0+i*(n+1)+j]?=some y
     grind [Nat.add_comm,Nat.add_mul_mod_self_right,Nat.mod_eq_of_lt,List.getD]
   have hD:=kH.aG (K:=K) (w0:=w0) hI hn (cap:=b.toNat) (aG:=aG) el (cL n) (by simp;omega) (by rw[hsize];exact am _) hrows;rw[aY]at hD;rw[hzl];refine⟨.value (.slice (some ⟨w.heap.size,0,none⟩) a.toNat b.toNat),_,_,?_,.inl rfl,hD⟩;have hinfo:∀w:World,(typeInfo el).run P w=.ok i w:=fun w=>by simp[typeInfo,hi]
   have harr0:∀zc:Array Value,(b.toNat*(n+1)=0->zc= #[])->(¬b.toNat*(n+1)=0->zc=zv.cells)->((lR (b.toNat*(n+1))).map (fun i=>zc[i %zc.size]!))=aG:=by
    grind
   have hnl:¬(decide (b<0)||decide ((i.bytes:Int)*b>2^48))=true:=by simp only[Bool.or_eq_true,decide_eq_true_eq,not_or];constructor<;>omega
   simp only[execOp,ho,Sem.run_bind,Instr.makeSlice,bz hu,Result.andThen_ok,xL hk1,xL hk2,hinfo,hwa,hwb];rw[Sem.run_ite,if_neg (by simp_all)];simp only[Sem.run_pure,Result.andThen_ok,Sem.run_bind,run_askRoom,gG hs];by_cases hc0:b.toNat*(n+1)=0
   .have:=harr0 #[] (fun _=>rfl) (fun h=>absurd hc0 h);simp only[if_pos hc0,Sem.run_bind,Sem.run_pure,Result.andThen_ok,newRow,run_newObj,this]
   .have:=harr0 zv.cells (fun h=>absurd h hc0) (fun _=>rfl);simp only[if_neg hc0,Sem.run_bind,hzr,Sem.run_pure,Result.andThen_ok,newRow,run_newObj,this]
  .simp at h
 .simp at h
theorem MO{t el:TypeId}{n m:Nat}{l c:Operand}{z:List Value}(ho:o.op=.makeSlice t l c)(hu:P.underlying t=some (.slice el))
  (hs:fw P el=some (n+1)) (hz:jE P el=some z) (hzl:z.length=n+1) (hb:pS P el=true) (hz1:HN z=true) (hm:0<m)
  (hI:Inv S K w0 Kn φ (au H) w) (hn0:nxt<n'->¬Kn nxt) {tl tc:Option TV} (hl:∀y,tl=some y->fz S w Kn φ y (ρ l)) (hc:∀y,tc=some y->fz S w Kn φ y (ρ c))
  (h:ci call (.Cf m) [tl,tc] H nxt=some (v,u,av,n')):cX P o ρ S K w0 w Kn φ (au H) nxt n' v u:=by
 obtain rfl:z=[.slice none 0 0]:=by
  grind [HN]
 change (match ce tl,ce tc with
  |some l,some c=>if 0<=l/\l<=c/\c<=KU then some (TV.c _,[(nxt,some _)],([]:List Nat),nxt+1)else none
  |_,_=>none)=_ at h
 split at h
 .rename_i a b ha hb';split at h
  .obtain ⟨rfl,rfl,rfl,rfl⟩:TV.c _=v/\[(nxt,some _)]=u/\[]=av/\nxt+1=n':=by simpa using h
   have hev:ci call (.makeSlice [.slice none 0 0]) [tl,tc] H nxt=some (TV.c (.fx 1 nxt 0 a.toNat),[(nxt,some (Ob.aG 1 (aj a.toNat (dj [.slice none 0 0]))))],[],nxt+1):=by
    show(match ce tl,ce tc with
     |some l,some c=>if 0<=l/\l<=c/\c<=KU then some (TV.c _,[(nxt,some _)],([]:List Nat),nxt+1)else none
     |_,_=>none)=_
    simp_all
   obtain⟨nx,val,w',h1,h2,h3,S',φ',h4,h5,h6,h7⟩:=wJ ho hu hs hz hzl hb hI hn0 hl hc hev;refine⟨nx,val,w',h1,h2,h3,S',φ',h4,h5,h6,?_⟩;have e1:bf [(nxt,some (Ob.aG 1 (aj a.toNat (dj [.slice none 0 0]))))] (au H) nxt=some (.aG 1 (aj a.toNat (dj [.slice none 0 0]))):=by rw[bO,if_pos rfl]
   obtain⟨_,hro⟩:=h7.iI nxt _ e1
   have h8:=h7.VK (o':=.nst m (aj a.toNat .nil)) e1 rfl (fun sz sl k rows e hk=>by
    cases e;rw[ic]at hk;split at hk<;>cases hk) (by
    cases hro with
    |aG hsz hl hS hK hown hext hfit hrr hv=>
     rw[aY]at hv hfit;refine .nst hm hl hS hK hown hext (by rw[aY];omega) (fun i s hi=>?_) (by rw[aY];exact hv);rw[ic]at hi;split at hi
     .rename_i hlt;obtain rfl:=aa hi;obtain⟨v,q1,q2⟩:=hrr.2 i _ (by rw[ic,if_pos hlt]) 0 _ rfl;cases q2 with|lit _=>exact⟨_,by rw[<-q1];simp,.nil⟩
     .cases hi)
   have e2:bf [(nxt,some (Ob.nst m (aj a.toNat .nil)))] (bf [(nxt,some (Ob.aG 1 (aj a.toNat (dj [.slice none 0 0]))))] (au H))=bf [(nxt,some (Ob.nst m (aj a.toNat .nil)))] (au H):=by funext j;simp_all[bO,k_,if_pos]
   rw[e2]at h8;exact h8
  .simp at h
 .simp at h
theorem CR.mono{S':Nat->Prop}{w':World}{Kn':Nat->Prop}{φ':Nat->gj}(hs:gy S w S' w')(hr:Ren Kn φ Kn' φ'){cs:List C}{vs:List Value}(h:CR S w Kn φ cs vs):CR S' w' Kn' φ' cs vs:=⟨h.1,fun i x y hx hy=>(h.2 i x y hx hy).mono hs hr⟩
theorem TP{cs:List C}{aG:Array Value}(h1:cs.length=aG.size)(h2:∀(i:Nat)(x:C),cs[i]?=some x->RC S w Kn φ x (aG.getD i undef)):CR S w Kn φ cs aG.toList:=by
 refine⟨by simpa using h1,fun i x y hx hy=>?_⟩;have:=h2 i x hx;rw[cO]at hy;have e1:aG.getD i undef=y:=by simp[hy]
 rwa[e1]at this
theorem oB{b o n:Nat}{aG:Array Value}{vs:List Value}(ho:pn w b aG)(hn:vs.length=n):
  pn (w.setRow b (aG.toList.take o++vs++aG.toList.drop (o+n)).toArray) b (aT aG.toList o vs).toArray/\
  (∀c,c≠b->(w.setRow b (aG.toList.take o++vs++aG.toList.drop (o+n)).toArray).heap[c]?=w.heap[c]?)/\
  (w.setRow b (aG.toList.take o++vs++aG.toList.drop (o+n)).toArray).heap.size=w.heap.size/\
  (∀a,(w.setRow b (aG.toList.take o++vs++aG.toList.drop (o+n)).toArray).frozen? a=w.frozen? a)/\
  (o+n<=aG.size->∀arr1,pn w b arr1->∃arr',pn (w.setRow b (aG.toList.take o++vs++aG.toList.drop (o+n)).toArray) b arr'/\arr'.size=arr1.size):=by
 rw[Sp hn];refine⟨Ah ho,fun c hc=>setRow_other w b c _ hc,by simp,BB ho,fun hle arr1 h1=>⟨_,Ah ho,?_⟩⟩;obtain⟨t1,h1⟩:=h1;obtain⟨t2,h2⟩:=ho
 grind [ia,eL]
theorem Inv.BQ{hf hf':Nat->Option Ob}{S':Nat->Prop}{w':World}(_:Inv S K w0 Kn φ hf w)(hs:gy S w S' w')(hI:Inv S' K w0 Kn φ hf' w'){u:eW}{n:Nat}(he:hf'=bf u hf):
  kH S K w0 w Kn φ hf n n (.gX []) u undef w':=
 ⟨am _,S',φ,hs,qM _ _,.gX rfl (fun i x hi=>by simp at hi),he▸hI.kn fun _ h=>.inl h⟩
theorem EC{sz aL bv off:Nat}{rows:List (List D)}{r ds:List D}{aG:Array Value}{vs:List Value}(h:cI S w sz (fun i=>aG[i]?) aL rows)(hrow:rows[bv]?=some r)
  (hfit:off+ds.length<=r.length) (hl:ds.length=vs.length) (hd:∀(i:Nat)(x:D),ds[i]?=some x->∃y,vs[i]?=some y/\RD S w x y) (hsz:aL+rows.length*sz<=aG.size):
  cI S w sz (fun i=>(aT aG.toList (aL+bv*sz+off) vs).toArray[i]?) aL (rows.set bv (aT r off ds)):=by
 have hrl:=h.1 bv r hrow;have hlt:bv<rows.length:=(aB.1 hrow).1;have hmul:(bv+1)*sz<=rows.length*sz:=az _ (by omega);rw[dJ]at hmul
 have hget:∀k,(aT aG.toList (aL+bv*sz+off) vs).toArray[k]?=if k<aL+bv*sz+off then aG[k]?else if k<aL+bv*sz+off+vs.length then vs[k-(aL+bv*sz+off)]?else aG[k]?:=by
  grind [aT,jG]
 have hsetr:∀i q,(rows.set bv (aT r off ds))[i]?=some q->(i=bv/\q=aT r off ds)\/(i≠bv/\rows[i]?=some q):=by
  grind
 refine⟨fun i q hi=>?_,fun i q hi j z hj=>?_⟩
 .rcases hsetr i q hi with⟨rfl,rfl⟩|⟨_,h1⟩
  .rw [eL _ _ _ hfit];exact hrl
  .exact h.1 i q h1
 .simp only[hget];rcases hsetr i q hi with⟨rfl,rfl⟩|⟨hne,h1⟩
  .rw [jG _ _ _ hfit]at hj;by_cases c1:j<off
   .rw [if_pos c1]at hj;rw[if_pos (by omega)];exact h.2 i r hrow j z hj
   .rw [if_neg c1]at hj;by_cases c2:j<off+ds.length
    .rw [if_pos c2]at hj;obtain⟨y,hy,hr⟩:=hd _ z hj;rw[if_neg (by omega),if_pos (by omega)];refine⟨y,?_,hr⟩;rw[<-hy];congr 1;omega
    .rw [if_neg c2]at hj;rw[if_neg (by omega),if_neg (by omega)];exact h.2 i r hrow j z hj
  .have hjl:j<sz:=by rw[<-h.1 i q h1];grind
   have hout:aL+i*sz+j<aL+bv*sz+off\/aL+bv*sz+off+vs.length<=aL+i*sz+j:=by
    rcases Nat.lt_or_gt_of_ne hne with hlt2|hgt
    .have:(i+1)*sz<=bv*sz:=az _ (by omega);rw[dJ]at this;omega
    .have:(bv+1)*sz<=i*sz:=az _ (by omega);rw[dJ]at this;omega
   rcases hout with c|c
   .rw [if_pos c];exact h.2 i q h1 j z hj
   .rw [if_neg (by omega),if_neg (by omega)];exact h.2 i q h1 j z hj
theorem Pu{α:Type}{l:List α}{o:Nat}{v:α}(h:o<l.length):aT l o [v]=l.set o v:=by rw[List.set_eq_take_append_cons_drop,if_pos h];simp[aT]
theorem PN{id bv sz:Nat}{slots:List k8}{cs:List C}{vs:List Value}{u:eW}{av:List Nat}{aG:Array Value}(hI:Inv S K w0 Kn φ (au H) w)(hob:au H id=some (.nst sz slots))(hrow:bv<slots.length)
  (hcr:CR S w Kn φ cs vs) (hlen:cs.length=1) (hown:pn w (φ id).cQ aG) (hfit:(φ id).aL+bv<aG.size) (h:sW id bv sz slots cs H=some (u,av)):
  gy S w S (w.setRow (φ id).cQ (aG.toList.take ((φ id).aL+bv)++vs++aG.toList.drop ((φ id).aL+bv+1)).toArray)/\
   Inv S K w0 Kn φ (bf u (au H)) (w.setRow (φ id).cQ (aG.toList.take ((φ id).aL+bv)++vs++aG.toList.drop ((φ id).aL+bv+1)).toArray):=by
 have hvl:vs.length=1:=by rw[<-hcr.1];exact hlen
 obtain⟨p1,p2,p3,p4,_⟩:=oB (w:=w) (b:=(φ id).cQ) (n:=1) (vs:=vs) hown hvl;have hio:Io w (w.setRow (φ id).cQ (aG.toList.take ((φ id).aL+bv)++vs++aG.toList.drop ((φ id).aL+bv+1)).toArray):=⟨rfl,rfl,rfl,am _⟩
 generalize w.setRow (φ id).cQ (aG.toList.take _++vs++aG.toList.drop _).toArray=w' at*
 obtain⟨x,rfl⟩:∃x,vs=[x]:=by
  match vs,hvl with|[x],_=>exact⟨x,rfl⟩
 rw[Pu (by simpa using hfit)]at p1
 have key:∀s',(gy S w S w'->Bc S K w' Kn φ sz s' x)->(∀rows,s'≠.bk rows)->gy S w S w'/\Inv S K w0 Kn φ (bf [(id,some (.nst sz (slots.set bv s')))] (au H)) w':=fun s' h1 h2=>
  hI.Xo hob hown p1 (by simp) p2 p3 p4 hio (fun i hi=>by
   rw[bK,List.getElem?_set_ne (by omega),cO]) (fun _=>by
   rw[bK,nX (by simpa using hfit)]) h1 h2
 unfold sW at h;split at h
 .obtain ⟨rfl,rfl⟩:[(id,some _)]=u/\[id]=av:=by simpa using h
  have hx:=hcr.2 0 _ x rfl rfl;cases hx with
  |d hd=>cases hd with|lit _=>exact key .nil (fun _=>.nil) (fun _ e=>by cases e)
 .rename_i sz' id2 len;split at h
  .rename_i sz2 rows h2;split at h
   .rename_i hc;obtain⟨rfl,rfl,hne⟩:=hc;obtain⟨rfl,rfl⟩:[(id,some _),(id2,none)]=u/\[id,id2]=av:=by simpa using h
    obtain⟨q1,q2⟩:=key _ (fun hs=>.dQ ((hcr.2 0 _ x rfl rfl).mono hs (Ren.refl _ _))) (fun _ e=>by cases e);refine⟨q1,?_⟩;have e1:bf [(id,some (Ob.nst sz' (slots.set bv (.dQ id2 rows.length))))] (au H) id=some (.nst sz' (slots.set bv (.dQ id2 rows.length))):=by rw[bO,if_pos rfl]
    have e2:bf [(id,some (Ob.nst sz' (slots.set bv (.dQ id2 rows.length))))] (au H) id2=some (.aG sz2 rows):=by rw[bO,if_neg (fun e=>hne e.symm),k_,h2]
    have q3:=q2.OU e1 (nX hrow) e2;rw[List.set_set]at q3;have e3:bf [(id,some (Ob.nst sz' (slots.set bv (.bk rows)))),(id2,none)] (bf [(id,some (Ob.nst sz' (slots.set bv (.dQ id2 rows.length))))] (au H))=bf [(id,some (Ob.nst sz' (slots.set bv (.bk rows)))),(id2,none)] (au H):=by funext j;simp_all[bO,k_,if_pos,if_neg]
    rw[e3]at q3;exact q3
   .simp at h
  .simp at h
 .simp at h
theorem MN{t:TypeId}{n:Nat}{a x:Operand}(ho:o.op=.store t a x)(hs:fw P t=some n)(hI:Inv S K w0 Kn φ (au H) w)
  {ta tx:Option TV} (ha:∀y,ta=some y->fz S w Kn φ y (ρ a)) (hx:∀y,tx=some y->fz S w Kn φ y (ρ x))
  (h:ci call (.store n) [ta,tx] H nxt=some (v,u,av,n')):cX P o ρ S K w0 w Kn φ (au H) nxt n' v u:=by
 match ta,tx,h,ha,hx with
 |some (.c p),some tv,h,ha,hx=>
  change (match mN n p tv H with|some (u,av)=>some (TV.gX [],u,av,nxt)|none=>none)=_ at h;split at h
  .rename_i u' ids' dR;obtain⟨rfl,rfl,rfl,rfl⟩:TV.gX []=v/\u'=u/\ids'=av/\nxt=n':=by simpa using h
   unfold mN at dR;split at dR
   .simp at dR
   .rename_i cs hcs;split at dR
    .rename_i hlen;have hcr:=(hx _ rfl).cr hcs;obtain⟨_,_,hone⟩:=(hx _ rfl).cells hcs;have hvl:(ρ x).cells.size=n:=by have:=hcr.1;simp at this;omega
     have hr:=ha _ rfl;generalize hv0:ρ a=val at hr
     have run:∀b off aG,val=.pointer (some ⟨b,off,none⟩)->pn w b aG->off+n<=aG.size->
       (execOp ρ o).run P w=.ok .skip (w.setRow b (aG.toList.take off++(ρ x).cells.toList++aG.toList.drop (off+n)).toArray):=by
      intro b off aG hv hown hfit;simp[execOp,ho,hv0,hv,Instr.storeAt,Instr.sureAddr,PA hs hown hvl hfit hone]
     cases hr with
     |c hr=>
     split at dR
     .rename_i id bv off;split at dR
      .rename_i sz rows hob;split at dR
       .rename_i r ds ids1 hrow hvw;split at dR
        .rename_i u1 hfz;split at dR
         .rename_i hb;obtain⟨hb1,hb2⟩:=hb;obtain⟨rfl,rfl⟩:(id,some (Ob.aG sz (rows.set bv (aT r off ds))))::u1=u'/\id::ids1=ids':=by simpa using dR
          have hnm:id∉ids1:=by simpa using hb2
          obtain⟨hdl,hds⟩:=pC hI cs ds ids1 hvw (fun i=>(ρ x).cells.toList[i]?) (fun i c hi=>by
           have hlt:i<(ρ x).cells.toList.length:=by grind
           exact⟨_,ao hlt,hcr.2 i c _ hi (ao hlt)⟩)
          have hI1:=hI.DB hfz;have hob1:bf u1 (au H) id=some (.aG sz rows):=by simp only[bf,(ku ids1 u1 hfz id).2 hnm,hob]
          obtain⟨hk,h0⟩:=hI1.iI _ _ hob1;generalize hphi:φ id=l at*;cases h0 with
          |@aG _ _ aG hsz hl hS hK hown hext hfit hrr hvis=>
           cases hr with
           |ep hk'=>
            rw[hphi]at run;subst hl;have hrl:=hrr.1 bv r hrow;have hrowlt:bv<rows.length:=(aB.1 hrow).1;have hmul:(bv+1)*l.sz<=rows.length*l.sz:=az _ (by omega);rw[dJ]at hmul;have hfit2:l.aL+bv*l.sz+off+n<=aG.size:=by rw[hext];omega
            obtain⟨p1,p2,p3,p4,p5⟩:=oB (w:=w) (b:=l.cQ) (o:=l.aL+bv*l.sz+off) (n:=n) (vs:=(ρ x).cells.toList) hown (by simpa using hvl);have hset:=hI1.set (o':=.aG l.sz (rows.set bv (aT r off ds))) hob1 rfl (by rw[hphi];exact p2) p3 p4 (by rw[hphi];exact p5 hfit2) ⟨rfl,rfl,rfl,am _⟩ (fun dR=>by rw[hphi];have h5:=(EC (off:=off) (vs:=(ρ x).cells.toList) hrr hrow (by omega) (by rw[hdl];exact hcr.1) hds (by omega)).mono dR;exact .aG hsz rfl hS hK p1 (by simp only[ia];rw[eL _ _ _ (by simp;omega)];simpa using hext) (by simpa using hfit) h5 (by simpa using hvis));refine⟨.skip,undef,_,run _ _ _ rfl hown hfit2,.inr ⟨rfl,rfl⟩,hI.BQ ((SB.tR ids1).trans hset.1) hset.2 ?_⟩;rw[<-dp];rfl
         .simp at dR
        .simp at dR
       .simp at dR
      .rename_i sz slots hob;split at dR
       .rename_i hc;obtain⟨rfl,rfl,hrow⟩:=hc;obtain⟨hk,h0⟩:=hI.iI _ _ hob;cases h0 with
        |@nst _ _ aG hsz hl hS hK hown hext hfit hrr hvis=>cases hr with|ep hk'=>obtain⟨q1,q2⟩:=PN hI hob hrow hcr hlen hown (by omega) dR;have hrun:=run (φ id).cQ ((φ id).aL+bv*(φ id).sz+0) aG rfl hown (by rw[hl];omega);rw[hl,kh,fy]at hrun;refine⟨.skip,undef,_,hrun,.inr ⟨rfl,rfl⟩,hI.BQ q1 q2 rfl⟩
       .simp at dR
      .simp at dR
     .rename_i id off;split at dR
      .rename_i cells hob;split at dR
       .rename_i hb;obtain⟨rfl,rfl⟩:[(id,some (Ob.box (aT cells off cs)))]=u'/\[id]=ids':=by simpa using dR
        obtain⟨hk,h0⟩:=hI.iI _ _ hob;generalize hphi:φ id=l at*;cases h0 with
        |@box _ aG hbase hS hK hown hlen2 hrr=>cases hr with|op hk'=>rw[hphi,hbase,bS]at run;obtain⟨p1,p2,p3,p4,p5⟩:=oB (w:=w) (b:=l.cQ) (o:=off) (n:=n) (vs:=(ρ x).cells.toList) hown (by simpa using hvl);have hset:=hI.set (o':=.box (aT cells off cs)) hob rfl (by rw[hphi];exact p2) p3 p4 (by rw[hphi];exact p5 (by omega)) ⟨rfl,rfl,rfl,am _⟩ (fun dR=>by rw[hphi];have h5:=((TP hlen2 hrr).aT hcr off (by omega)).mono dR (Ren.refl _ _);obtain⟨h6,h7⟩:=AV (aG:=(aT aG.toList off (ρ x).cells.toList).toArray) (by rw[List.toList_toArray];exact h5);exact .box hbase hS hK p1 h6 h7);exact⟨.skip,undef,_,run _ _ _ rfl hown (by omega),.inr ⟨rfl,rfl⟩,hI.BQ hset.1 hset.2 rfl⟩
       .simp at dR
      .simp at dR
     .simp at dR
    .simp at dR
  .simp at h
end
section
variable{P:Program}{S K:Nat->Prop}{w0 w:World}{Kn:Nat->Prop}{φ:Nat->gj}{H:bp}{e:jk}{ρ:Operand->Value}{o:Oper}{call:Call}
 {nxt n':Nat} {v:TV} {u:eW} {av:List Nat}
theorem rN{sz b addr:Nat}{rows:List (List D)}(hsz:0<sz)(h:cI S w sz (fun i=>w.cell? ⟨b,i,none⟩) addr rows):
  ∃aG,(∀w':World,w'.heap=w.heap->(loadCells ⟨b,addr,none⟩ (rows.length*sz)).run P w'=.ok aG w')/\aG.size=rows.length*sz/\cI S w sz (fun i=>aG[i]?) 0 rows/\∀x∈aG.toList,one x=true:=by
 have hcell:∀k,k<rows.length*sz->∃y,w.cell? ⟨b,addr+k,none⟩=some y/\one y=true:=by
  intro k hk;have h1:k/sz<rows.length:=Nat.div_lt_of_lt_mul (by rw[gq];exact hk);have h2:=h.1 (k/sz) rows[k/sz] (ao h1);have h3:k %sz<rows[k/sz].length:=by rw[h2];exact lP _ hsz
  obtain⟨y,hy,hr⟩:=h.2 (k/sz) rows[k/sz] (ao h1) (k %sz) _ (ao h3);refine⟨y,?_,hr.one⟩
  grind [Nat.div_add_mod,gq]
 refine⟨((bm (rows.length*sz)).map fun j=>(w.cell? ⟨b,addr+j,none⟩).getD undef).toArray,fun w' hw=>run_loadCells w' ⟨b,addr,none⟩ _ _ fun j hj=>?_,by simp,
  ⟨h.1,fun i r hi j x hj=>?_⟩,fun x hx=>?_⟩
 .grind [World.cell?,pk]
 .obtain ⟨y,hy,hr⟩:=h.2 i r hi j x hj;refine⟨y,?_,hr⟩;have hil:i<rows.length:=(aB.1 hi).1;have hjl:j<sz:=by rw[<-h.1 i r hi];grind
  have hm:(i+1)*sz<=rows.length*sz:=az _ hil
  grind [dJ,bm,undef,List.getElem?_range]
 grind
def O2(P:Program)(S:Nat->Prop)(w:World)(sz:Nat)(xv:Value)(new:List (List D))(aG:Array Value):Prop:=
 (∀w':World,w'.heap=w.heap->(Builtin.lenOf xv).run P w'=.ok new.length w'/\(Builtin.firstCells sz new.length xv).run P w'=.ok aG w')/\
 aG.size=new.length*sz/\cI S w sz (fun i=>aG[i]?) 0 new/\∀x∈aG.toList,one x=true
theorem Cu{sz b addr len cap:Nat}{new:List (List D)}(hsz:0<sz)(hl:new.length=len)(h:cI S w sz (fun i=>w.cell? ⟨b,i,none⟩) addr new):
  ∃aG,O2 P S w sz (.slice (some ⟨b,addr,none⟩) len cap) new aG:=by
 subst hl;obtain⟨aG,h1,h2,h3,h4⟩:=rN hsz h;exact⟨aG,fun w' hw=>⟨rfl,h1 w' hw⟩,h2,h3,h4⟩
theorem GZ{sz:Nat}{x:C}{xv:Value}{new:List (List D)}(hsz:0<sz)(hI:Inv S K w0 Kn φ (au H) w)(hr:RC S w Kn φ x xv)(h:jh sz H x=some (new,av)):
  ∃aG,O2 P S w sz xv new aG:=by
 unfold jh at h;split at h
 .obtain ⟨rfl,rfl⟩:[]=new/\[]=av:=by simpa using h
  cases hr with
  |d hd=>cases hd with|lit hp=>exact⟨#[],fun w' _=>⟨rfl,rfl⟩,by simp,⟨fun i r hi=>by simp at hi,fun i r hi=>by simp at hi⟩,fun x hx=>by simp at hx⟩
 .rename_i sz' rows;split at h
  .rename_i e1;subst e1;obtain⟨rfl,rfl⟩:rows=new/\[]=av:=by simpa using h
   cases hr with
   |d hd=>cases hd with
    |sl f hb hsz0 hcap hrow hcell hrd=>exact Cu hsz rfl ⟨hrow,fun i r hi j x hj=>⟨_,hcell i r hi j x hj,hrd i r hi j x hj⟩⟩
    |uJ hsz0=>exact⟨#[],fun w' _=>⟨rfl,by
      have h0:([]:List (List D)).length*sz'=0:=by simp
      simp[Builtin.firstCells];rfl⟩,by simp,⟨fun i r hi=>by simp at hi,fun i r hi=>by simp at hi⟩,fun x hx=>by simp at hx⟩
  .simp at h
 .rename_i sz' id off len
  have key:∀szo rows,(au H id=some (.aG szo rows)\/au H id=some (.qu szo rows))->(if sz'=sz/\off+len<=rows.length then some ((rows.drop off).take len,[id])else none)=some (new,av)->
    ∃aG,O2 P S w sz xv new aG:=by
   intro szo rows ho hq;split at hq
   .rename_i hb;obtain⟨e1,hle⟩:=hb;subst e1;obtain⟨rfl,rfl⟩:=Prod.mk.inj (aa hq);obtain⟨hsz1,hl,hR⟩:=ow hI ho;subst hl;cases hr with|fx hk hcap haddr hext=>exact Cu hsz1 (by simp;omega) (hR.yR off len fun h=>haddr (by omega))
   .simp at hq
  grind
 .simp at h
theorem Ql(need:Nat)(c:Nat):Builtin.growBy need 4 c<=3*c+3072:=by
 grind [Builtin.growBy]
theorem M3{need cap:Nat}(h1:need<=2147483648)(h2:cap<need):Builtin.nextslicecap need cap<=6442454016:=by
 grind [Builtin.nextslicecap,Ql]
theorem Inv.EZ{hf:Nat->Option Ob}{w':World}{b:Nat}(h:Inv S K w0 Kn φ hf w)(hS:¬S b)(hK:¬K b)(hfree:∀i o,hf i=some o->cA o=true->b∉ij w φ hf i)
  (hother:∀c,c≠b->w'.heap[c]?=w.heap[c]?) (hsize:w'.heap.size=w.heap.size) (hfrz:∀a,w'.frozen? a=w.frozen? a)
  (hsz:∀aG,pn w b aG->∃arr',pn w' b arr'/\arr'.size=aG.size) (hio:Io w w'):gy S w S w'/\Inv S K w0 Kn φ hf w':=by
 have hs:gy S w S w':=⟨fun _ h=>h,fun c hc=>hother c (fun e=>hS (e▸hc))⟩
 refine⟨hs,h.ld hs (Ren.refl _ _) (fun c hc=>hsize▸h.uH c hc) h.sk ⟨h.oe.HK,fun c hc=>(hother c (fun e=>hK (e▸hc))).trans (h.oe.lK c hc),hsize▸h.oe.sT,fun a ha=>(hfrz a).trans (h.oe.Bj a ha),h.oe.Ag hother hsz,h.oe.io.trans hio⟩ ?_ h.ph fun id sz sl hi=>⟨hi,hother _ fun e=>hfree id _ hi rfl (e▸kW id),fun k x hp=>⟨hother x fun e=>hfree id _ hi rfl (dF.2 (.inr ⟨sz,sl,k,hi,e▸hp⟩)),(h.Kp hi hp).1,(h.yB id sz sl k x hi hp).1⟩⟩⟩;intro id o ho;exact .inl ⟨ho,fun hown=>⟨hother _ fun e=>hfree id o ho hown (e▸kW id),((h.iI id o ho).2.bk hown).1⟩⟩
theorem CG{w':World}{hf:Nat->Option Ob}{i:Nat}(h:w'.heap[(φ i).cQ]?=w.heap[(φ i).cQ]?):ij w' φ hf i=ij w φ hf i:=by
 have key:∀(l:gj),w'.heap[l.cQ]?=w.heap[l.cQ]?->∀(sl:List k8)(k:Nat),tD w' l sl k=tD w l sl k:=by
  intro l hl sl;induction sl with
  |nil=>intro k;rfl
  |cons s sl ih=>intro k;cases s with|bk rows=>simp[tD,ih,mZ hl]|_=>exact ih _
 grind [ij]
theorem qL{sz aL:Nat}{a b:List (List D)}{get:Nat->Option Value}(h1:cI S w sz get aL a)(h2:cI S w sz get (aL+a.length*sz) b):cI S w sz get aL (a++b):=by
 have key:∀(i:Nat)(r:List D),(a++b)[i]?=some r->a[i]?=some r\/(a.length<=i/\b[i-a.length]?=some r):=by
  grind
 refine⟨fun i r hi=>?_,fun i r hi j x hj=>?_⟩
 .rcases key i r hi with h|⟨_,h⟩
  .exact h1.1 i r h
  .exact h2.1 _ r h
 .rcases key i r hi with h|⟨hle,h⟩
  .exact h1.2 i r h j x hj
  .obtain ⟨y,hy,hr⟩:=h2.2 _ r h j x hj;refine⟨y,?_,hr⟩;rw[<-hy];congr 1;have:a.length*sz+(i-a.length)*sz=i*sz:=by rw[<-bA];congr 1;omega
   omega
theorem RC.kp{sz id off len:Nat}{v:Value}(h:RC S w Kn φ (.fx sz id off len) v):∃cap addr,v=.slice (some ⟨(φ id).cQ,addr,none⟩) len cap/\(φ id).sz=sz/\Kn id/\len<=cap/\
  (0<cap->addr=(φ id).aL+off*(φ id).sz)/\addr+cap*(φ id).sz<=(φ id).ext/\off+cap=(φ id).cap:=by
 cases h with|fx hk hcap haddr hext hc=>grind
theorem KD{c:oc}{s x:Operand}{st xt el el2:TypeId}{n:Nat}{z:List Value}(ho:o.op=.call c)(hcal:c.callee=.builtin .append)(hargs:c.args= #[s,x])(hts:c.argTypes= #[st,xt])
  (hus:P.underlying st=some (.slice el)) (hux:P.underlying xt=some (.slice el2)) (hsz:fw P el=some (n+1)) (hz:jE P el=some z) (hzl:z.length=n+1) (hby:pS P el=true)
  (hI:Inv S K w0 Kn φ (au H) w) (hn0:nxt<n'->¬Kn nxt) {ta tx:Option TV} (ha:∀y,ta=some y->fz S w Kn φ y (ρ s)) (hx:∀y,tx=some y->fz S w Kn φ y (ρ x))
  (h:ci call (.append (n+1)) [ta,tx] H nxt=some (v,u,av,n')):cX P o ρ S K w0 w Kn φ (au H) nxt n' v u:=by
 obtain⟨inf,hinf,hb0,hb1⟩:=uw hby;obtain⟨zv,hzr,hzv,_⟩:=oU hz w
 match ta,tx,h,ha,hx with
 |some (.c sc),some (.c xc),h,ha,hx=>
  change o9 (n+1) sc xc H nxt=_ at h;unfold o9 at h;split at h
  .simp at h
  .rename_i new ids1 hrx;cases hx _ rfl with
   |c hxr=>
   obtain⟨narr,hel,hns,hnR,hnone⟩:=GZ (P:=P) (sz:=n+1) (cL n) hI hxr hrx;have hinfo:∀w:World,(typeInfo el).run P w=.ok inf w:=fun w=>by simp[typeInfo,hinf]
   have hzr':∀w:World,(zeroValue el).run P w=.ok zv w:=by intro w';simp only[zeroValue,typeInfo,Sem.run_bind,run_program,Result.andThen_ok,hinf,Sem.run_pure]at hzr|-;cases hzz:inf.zero with|none=>rw[hzz]at hzr;simp at hzr|some q=>simp_all
   have hunx:∀w:World,(underlying xt).run P w=.ok (.slice el2) w:=bz hux
   -- what the model does where there is no ig
   have grows:∀(aL:Option Addr)(sLen sCap:Nat)(old:Array Value),ρ s=.slice aL sLen sCap->sCap<sLen+new.length->sLen+new.length<=2147483648->
     (∀w':World,w'.heap=w.heap->(Builtin.firstCells (n+1) sLen (.slice aL sLen sCap)).run P w'=.ok old w')->
     ∃newCap,sLen+new.length<=newCap/\(execOp ρ o).run P w=.ok (.value (.slice (some ⟨w.heap.size,0,none⟩) (sLen+new.length) newCap))
      {({w with drawn:=w.drawn+1}:World)with heap:=w.heap.push (.cells (old++narr++Builtin.zeroCells zv.cells (newCap-(sLen+new.length))) el)}:=by
    intro aL sLen sCap old hs hlt hle hold;refine⟨(Question.appendCap (sLen+new.length) sCap el).cut (w.tape w.drawn (.appendCap (sLen+new.length) sCap el)),by simp[Question.cut],?_⟩;have hcap:¬Builtin.nextslicecap (sLen+new.length) sCap*inf.bytes>2^48:=by have h1:=M3 hle hlt;have h2:Builtin.nextslicecap (sLen+new.length) sCap*inf.bytes<=6442454016*16384:=Nat.mul_le_mul h1 hb1;omega
    have hbz:¬inf.bytes=0:=by omega
    have hnle:¬sLen+new.length<=sCap:=by omega
    have ho2:=hold {w with drawn:=w.drawn+1} rfl;have hn2:=(hel {w with drawn:=w.drawn+1} rfl).2;have hl2:=(hel w rfl).1
    simp only[execOp,ho,hcal,resolve,hargs,Sem.run_bind,Sem.run_pure,Result.andThen_ok,invoke,builtin,Builtin.append_,hts,c9,aK,aZ,hs,bK,
     bP,cN,bz hus,gG hsz,hunx,hl2,hnle,if_false,hinfo,hcap,hbz,bD,or_self,and_false,run_choose,Question.forced,run_askRoom,ho2,hn2,hzr',newRow,run_newObj,jY,if_true]
   have room_new:¬Kn nxt->∀(k:Nat)(_:w.drawn<=k)(hf:Nat->Option Ob)(rows:List (List D))(aG:Array Value)(cap:Nat),Inv S K w0 Kn φ hf w->rows.length<=cap->cap*(n+1)<=aG.size->cI S w (n+1) (fun i=>aG[i]?) 0 rows->
     kH S K w0 w Kn φ hf nxt (nxt+1) (.c (.fx (n+1) nxt 0 rows.length)) [(nxt,some (.aG (n+1) rows))] (.slice (some ⟨w.heap.size,0,none⟩) rows.length cap)
      {({w with drawn:=k}:World)with heap:=w.heap.push (.cells aG el)}:=by
    intro hn k hk hf rows aG cap hI1 h1 h2 h3;obtain⟨a1,S',φ',a2,a3,a4,a5⟩:=kH.aG (hI1.vh k hk) hn el (cL n) h1 h2 (h3.mono (gy.vh S w k));exact⟨a1,S',φ',(gy.vh S w k).trans a2,a3,a4,a5⟩
   have zsize:∀m,(Builtin.zeroCells zv.cells m).size=m*(n+1):=by
    grind [Builtin.zeroCells]
   split at h
   .--a nil slice
    split at h
    .rename_i hle;simp only[KU]at hle;obtain⟨hv,_⟩:=(ha _ rfl).lit;cases new with
     |nil=>
      obtain⟨rfl,rfl,rfl,rfl⟩:TV.c (.d (.lit (.slice none 0 0)))=v/\[]=u/\ids1=av/\nxt=n':=by simpa using h
      refine cX.pure hI ?_ (ha _ rfl);have hl2:=(hel w rfl).1;have hn2:=(hel w rfl).2;simp only[mQ]at hl2 hn2
      simp only[execOp,ho,hcal,resolve,hargs,Sem.run_bind,Sem.run_pure,Result.andThen_ok,invoke,builtin,Builtin.append_,hts,c9,aK,aZ,hv,bK,
       bP,cN,bz hus,gG hsz,hunx,hl2,am,if_true,jY,hn2,bD,if_false,fy]
     |cons q new=>
      obtain⟨rfl,rfl,rfl,rfl⟩:TV.c (.fx (n+1) nxt 0 (q::new).length)=v/\[(nxt,some (Ob.aG (n+1) (q::new)))]=u/\ids1=av/\nxt+1=n':=by simpa using h
      obtain⟨newCap,hnc,hrun⟩:=grows none 0 0 #[] hv (by simp) (by simpa using hle) (fun w' _=>rfl);rw[bS]at hrun hnc;refine⟨.value _,_,_,hrun,.inl rfl,room_new (hn0 (aQ _)) _ (bn _) _ _ _ _ hI hnc ?_ ?_⟩
      .simp only[jD,hns,zsize,ia,mQ];rw[bS,<-bA];exact az _ (by omega)
      .refine ⟨hnR.1,fun i r hi j x hj=>?_⟩;obtain⟨y,hy,hr⟩:=hnR.2 i r hi j x hj
       grind
    .simp at h
   .--a slice of one's bk
    rename_i sz' id off len;split at h
    .rename_i szo rows hob;split at h
     .rename_i hb;obtain⟨e1,hle,hlim⟩:=hb;subst e1;simp only[KU]at hlim;obtain⟨rfl,rfl,rfl,rfl⟩:TV.c (.fx (n+1) nxt 0 (len+new.length))=v/\[(id,none),(nxt,some (Ob.aG (n+1) ((rows.drop off).take len++new++rows.drop (off+len+new.length))))]=u/\id::ids1=av/\nxt+1=n':=by simpa using h
      have hn:=hn0 (aQ _);have hr:=ha _ rfl;generalize hv0:ρ s=val at hr;cases hr with
      |c hr=>
      have hlen:((rows.drop off).take len).length=len:=by simp;omega
      have hlen2:((rows.drop off).take len++new).length=len+new.length:=by simp;omega
      have hku:∀hf:Nat->Option Ob,bf [(id,none),(nxt,some (Ob.aG (n+1) ((rows.drop off).take len++new++rows.drop (off+len+new.length))))] hf=bf [(nxt,some (Ob.aG (n+1) ((rows.drop off).take len++new++rows.drop (off+len+new.length))))] (bf [(id,none)] hf):=by intro hf;have hne:id≠nxt:=fun e=>hn (e▸(hI.iI _ _ hob).1);rw[<-dp];exact m9 (u:=[(id,none)]) fun p hp q hq=>by obtain rfl:=aq.1 hp;obtain rfl:=aq.1 hq;exact hne
      have hkill:Inv S K w0 Kn φ (bf [(id,none)] (au H)) w:=hI.mC fun i o ho=>by
       rw[bO]at ho;split at ho
       .simp at ho
       .exact ho
      obtain⟨hk0,h0⟩:=hI.iI _ _ hob;generalize hphi:φ id=l at*;cases h0 with
      |@aG _ _ aG hsz0 hl hS hK hown hext hfit hrr hvis=>
      obtain⟨cap,addr,rfl,hszl,hk,hcap,haddr,hextc,hcl⟩:=hr.kp;rw[hphi]at hv0 haddr hextc hszl hcl;have e2:szo=n+1:=by rw[<-hl,hszl]
      subst e2;rw[hl]at haddr hextc;have hR:∀len',len'=len->cI S w (n+1) (fun i=>aG[i]?) addr ((rows.drop off).take len'):=fun len' e=>by subst e;exact hrr.yR off len' fun h=>haddr (by omega)
      have hRc:cI S w (n+1) (fun i=>w.cell? ⟨l.cQ,i,none⟩) addr ((rows.drop off).take len):=⟨(hR len rfl).1,fun i r hi j x hj=>let⟨y,hy,hd⟩:=(hR len rfl).2 i r hi j x hj;⟨y,(hown.cell _).trans hy,hd⟩⟩
      by_cases hroom:len+new.length<=cap
      .--there is ig
       have hl2:=(hel w rfl).1;have hn2:=(hel w rfl).2;have hcm:(len+new.length)*(n+1)<=cap*(n+1):=az _ hroom;rw[bA]at hcm;obtain⟨ty,hty⟩:=hown;have dR:=run_storeCells_at P l.cQ (addr+len*(n+1)) ty narr.toList 0 aG w hty (by grind) (fun v hv=>by rw[sM];exact hnone v hv);simp only[fy,Array.length_toList,hns]at dR;have hown:pn w l.cQ aG:=⟨ty,hty⟩
       obtain⟨p1,p2,p3,p4,p5⟩:=oB (w:=w) (b:=l.cQ) (o:=addr+len*(n+1)) (n:=new.length*(n+1)) (vs:=narr.toList) hown (by simpa using hns);have hio:Io w (w.setRow l.cQ (aG.toList.take (addr+len*(n+1))++narr.toList++aG.toList.drop (addr+len*(n+1)+new.length*(n+1))).toArray):=⟨rfl,rfl,rfl,am _⟩
       generalize hw':w.setRow l.cQ (aG.toList.take (addr+len*(n+1))++narr.toList++aG.toList.drop (addr+len*(n+1)+new.length*(n+1))).toArray=w' at*
       have hrun:(execOp ρ o).run P w=.ok (.value (.slice (some ⟨l.cQ,addr,none⟩) (len+new.length) cap)) w':=by
        simp only[execOp,ho,hcal,resolve,hargs,Sem.run_bind,Sem.run_pure,Result.andThen_ok,invoke,builtin,Builtin.append_,hts,c9,aK,aZ,hv0,bK,
         bP,cN,bz hus,gG hsz,hunx,hl2,hroom,if_true,jY,hn2,bD,if_false,pk,dR]
       have hfree:∀i o,bf [(id,none)] (au H) i=some o->cA o=true->l.cQ∉ij w φ (bf [(id,none)] (au H)) i:=by
        intro i o hi ho hm;have hi':=hi;rw[bO]at hi';split at hi'
        .simp at hi'
        .rename_i hne;rw[gp rfl (hi.trans hi'.symm)]at hm;exact oH hI hi' hob ho rfl (fun e=>hne e.symm) hm (by rw[<-hphi];exact kW id)
       obtain⟨hs1,hI1⟩:=hkill.EZ hS hK hfree p2 p3 p4 (p5 (by omega)) hio
       have hget:∀k,(aT aG.toList (addr+len*(n+1)) narr.toList).toArray[k]?=if k<addr+len*(n+1)then aG[k]?else if k<addr+len*(n+1)+narr.size then narr[k-(addr+len*(n+1))]?else aG[k]?:=by
        intro k;rw[<-cO];show(aT aG.toList _ narr.toList)[k]?=_;rw[jG _ _ _ (by grind)]
        grind
       have hrows:cI S w' (n+1) (fun i=>(aT aG.toList (addr+len*(n+1)) narr.toList).toArray[i]?) addr ((rows.drop off).take len++new):=by
        refine qL (cI.mono hs1 ⟨(hR len rfl).1,fun i r hi j x hj=>?_⟩) (cI.mono hs1 ⟨hnR.1,fun i r hi j x hj=>?_⟩)
        .obtain ⟨y,hy,hd⟩:=(hR len rfl).2 i r hi j x hj;refine⟨y,?_,hd⟩;have hil:i<len:=by rw[<-hlen];exact(aB.1 hi).1
         have hjl:j<n+1:=by rw[<-(hR len rfl).1 i r hi];grind
         have hm:(i+1)*(n+1)<=len*(n+1):=az _ hil;rw[dJ]at hm;show(aT aG.toList (addr+len*(n+1)) narr.toList).toArray[_]?=_;rw[hget,if_pos (by omega)];exact hy
        .obtain ⟨y,hy,hd⟩:=hnR.2 i r hi j x hj;refine⟨y,?_,hd⟩;have hlt:=(bq.1 hy).1;show(aT aG.toList (addr+len*(n+1)) narr.toList).toArray[_]?=_;rw[hlen,hget,if_neg (by omega),if_pos (by omega)];rw[<-hy];show narr[_]?=narr[_]?;congr 1;omega
       have hsz':(aT aG.toList (addr+len*(n+1)) narr.toList).toArray.size=l.ext:=by simp only[ia];rw[eL _ _ _ (by grind)];simpa using hext
       have hLl:(rows.drop (off+len+new.length)).length=rows.length-(off+len+new.length):=by simp
       have hLR:cI S w (n+1) (fun i=>aG[i]?) (addr+(len+new.length)*(n+1)) (rows.drop (off+len+new.length)):=by
        have h7:=hrr.yR (addr:=addr+(len+new.length)*(n+1)) (off+len+new.length) (rows.length-(off+len+new.length)) fun h=>by have:=haddr (by omega);rw[this,di off len new.length,bA off (len+new.length)];omega
        rwa[List.take_of_length_le (by rw[hLl];omega)]at h7
       have hrows2:cI S w' (n+1) (fun i=>(aT aG.toList (addr+len*(n+1)) narr.toList).toArray[i]?) addr ((rows.drop off).take len++new++rows.drop (off+len+new.length)):=by refine qL hrows ?_;rw[hlen2];refine cI.mono hs1 ⟨hLR.1,fun i r hi j x hj=>?_⟩;obtain⟨y,hy,hd⟩:=hLR.2 i r hi j x hj;refine⟨y,?_,hd⟩;show(aT aG.toList (addr+len*(n+1)) narr.toList).toArray[_]?=_;rw[hget,if_neg (by rw[bA];omega),if_neg (by rw[hns,bA];omega)];exact hy
       have hlen3:((rows.drop off).take len++new++rows.drop (off+len+new.length)).length<=cap:=by rw[List.length_append,hlen2,hLl];omega
       have hname:=hI1.name hn ⟨l.cQ,addr,n+1,l.ext,cap⟩ (.aG (n+1) ((rows.drop off).take len++new++rows.drop (off+len+new.length))) (fun _ j b hj hb hm=>hfree j b hj hb (by rwa[CG (p2 _ fun e=>hfree j b hj hb (e▸kW j))]at hm))
        (.aG (cL n) rfl hS hK p1 hsz' (by have h8:=az (n+1) hlen3;simp only;omega) hrows2 hlen3)
       refine⟨.value _,_,_,hrun,.inl rfl,bn _,S,_,hs1,⟨fun _ h=>.inl h,(iZ _ hn).dH⟩,.c ?_,(hku (au H)▸hname).wV fun j=>o3 j⟩;have e:ext φ nxt ⟨l.cQ,addr,n+1,l.ext,cap⟩ nxt=⟨l.cQ,addr,n+1,l.ext,cap⟩:=by simp[ext]
       have:=RC.fx (S:=S) (w:=w') (Kn:=po Kn nxt (nxt+1)) (φ:=ext φ nxt ⟨l.cQ,addr,n+1,l.ext,cap⟩) (id:=nxt) (off:=0) (len:=len+new.length) (cap:=cap) (addr:=addr)
        (.inr (by omega)) hroom (by rw[e];simp) (by rw[e];exact hextc) (by rw[e];simp)
       rw[e]at this;exact this
      .--there is none
       obtain⟨old,hold,hos,hoR,hoone⟩:=rN (P:=P) (sz:=n+1) (cL n) hRc;rw[hlen]at hold hos;obtain⟨newCap,hnc,hrun⟩:=grows (some ⟨l.cQ,addr,none⟩) len cap old hv0 (by omega) hlim (fun w' hw=>hold w' hw);refine⟨.value _,_,_,hrun,.inl rfl,?_⟩
       have hD:=room_new hn (w.drawn+1) (bn _) (bf [(id,none)] (au H)) ((rows.drop off).take len++new) (old++narr++Builtin.zeroCells zv.cells (newCap-(len+new.length))) newCap hkill (by rw[hlen2];exact hnc)
        (by simp only[jD,hos,hns,zsize];rw[<-bA,<-bA];exact az _ (by omega))
        (by
         refine qL ⟨hoR.1,fun i r hi j x hj=>?_⟩ ⟨hnR.1,fun i r hi j x hj=>?_⟩
         .obtain ⟨y,hy,hd⟩:=hoR.2 i r hi j x hj;refine⟨y,?_,hd⟩;have hlt:=(bq.1 hy).1;show(old++narr++_)[_]?=_;rw[ft (by rw[jD];omega),ft hlt];exact hy
         .obtain ⟨y,hy,hd⟩:=hnR.2 i r hi j x hj;refine⟨y,?_,hd⟩;have hlt:=(bq.1 hy).1;show(old++narr++_)[_]?=_;rw[hlen,ft (by rw[jD,hos];omega),Array.getElem?_append_right (by rw[hos];omega)];rw[<-hy,hos];show narr[_]?=narr[_]?;congr 1;omega)
       rw[hlen2]at hD;obtain⟨q1,S',φ',q2,q3,q4,q5⟩:=hD;have hL0:rows.drop (off+len+new.length)=[]:=List.drop_eq_nil_of_le (by omega);exact⟨q1,S',φ',q2,q3,q4,by rw[hku,hL0,List.append_nil];exact q5⟩
     .simp at h
    .simp at h
   .simp at h
end
end Go.Ev
