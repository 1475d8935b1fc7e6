/- The model's operations, one by one, against the abstract machine's. Conditions: the relation of XEvC. -/
import Derived.Test.YtpnnnoagjcpmhaaDoorEvF
open Array renaming getElem?_append_left->bw,getElem?_eq_some_iff->be,getElem?_toList->aY,length_toList->bQ,range->kZ,size_append->dL
open Bool renaming false_eq_true->aN,not_false->dG,or_eq_true->bY
open Go renaming Call->kf
open Ieee.Format renaming read->ke
open List renaming all_eq_true->aV,getD->jl,getElem?_cons_succ->cN,getElem?_cons_zero->bO,getElem?_drop->bJ,getElem?_eq_getElem->au,getElem?_eq_some_iff->ai,getElem?_map->aD,getElem?_range->gA,getElem?_replicate->c9,getElem?_set_self->gI,getElem?_take->dY,getElem?_toArray->br,length->kY,length_cons->cF,length_nil->fI,length_replicate->cP,map_cons->aq,map_nil->aS,map_toArray->cL,mem_map->cz,mem_of_getElem?->aQ,mem_singleton->am,range->bh,replicate->az,size_toArray->cj
open Nat renaming add_assoc->ct,add_mul->bI,add_zero->cu,le_refl->ao,le_succ->bk,lt_succ_self->aT,mul_comm->ir,mul_le_mul_right->aH,mul_one->iV,succ_mul->dm,succ_pos->cY,zero_add->bG
open Option renaming getD_some->eO,map_eq_some_iff->aB,map_some->bB
open Option.some renaming inj->aa
open Prod.mk renaming inj->ad
namespace Go.Ev
abbrev uY:=FuncId->Bool×List Bool
def dF(P:Program)(fields:Array Field):List Nat->Option (List (Nat×Nat))
 |[]=>some []
 |i::r=>
  match fields[i]?,dF P fields r with
  |some f,some l=>match ew P f.type with|some n=>some ((f.offset,n)::l)|none=>none
  |_,_=>none
def mu:Nat->Value
 |0=>.slice none 0 0
 |1=>.pointer none
 |_=>.nilFunc
def uj:Nat->Operand->Bool
 |0,.const (.slice none 0 0)|1,.const (.pointer none)|2,.const .nilFunc=>true
 |_,_=>false
def Nr(P:Program)(g:TypeId->Option (List Kd)):List Field->Nat->Option (List Kd)
 |[],_=>some []
 |f::r,o=>
  if f.offset=o/\f.name≠ "_" then
   match g f.type with|some ks=>if ew P f.type=some ks.length then(match Nr P g r (o+ks.length)with|some l=>some (ks++l)|none=>none)else none|none=>none
  else none
def xH(P:Program):Nat->TypeId->Option (List Kd)
 |0,_=>none
 |d+1,t=>
  match P.underlying t with
  |some .bool=>if ew P t=some 1 then some [.b]else none
  |some (.int q)=>if ew P t=some 1 then some [.i q]else none
  |some .string=>if ew P t=some 1 then some [.s]else none
  |some (.array n e)=>match xH P d e with|some ks=>if ew P e=some ks.length/\ew P t=some (n*ks.length)then some (az n ks).flatten else none|none=>none
  |some (.struct fs)=>match Nr P (xH P d) fs.toList 0 with|some ks=>if P.stoodInHeld t=false/\ew P t=some ks.length then some ks else none|none=>none
  |_=>none
def CI(P:Program)(t:TypeId):Option Bool:=((P.info? t).bind (·.zero)).map fun|.agg _=>true|_=>false
def wF(P:Program)(k e:TypeId):Option (Bool×List Kd×Bool×List Value):=match eY P k,xH P 8 k,eY P e,f_ P e with|some ka,some ks,some va,some z=>if CI P e=some va then some (ka,ks,va,z)else none|_,_,_,_=>none
def oD(kind:Nat)(neg:Bool)(x y:Operand):K×List Operand:=if uj kind y then(.po kind neg,[x])else if uj kind x then(.po kind neg,[y])else(.fr,[])
def Ft(P:Program)(op:BinOp)(t:TypeId)(x y:Operand):K×List Operand:=
 match op with
 |.eql|.neq=>
  match P.underlying t with
  |some .bool=>(.sy (op==.neq),[x,y])
  |some (.int _)|some (.float _)|some .string=>(.xn op,[x,y])
  |some (.slice _)=>oD 0 (op==.neq) x y
  |some (.pointer _)=>oD 1 (op==.neq) x y
  |some (.func _ _ _)=>oD 2 (op==.neq) x y
  |some (.struct _)|some (.array _ _)=>match xH P 8 t with|some ks=>if P.eqGuardType P.depth t=false then(.w6 (op==.neq) ks,[x,y])else(.fr,[])|none=>(.fr,[])
  |_=>(.fr,[])
 |op=>(.xn op,[x,y])
def ju(P:Program)(e:TypeId):Bool:=match P.info? e with|some i=>decide (0<i.bytes)&&decide (i.bytes<=16384)|none=>false
def qP(P:Program)(b:Builtin)(args:List Operand)(ts:List TypeId):K×List Operand:=
 match b,ts with
 |.len,[t]=>match P.underlying t with|some .string=>(.len true,args)|some (.slice _)=>(.len false,args)|_=>(.fr,[])
 |.max,_=>(.pW true,args)
 |.min,_=>(.pW false,args)
 |.append,[s,x]=>
  match P.underlying s,P.underlying x with
  |some (.slice e),some (.slice _)=>match ew P e,f_ P e with|some (n+1),some z=>if ju P e=true/\z.length=n+1 then(.append (n+1),args)else(.fr,[])|_,_=>(.fr,[])
  |some (.slice e),some (.int _)=>match ew P e,f_ P e with|some (n+1),some z=>if ju P e=true/\z.length=n+1 then(.P5 z,args)else(.fr,[])|_,_=>(.fr,[])
  |_,_=>(.fr,[])
 |.cap,[t]=>match P.underlying t with|some (.slice _)=>(.Ki,args)|_=>(.fr,[])
 |.copy,[d,_]=>
  match P.underlying d with
  |some (.slice e)=>match ew P e with|some (n+1)=>(.copy (n+1),args)|_=>(.fr,[])
  |_=>(.fr,[])
 |.clear,[s]=>
  match P.underlying s with
  |some (.slice e)=>match ew P e,f_ P e with|some (n+1),some z=>if z.length=n+1 then(.clear z,args)else(.fr,[])|_,_=>(.fr,[])
  |_=>(.fr,[])
 |_,_=>(.fr,[])
def Jf(P:Program)(f:FuncId):Bool:=
 match P.funcs[f]?with
 |some fn=>
  !(fn.name== "runtime.NumGoroutine")&&fn.body.isNone&&(Extern.findNext fn).isNone&&(Extern.allGenericRows.lookup fn.name).isNone&&(Extern.allTypedRows.lookup fn.name).isNone&&(Extern.allRows.lookup fn.name).isNone&&fn.origin== "slices.overlaps" &&
  (match fn.params.toList with
   |t::_=>(match P.underlying t with|some (.slice e)=>(match ew P e with|some (_+1)=>true|_=>false)|_=>false)
   |[]=>false)
 |none=>false
def zS:List Value->Bool
 |[.slice none 0 0]=>true
 |_=>false
def EZ(P:Program)(da:uY)(e:TypeId)(z:List Value):Option Nat:=if(da 1000000000).1=true/\zS z=true then(match P.underlying e with|some (.slice ee)=>(match ew P ee with|some (m+1)=>some (m+1)|_=>none)|_=>none)else none
def Fy(P:Program)(da:uY)(e:TypeId)(z:List Value):Option Nat:=if(da 1000000001).1=true/\ew P e=some 1/\ju P e=true then EZ P da e z else none
def Fz(P:Program)(da:uY)(b:Builtin)(args:List Operand)(ts:List TypeId):Option (K×List Operand):=
 match b,args,ts with
 |.append,[s,x],[st,xt]=>
  match P.underlying st,P.underlying xt with
  |some (.slice el),some (.slice _)=>match f_ P el with|some z=>(match Fy P da el z with|some m=>some (.Cw m,[s,x])|none=>none)|none=>none
  |_,_=>none
 |_,_,_=>none
def Ky(P:Program)(da:uY)(e:TypeId)(z:List Value)(len:Nat)(parts:List (Nat×Operand)):Option (K×List Operand):=match len,parts with|1,[(0,x)]=>(match Fy P da e z with|some m=>some (.Hl m,[x])|none=>none)|_,_=>none
def BR(P:Program)(t:TypeId):Bool:=match P.underlying t with|some (.slice _)=>true|_=>false
def uW(P:Program)(da:uY):Op->K×List Operand
 |.move x|.assign x=>(.mv,[x])
 |.pick c a b=>(.pick,[c,a,b])
 |.alloc e=>match f_ P e with|some z=>(.alloc z,[])|none=>(.fr,[])
 |.box _ x=>(.box,[x])
 |.build t parts=>
  match P.underlying t,f_ P t with
  |some (.struct fields),some z=>match dF P fields (parts.toList.map (·.1))with|some pl=>if fields.toList.all (fun f=>(ew P f.type).isSome)then(.build z pl,parts.toList.map (·.2))else(.fr,[])|none=>(.fr,[])
  |some (.array _ e),some z=>match ew P e with|some n=>(.build z (parts.toList.map fun p=>(p.1*n,n)),parts.toList.map (·.2))|none=>(.fr,[])
  |_,_=>(.fr,[])
 |.buildSlice t len parts=>
  match P.underlying t with
  |some (.slice e)=>
   match ew P e,f_ P e with
   |some (n+1),some z=>match Ky P da e z len parts.toList with|some r=>r|none=>if len*(n+1)<=4096/\z.length=n+1 then(.buildSlice (n+1) len ((bh (len*(n+1))).map fun i=>z.getD (i %(n+1)) undef) (parts.toList.map (·.1)),parts.toList.map (·.2))else(.fr,[])
   |_,_=>(.fr,[])
  |_=>(.fr,[])
 |.load t a=>match eY P t,ew P t with|some g,some n=>(if(da 1000000000).1=true/\BR P t=true/\g=false/\n=1 then .rJ else .load g n,[a])|_,_=>(.fr,[])
 |.store t a x=>match ew P t with|some n=>(.store n,[a,x])|none=>(.fr,[])
 |.nilCheck x=>(.nilCheck,[x])
 |.binOp op t x y _=>Ft P op t x y
 |.unOp op _ x=>(.un op,[x])
 |.convert s d x=>match P.underlying s,P.underlying d with|some (.int _),some (.int k)=>(.tw k,[x])|some (.int _),some (.float k)=>(.Cg k,[x])|some .string,some .string=>(.qO,[x])|_,_=>(.fr,[])
 |.makeFunc (.func f) first captured=>if first.isEmpty then(.GD f,captured.toList)else(.fr,[])
 |.makeSlice t l c=>
  match P.underlying t with
  |some (.slice e)=>match ew P e,f_ P e with|some (n+1),some z=>if z.length=n+1/\ju P e=true then(match EZ P da e z with|some m=>.yF m|none=>.makeSlice z,[l,c])else(.fr,[])|_,_=>(.fr,[])
  |_=>(.fr,[])
 |.slice t x lo hi none=>
  match P.underlying t with
  |some .string=>(.slice true 1 lo.isSome hi.isSome,x::lo.toList++hi.toList)
  |some (.slice e)=>match ew P e with|some n=>(.slice false n lo.isSome hi.isSome,x::lo.toList++hi.toList)|none=>(.fr,[])
  |_=>(.fr,[])
 |.slice t x (some l) (some u) (some m)=>
  match P.underlying t with
  |some (.slice e)=>match ew P e with|some n=>(.zu n,[x,l,u,m])|none=>(.fr,[])
  |_=>(.fr,[])
 |.fieldAddr s x f=>
  match P.underlying s with
  |some (.struct fields)=>match fields[f]?with|some fl=>(match ew P fl.type with|some (m+1)=>(.fieldAddr fl.offset (m+1),[x])|_=>(.fr,[]))|none=>(.fr,[])
  |_=>(.fr,[])
 |.field s x f=>
  match P.underlying s with
  |some (.struct fields)=>match fields[f]?with|some fl=>(match eY P fl.type,ew P fl.type with|some g,some n=>(.field g fl.offset n,[x])|_,_=>(.fr,[]))|none=>(.fr,[])
  |_=>(.fr,[])
 |.indexAddr t x i=>
  match P.underlying t with
  |some (.slice e)=>match ew P e with|some n=>(.indexAddr none n,[x,i])|none=>(.fr,[])
  |some (.array len e)=>match ew P e with|some n=>(.indexAddr (some len) n,[x,i])|none=>(.fr,[])
  |_=>(.fr,[])
 |.index t x i=>
  match P.underlying t with
  |some .string=>(.nJ,[x,i])
  |some (.array len e)=>match eY P e,ew P e with|some g,some n=>(.index g len n,[x,i])|_,_=>(.fr,[])
  |_=>(.fr,[])
 |.extract x i=>(.extract i,[x])
 |.makeMap t none=>
  match P.underlying t with
  |some (.map k e)=>match eY P k,eY P e with|some ka,some va=>(.makeMap ka va,[])|_,_=>(.fr,[])
  |_=>(.fr,[])
 |.lookup t x ix ok=>
  match P.underlying t with
  |some (.map k e)=>match wF P k e with|some (ka,ks,va,z)=>(.lookup ka ks va z ok,[x,ix])|none=>(.fr,[])
  |_=>(.fr,[])
 |.mapEntry t m k=>
  match P.underlying t with
  |some (.map kt e)=>match wF P kt e with|some (ka,ks,va,z)=>(.mapEntry ka ks va z,[m,k])|none=>(.fr,[])
  |_=>(.fr,[])
 |.entryStore t m s x=>
  match P.underlying t with
  |some (.map kt e)=>match wF P kt e with|some (_,_,va,z)=>(.entryStore va z.length,[m,s,x])|none=>(.fr,[])
  |_=>(.fr,[])
 |.call c=>match c.callee with|.builtin b=>(match Fz P da b c.args.toList c.argTypes.toList with|some r=>r|none=>qP P b c.args.toList c.argTypes.toList)|.value (.func f)=>if(da f).2.length=9 then(if Jf P f=true then(.Pu,c.args.toList)else(.fr,[]))else(.call (da f).1 (da f).2,.func f::c.args.toList)|.value f=>(.call false [],f::c.args.toList)|.invoke _ _=>(.fr,[])
 |_=>(.fr,[])
section
variable{P:Program}{S K:Nat->Prop}{w0 w:World}{Kn:Nat->Prop}{φ:Nat->fE}{hf:Nat->Option Ob}
def jz(S K:Nat->Prop)(w0 w:World)(Kn:Nat->Prop)(φ:Nat->fE)(hf:Nat->Option Ob)(nxt n':Nat)(v:TV)(u:eG)(val:Value)(w':World):Prop:=nxt<=n'/\∃S' φ',fw S w S' w'/\Ren Kn φ (mE Kn nxt n') φ'/\eU S' w' (mE Kn nxt n') φ' v val/\Inv S' K w0 (mE Kn nxt n') φ' (bg u hf) w'
theorem eU.kn{Kn':Nat->Prop}{c:TV}{v:Value}(h:eU S w Kn φ c v)(hs:∀i,Kn i->Kn' i):eU S w Kn' φ c v:=h.mono (fw.refl _ _) ⟨hs,fun _ _=>rfl⟩
theorem jz.pure{n:Nat}{v:TV}{val:Value}(hI:Inv S K w0 Kn φ hf w)(h:eU S w Kn φ v val):jz S K w0 w Kn φ hf n n v [] val w:=⟨ao _,S,φ,fw.refl _ _,ol _ _,h.kn fun _ hi=>.inl hi,hI.kn fun _ hi=>.inl hi⟩
def cW(P:Program)(o:Oper)(ρ:Operand->Value)(S K:Nat->Prop)(w0 w:World)(Kn:Nat->Prop)(φ:Nat->fE)(hf:Nat->Option Ob)(nxt n':Nat)(v:TV)(u:eG):Prop:=∃nx val w',(execOp ρ o).run P w=.ok nx w'/\(nx=.value val\/(nx=.skip/\val=undef))/\jz S K w0 w Kn φ hf nxt n' v u val w'
theorem J2{v:Value}{tv:TV}(h:cv v=some tv):eU S w Kn φ tv v:=by
 unfold cv at h;split at h
 .rename_i cs;split at h
  .rename_i hp;obtain rfl:=aa h;refine .agg (by simp) fun i x hi=>?_;rw[aD]at hi;obtain⟨y,hy,rfl⟩:=aB.1 hi;have hlt:i<cs.size:=by simpa using(ai.1 hy).1
   have e:cs.getD i undef=y:=by rw[aY]at hy;simp[hy]
   rw[e];exact .d (.lit (aV.1 hp y (aQ hy)))
  .simp at h
 .split at h
  .rename_i hp;obtain rfl:=aa h;exact .c (.d (.lit hp))
  .simp at h
def iE.ok(S:Nat->Prop)(w:World)(Kn:Nat->Prop)(φ:Nat->fE)(e:iE)(tmps:Array Value):Prop:=∀t x,bX e t=some x->eU S w Kn φ x (tmps.getD t undef)
theorem re{e:iE}{a:Act}(hg:sE S w)(hE:iE.ok S w Kn φ e a.tmps){x:Operand}{tv:TV}(h:jq e x=some tv):eU S w Kn φ tv (a.eval x):=by
 cases x with
 |tmp t=>exact hE t tv h
 |const v=>exact J2 h
 |global g=>obtain⟨d,hd,rfl⟩:=aB.1 (show(Oe g).map (fun d=>TV.c (.d d))=some tv from h);exact .c (.d (hg g d hd))
 |func f=>
  obtain rfl:TV.c (.d (.fn f []))=tv:=by simpa[jq]using h
  exact .c (.d (.fn rfl fun j x hj=>by simp at hj))
inductive qm:Value->Value->Prop
 |lit {v:Value} (h:dP v=true):qm v v
 |nan {k:FloatKind} {n m:Nat} (hn:ve k n) (hm:ve k m):qm (.float k n) (.float k m)
 |ex {k:FloatKind} {n:Nat}:qm (.complex k n 0) (.float k n)
theorem eU.Gu{v val:Value}(h:eU S w Kn φ (.c (.d (.lit v))) val):qm v val:=by
 cases h with
 |c h=>cases h with
  |d h=>cases h with|lit h=>exact .lit h|nan hn hm=>exact .nan hn hm|ex=>exact .ex
def KR:Value->Bool
 |.float _ _|.complex _ _ _=>true
 |_=>false
theorem eU.lit{v val:Value}(h:eU S w Kn φ (.c (.d (.lit v))) val)(hf:KR v=false:=by rfl):val=v/\dP v=true:=by cases h.Gu with|lit hp=>exact⟨rfl,hp⟩|nan=>cases hf|ex=>cases hf
theorem eU.DD{v val:Value}(h:qm v val):eU S w Kn φ (lv v) val:=by cases h with|lit h=>exact .c (.d (.lit h))|nan hn hm=>exact .c (.d (.nan hn hm))|ex=>exact .c (.d .ex)
theorem ve.eq{k:FloatKind}{n:Nat}(h:ve k n):∃s t,k.format.read n=.nan s t:=by
 unfold ve Ieee.Datum.isNaN at h;split at h
 .exact ⟨_,_,by assumption⟩
 .cases h
theorem E3{k:FloatKind}{n:Nat}(h:ve k n)(y:Nat):k.format.add n y=none/\k.format.sub n y=none/\k.format.mul n y=none/\k.format.div n y=none/\k.format.order n y=none:=by obtain⟨s,t,h⟩:=h.eq;simp[Ieee.Format.add,Ieee.Format.sub,Ieee.Format.mul,Ieee.Format.div,Ieee.Format.order,h,Ieee.Datum.sum,Ieee.Datum.product,Ieee.Datum.quotient,Ieee.Datum.order]
theorem E2{k:FloatKind}{n:Nat}(h:ve k n)(y:Nat):k.format.add y n=none/\k.format.sub y n=none/\k.format.mul y n=none/\k.format.div y n=none/\k.format.order y n=none:=by obtain⟨s,t,h⟩:=h.eq;cases hy:k.format.read y<;>simp[Ieee.Format.add,Ieee.Format.sub,Ieee.Format.mul,Ieee.Format.div,Ieee.Format.order,h,hy,Ieee.Datum.opposite,Ieee.Datum.sum,Ieee.Datum.product,Ieee.Datum.quotient,Ieee.Datum.order]
theorem Ko{op:BinOp}{k:FloatKind}{n m:Nat}(hn:ve k n)(hm:ve k m)(y:Value):l6 op (.float k n) y=l6 op (.float k m) y:=by cases y with|float k' y=>unfold l6 mL zK;obtain⟨a1,a2,a3,a4,a5⟩:=E3 hn y;obtain⟨b1,b2,b3,b4,b5⟩:=E3 hm y;simp only[a1,a2,a3,a4,a5,b1,b2,b3,b4,b5]|_=>rfl
theorem Km{op:BinOp}{k:FloatKind}{n m:Nat}(hn:ve k n)(hm:ve k m)(y:Value):l6 op y (.float k n)=l6 op y (.float k m):=by
 cases y with
 |float k' y=>
  by_cases hk:k'=k
  .subst hk;unfold l6 mL zK;obtain⟨a1,a2,a3,a4,a5⟩:=E2 hn y;obtain⟨b1,b2,b3,b4,b5⟩:=E2 hm y;simp only[a1,a2,a3,a4,a5,b1,b2,b3,b4,b5]
  .unfold l6 mL zK;simp only[if_neg hk]
 |_=>rfl
theorem En{op:BinOp}{a b va vb v:Value}(ha:qm a va)(hb:qm b vb)(h:l6 op a b=some v):l6 op va vb=some v:=by
 cases ha with
 |ex=>cases hb<;>(unfold l6 mL zK at h;cases h)
 |lit _=>cases hb with|lit _=>exact h|nan hn hm=>rw[<-Km hn hm];exact h|ex=>exfalso;unfold l6 mL zK at h;cases a<;>cases h
 |nan hn hm=>cases hb with|lit _=>rw[<-Ko hn hm];exact h|nan hn' hm'=>rw[<-Ko hn hm,<-Km hn' hm'];exact h|ex=>unfold l6 mL zK at h;cases h
theorem E_(k:FloatKind)(x y t:Nat):ve k ((Question.nanBits k x y).cut t):=by
 cases k with
 |f32=>
  show((ke Ieee.single) ((t %2)*2^31+0x7f800000+1+(t/2) %(2^23-1))).isNaN=true;have h1:((t %2)*2^31+0x7f800000+1+(t/2) %(2^23-1)) %2147483648=0x7f800001+(t/2) %8388607:=by omega
  unfold ke;show(Ieee.Datum.isNaN (if((t %2)*2^31+0x7f800000+1+(t/2) %(2^23-1)) %2147483648<8388608 then _ else if((t %2)*2^31+0x7f800000+1+(t/2) %(2^23-1)) %2147483648<2139095040 then _ else if((t %2)*2^31+0x7f800000+1+(t/2) %(2^23-1)) %2147483648=2139095040 then _ else _))=true;rw[h1,if_neg (by omega),if_neg (by omega),if_neg (by omega)];rfl
 |f64=>
  show((ke Ieee.double) ((t %2)*2^63+0x7ff0000000000000+1+(t/2) %(2^52-1))).isNaN=true;have h1:((t %2)*2^63+0x7ff0000000000000+1+(t/2) %(2^52-1)) %9223372036854775808=0x7ff0000000000001+(t/2) %4503599627370495:=by omega
  unfold ke;show(Ieee.Datum.isNaN (if((t %2)*2^63+0x7ff0000000000000+1+(t/2) %(2^52-1)) %9223372036854775808<4503599627370496 then _ else if((t %2)*2^63+0x7ff0000000000000+1+(t/2) %(2^52-1)) %9223372036854775808<9218868437227405312 then _ else if((t %2)*2^63+0x7ff0000000000000+1+(t/2) %(2^52-1)) %9223372036854775808=9218868437227405312 then _ else _))=true;rw[h1,if_neg (by omega),if_neg (by omega),if_neg (by omega)];rfl
theorem BS(k:FloatKind):ve k (rz k):=by cases k<;>(unfold ve;decide)
theorem eU.oM{v:Value}(h:dP v=true):eU S w Kn φ (lv v) v:=.c (.d (.lit h))
theorem H_{op:BinOp}{t:TypeId}{x y v:Value}(h:mL op x y=some v):(binOp op t x y).run P w=.ok v w/\dP v=true/\(∀a b,(eqGuard op t a b x y).run P w=.ok () w):=by
 have hg:∀a b,(match x,y with|.nilIface,.nilIface=>False|.agg _,.agg _=>False|_,_=>True)->(eqGuard op t a b x y).run P w=.ok () w:=by intro a b hxy;unfold eqGuard;cases op<;>simp<;>(cases x<;>cases y<;>simp_all)
 unfold mL at h;split at h
 .rename_i k a k' b;refine(fun⟨h1,h2⟩=>⟨h1,h2,fun a b=>hg a b trivial⟩:(_/\_)->_) ?_;split at h
  .split at h
   .simp at h
   .rename_i hb;obtain rfl:=aa h;simp[binOp,Op.shift,hb,dP]
  .split at h
   .simp at h
   .rename_i hb;obtain rfl:=aa h;simp[binOp,Op.shift,hb,dP]
  .rename_i op hshl hshr;split at h
   .rename_i hk;subst hk
    split at h<;>first
     |(simp at h;done)
     |(split at h
       .simp at h
       .rename_i hb;obtain rfl:=aa h;simp[binOp,Op.intDiv,hb,dP])
     |(obtain rfl:=aa h
       simp[binOp,Op.intArith,Op.intBits,Op.intCmp,dP])
   .simp at h
 .rename_i k a k' b;refine(fun⟨h1,h2⟩=>⟨h1,h2,fun a b=>hg a b trivial⟩:(_/\_)->_) ?_;split at h
  .rename_i hk;subst hk
   split at h<;>first
    |(simp at h;done)
    |(obtain⟨r,hr,rfl⟩:=aB.1 h
      simp[binOp,Op.floatArith,hr,dP])
    |(obtain rfl:=aa h
      simp[binOp,Op.floatCmp,dP])
  .simp at h
 .rename_i x y;refine(fun⟨h1,h2⟩=>⟨h1,h2,fun a b=>hg a b trivial⟩:(_/\_)->_) ?_
  split at h<;>first
   |(simp at h;done)
   |(split at h
     .simp at h
     .rename_i hb;obtain rfl:=aa h;refine⟨?_,rfl⟩;simp only[binOp,Op.stringOp,if_neg hb,Sem.run_pure])
   |(obtain rfl:=aa h
     simp[binOp,Op.stringOp,dP])
 .simp at h
theorem Ia{op:BinOp}{t:TypeId}{x y v:Value}(h:l6 op x y=some v):∃v' n,(binOp op t x y).run P w=.ok v' {w with drawn:=n}/\w.drawn<=n/\qm v v'/\(∀a b,(eqGuard op t a b x y).run P w=.ok () w):=by
 unfold l6 at h;split at h
 .rename_i z hz;obtain rfl:=aa h;obtain⟨h1,h2,h3⟩:=H_ (P:=P) (w:=w) (t:=t) hz;exact⟨_,w.drawn,h1,ao _,.lit h2,h3⟩
 .rename_i hz;clear hz;unfold zK at h;split at h
  .rename_i k a k' b;split at h
   .rename_i hk;subst hk
    have key:∀op',(op'=.add\/op'=.sub\/op'=.mul\/op'=.quo)->op=op'->(Op.floatArith op k a b=(do pure (.float k (<-choose (.nanBits k a b)))))->some (Value.float k (rz k))=some v->
      ∃v' n,(binOp op t (.float k a) (.float k b)).run P w=.ok v' {w with drawn:=n}/\w.drawn<=n/\qm v v'/\(∀x y,(eqGuard op t x y (.float k a) (.float k b)).run P w=.ok () w):=by
     intro op' ho he hf hv;obtain rfl:=aa hv;refine⟨.float k ((Question.nanBits k a b).cut (w.tape w.drawn (.nanBits k a b))),w.drawn+1,?_,bk _,.nan (BS k) (E_ _ _ _ _),?_⟩
     .have e:binOp op t (.float k a) (.float k b)=Op.floatArith op k a b:=by subst he;rcases ho with rfl|rfl|rfl|rfl<;>simp[binOp]
      rw[e,hf];simp[run_choose,Question.forced]
     .intro x y;subst he;rcases ho with rfl|rfl|rfl|rfl<;>simp[eqGuard]
    split at h
    .split at h
     .rename_i e;exact key .add (by simp) rfl (by unfold Op.floatArith;simp[e]) h
     .cases h
    .split at h
     .rename_i e;exact key .sub (by simp) rfl (by unfold Op.floatArith;simp[e]) h
     .cases h
    .split at h
     .rename_i e;exact key .mul (by simp) rfl (by unfold Op.floatArith;simp[e]) h
     .cases h
    .split at h
     .rename_i e;exact key .quo (by simp) rfl (by unfold Op.floatArith;simp[e]) h
     .cases h
    .cases h
   .cases h
  .cases h
theorem EL{op:UnOp}{x v:Value}(h:No op x=some v):(Op.unary op x).run P w=.ok v w/\dP v=true:=by
 unfold No at h;split at h
 .split at h
  .obtain rfl:=aa h;simp[Op.unary,dP]
  .simp at h
 .split at h
  .obtain rfl:=aa h;simp[Op.unary,Op.intArith,dP]
  .obtain rfl:=aa h;simp[Op.unary,Op.intBits,dP]
  .simp at h
 .split at h
  .obtain rfl:=aa h;simp[Op.unary,dP]
  .simp at h
 .simp at h
end
section
variable{P:Program}{S K:Nat->Prop}{w0 w:World}{Kn:Nat->Prop}{φ:Nat->fE}{H:bz}{e:iE}{ρ:Operand->Value}{o:Oper}{call:Call}
 {nxt n':Nat} {v:TV} {u:eG} {aw:List Nat}
theorem jM(j:Nat):(Kn j\/j=nxt)<->mE Kn nxt (nxt+1) j:=by
 unfold mE;constructor
 .rintro (h|rfl)
  .exact .inl h
  .exact .inr (by omega)
 .rintro (h|h)
  .exact .inl h
  .exact .inr (by omega)
theorem sY(hI:Inv S K w0 Kn φ (av H) w):¬S w.heap.size/\¬K w.heap.size:=⟨fun h=>Nat.lt_irrefl _ (hI.qZ _ h),fun h=>by have:=hI.lG.DO _ h;have:=hI.lG.grow;omega⟩
theorem jz.box{hf:Nat->Option Ob}(hI:Inv S K w0 Kn φ (av H) w)(hh:hf=av H)(hn:¬Kn nxt){cs:List C}{aJ:Array Value}(t:TypeId)(hlen:cs.length=aJ.size)
  (h:∀(i:Nat)(x:C),cs[i]?=some x->RC S w Kn φ x (aJ.getD i undef)):
  jz S K w0 w Kn φ hf nxt (nxt+1) (.c (.op nxt 0)) [(nxt,some (.box cs))] (.pointer (some ⟨w.heap.size,0,none⟩)) {w with heap:=w.heap.push (.cells aJ t)}:=by
 subst hh;obtain⟨nS,nK⟩:=sY hI;have hs:=fw.push (w:=w) hI.qZ (.cells aJ t);refine⟨bk _,S,_,hs,⟨fun _ h=>.inl h,(fW _ hn).dw⟩,.c ?_,(hI.alloc hn aJ t 1 0 (.box cs) (.box rfl nS nK (qD w aJ t) hlen fun i x hi=>(h i x hi).mono hs (fW _ hn))).rC fun j=>jM j⟩;have:=RC.op (S:=S) (w:={w with heap:=w.heap.push (.cells aJ t)}) (Kn:=mE Kn nxt (nxt+1)) (φ:=ext φ nxt ⟨w.heap.size,0,1,aJ.size,0⟩) (id:=nxt) (off:=0) (.inr (by omega));simpa[ext]using this
theorem jz.aJ{hf:Nat->Option Ob}(hI:Inv S K w0 Kn φ hf w)(hn:¬Kn nxt){sz cap:Nat}{aj:List (List D)}{aJ:Array Value}(t:TypeId)(hsz:0<sz)
  (hcap:aj.length<=cap) (hfit:cap*sz<=aJ.size) (h:cD S w sz (fun i=>aJ[i]?) 0 aj):
  jz S K w0 w Kn φ hf nxt (nxt+1) (.c (.dz sz nxt 0 aj.length)) [(nxt,some (.aJ sz aj))] (.slice (some ⟨w.heap.size,0,none⟩) aj.length cap) {w with heap:=w.heap.push (.cells aJ t)}:=by
 have nS:¬S w.heap.size:=fun h=>Nat.lt_irrefl _ (hI.qZ _ h);have nK:¬K w.heap.size:=fun h=>by have:=hI.lG.DO _ h;have:=hI.lG.grow;omega
 have hs:=fw.push (w:=w) hI.qZ (.cells aJ t);have hrl:aj.length*sz<=cap*sz:=aH _ hcap;refine⟨bk _,S,_,hs,⟨fun _ h=>.inl h,(fW _ hn).dw⟩,.c ?_,(hI.alloc hn aJ t sz cap (.aJ sz aj) (.aJ hsz rfl nS nK (qD w aJ t) rfl (by simp only;omega) (h.mono hs) hcap)).rC fun j=>jM j⟩;have e:ext φ nxt ⟨w.heap.size,0,sz,aJ.size,cap⟩ nxt=⟨w.heap.size,0,sz,aJ.size,cap⟩:=by simp[ext]
 have:=RC.dz (S:=S) (w:={w with heap:=w.heap.push (.cells aJ t)}) (Kn:=mE Kn nxt (nxt+1)) (φ:=ext φ nxt ⟨w.heap.size,0,sz,aJ.size,cap⟩) (id:=nxt) (off:=0) (len:=aj.length) (cap:=cap) (addr:=0)
  (.inr (by omega)) hcap (by rw[e];simp) (by rw[e];simpa using hfit) (by rw[e];simp)
 rw[e]at this;simpa using this
theorem v_(t:TypeId)(val:Value):(newVar t val).run P w=.ok ⟨w.heap.size,0,none⟩ {w with heap:=w.heap.push (.cells val.cells t)}:=by simp[newVar,newRow,newObj,Sem.run]
theorem I2{z:List Value}{aJ:Array Value}(hz:aJ.toList=z)(hp:∀x∈z,dP x=true):(eJ z).length=aJ.size/\∀(i:Nat)(x:C),(eJ z)[i]?=some x->RC S w Kn φ x (aJ.getD i undef):=by
 subst hz;refine⟨by simp[eJ],fun i x hi=>?_⟩;simp only[eJ,aD]at hi;obtain⟨y,hy,rfl⟩:=aB.1 hi;have e:aJ.getD i undef=y:=by rw[aY]at hy;simp[hy]
 rw[e];exact .d (.lit (hp y (aQ hy)))
theorem IE{t:TypeId}{z:List Value}(ho:o.op=.alloc t)(hz:f_ P t=some z)(hI:Inv S K w0 Kn φ (av H) w)(hn0:nxt<n'->¬Kn nxt)
  (h:cm call (.alloc z) [] H nxt=some (v,u,aw,n')):cW P o ρ S K w0 w Kn φ (av H) nxt n' v u:=by
 obtain⟨rfl,rfl,rfl,rfl⟩:TV.c (.op nxt 0)=v/\[(nxt,some (.box (eJ z)))]=u/\[]=aw/\nxt+1=n':=by simpa[cm]using h
 have hn:=hn0 (aT _);obtain⟨val,hv,hc,hp⟩:=kr hz w;obtain⟨h1,h2⟩:=I2 (S:=S) (w:=w) (Kn:=Kn) (φ:=φ) hc hp;refine⟨.value _,_,_,?_,.inl rfl,jz.box hI rfl hn t h1 h2⟩;simp[execOp,ho,Instr.alloc,hv,v_]
theorem NN{t:TypeId}{x:Operand}(ho:o.op=.box t x)(hI:Inv S K w0 Kn φ (av H) w)(hn0:nxt<n'->¬Kn nxt){tv:Option TV}(hx:∀y,tv=some y->eU S w Kn φ y (ρ x))
  (h:cm call .box [tv] H nxt=some (v,u,aw,n')):cW P o ρ S K w0 w Kn φ (av H) nxt n' v u:=by
 cases tv with
 |none=>simp[cm]at h
 |some y=>
  simp only[cm]at h;split at h
  .rename_i cs hcs;obtain⟨rfl,rfl,rfl,rfl⟩:TV.c (.op nxt 0)=v/\[(nxt,some (.box cs))]=u/\[]=aw/\nxt+1=n':=by simpa using h
   have hn:=hn0 (aT _);obtain⟨h1,h2,_⟩:=(hx y rfl).cells hcs;refine⟨.value _,_,_,?_,.inl rfl,jz.box hI rfl hn t h1 h2⟩;simp[execOp,ho,Instr.box,v_]
  .simp at h
theorem F1{t:TypeId}{agg:Bool}{n:Nat}(ha:eY P t=some agg)(hs:ew P t=some n)(hI:Inv S K w0 Kn φ (av H) w){p:C}{pv:Value}(hp:RC S w Kn φ p pv)(hn0:nxt<n'->¬Kn nxt)
  (h:j7 agg n p H nxt=some (v,u,aw,n')):∃val,(Instr.loadAt t pv).run P w=.ok val w/\jz S K w0 w Kn φ (av H) nxt n' v u val w:=by
 unfold j7 at h;split at h
 case h_2=>simp at h
 rename_i id cC;split at h
 case h_2=>simp at h
 rename_i sz slots ho;split at h
 case isFalse=>simp at h
 rename_i hag;obtain⟨rfl,rfl⟩:=hag;obtain⟨hk,hro⟩:=hI.gg id _ ho;have hl:(φ id).sz=1:=by cases hro with|nst hsz hl=>exact hl
 cases hp with
 |ep hk'=>
  have ea:(⟨(φ id).bA,(φ id).aL+cC*(φ id).sz+0,none⟩:Addr)=⟨(φ id).bA,(φ id).aL+cC,none⟩:=by rw[hl,iV,cu]
  rw[ea];split at h
  .rename_i hsl;obtain⟨rfl,rfl,rfl,rfl⟩:TV.c (.d (.lit (.slice none 0 0)))=v/\[]=u/\[id]=aw/\nxt=n':=by simpa using h
   cases hro with
   |nst hsz hl hS hK hown hext hfit hr hv=>
    obtain⟨x,h1,h2⟩:=hr cC _ hsl;cases h2
    obtain⟨val,q1,q2⟩:=tZ (S:=S) (Kn:=Kn) (φ:=φ) ha hs (cells:=[.d (.lit (.slice none 0 0))]) (b:=(φ id).bA) (o:=(φ id).aL+cC) (fun j x hj=>by
     cases j with
     |succ j=>simp at hj
     |zero=>
      obtain rfl:C.d (.lit (.slice none 0 0))=x:=by simpa using hj
      exact⟨_,(hown.cell _).trans h1,.d (.lit rfl)⟩) (v:=TV.c (.d (.lit (.slice none 0 0)))) rfl
    exact⟨val,by simp[Instr.loadAt,Instr.sureAddr,q1],jz.pure hI q2⟩
  .rename_i aj hsl;obtain⟨rfl,rfl,rfl,rfl⟩:TV.c (.dz sz nxt 0 aj.length)=v/\[(nxt,some (Ob.aJ sz aj)),(id,some (Ob.nst sz (slots.set cC (.jZ nxt aj.length))))]=u/\[id]=aw/\nxt+1=n':=by simpa using h
   have hn:=hn0 (aT _);obtain⟨l,x,h1,h2,h3⟩:=hI.split ho hsl hn
   obtain⟨val,q1,q2⟩:=tZ (S:=S) (Kn:=fun j=>Kn j\/j=nxt) (φ:=ext φ nxt l) ha hs (cells:=[.dz sz nxt 0 aj.length]) (b:=(φ id).bA) (o:=(φ id).aL+cC) (fun j x' hj=>by
     cases j with
     |succ j=>simp at hj
     |zero=>
      obtain rfl:C.dz sz nxt 0 aj.length=x':=by simpa using hj
      exact⟨x,h1,h2⟩) (v:=TV.c (.dz sz nxt 0 aj.length)) rfl
   refine⟨val,by simp[Instr.loadAt,Instr.sureAddr,q1],bk _,S,ext φ nxt l,fw.refl _ _,⟨fun i hi=>.inl hi,(fW l hn).dw⟩,q2.kn fun i=>(jM i).1,h3.rC fun i=>jM i⟩
  .simp at h
theorem ET{t:TypeId}{x:Operand}{agg:Bool}{n:Nat}(ho:o.op=.load t x)(ha:eY P t=some agg)(hs:ew P t=some n)(hI:Inv S K w0 Kn φ (av H) w)
  {tv:Option TV} (hx:∀y,tv=some y->eU S w Kn φ y (ρ x)) (h:cm call (.load agg n) [tv] H nxt=some (v,u,aw,n')):cW P o ρ S K w0 w Kn φ (av H) nxt n' v u:=by
 cases tv with
 |none=>simp[cm]at h
 |some y=>
  cases y with
  |c p=>
   change (match ge agg n p H with|some (v,aw)=>some (v,[],aw,nxt)|none=>none)=_ at h;split at h
   .rename_i v' ids' hl;obtain⟨rfl,rfl,rfl,rfl⟩:v'=v/\[]=u/\ids'=aw/\nxt=n':=by simpa using h
    cases hx _ rfl with|c hp=>obtain⟨val,h1,h2⟩:=wd ha hs hI hp hl;refine⟨.value _,_,_,?_,.inl rfl,jz.pure hI h2⟩;simp[execOp,ho,h1]
   .simp at h
  |_=>simp[cm]at h
theorem Iu{t:TypeId}{x:Operand}(ho:o.op=.load t x)(ha:eY P t=some false)(hs:ew P t=some 1)(hI:Inv S K w0 Kn φ (av H) w)(hn0:nxt<n'->¬Kn nxt)
  {tv:Option TV} (hx:∀y,tv=some y->eU S w Kn φ y (ρ x)) (h:cm call .rJ [tv] H nxt=some (v,u,aw,n')):cW P o ρ S K w0 w Kn φ (av H) nxt n' v u:=by
 cases tv with
 |none=>simp[cm]at h
 |some y=>
  cases y with
  |c p=>
   change (match ge false 1 p H with|some (v,aw)=>some (v,[],aw,nxt)|none=>j7 false 1 p H nxt)=_ at h;split at h
   .rename_i v' ids' hl;exact ET (call:=call) ho ha hs hI (tv:=some (.c p)) hx (by show(match ge false 1 p H with|some (v,aw)=>some (v,[],aw,nxt)|none=>none)=_;rw[hl];exact h)
   .cases hx _ rfl with|c hp=>obtain⟨val,h1,h2⟩:=F1 ha hs hI hp hn0 h;refine⟨.value _,_,_,?_,.inl rfl,h2⟩;simp[execOp,ho,h1]
  |_=>simp[cm]at h
theorem cW.pure{val:Value}(hI:Inv S K w0 Kn φ (av H) w)(hr:(execOp ρ o).run P w=.ok (.value val) w)(h:eU S w Kn φ v val):cW P o ρ S K w0 w Kn φ (av H) nxt nxt v []:=⟨.value val,val,w,hr,.inl rfl,jz.pure hI h⟩
theorem MQ{x:Operand}(ho:o.op=.move x\/o.op=.assign x)(hI:Inv S K w0 Kn φ (av H) w){tv:Option TV}(hx:∀y,tv=some y->eU S w Kn φ y (ρ x))
  (h:cm call .mv [tv] H nxt=some (v,u,aw,n')):cW P o ρ S K w0 w Kn φ (av H) nxt n' v u:=by
 cases tv with
 |none=>simp[cm]at h
 |some y=>
  obtain⟨rfl,rfl,rfl,rfl⟩:y=v/\[]=u/\[]=aw/\nxt=n':=by simpa[cm]using h
  refine cW.pure hI ?_ (hx _ rfl);rcases ho with ho|ho<;>simp[execOp,ho]
theorem LF{c x y:Operand}(ho:o.op=.pick c x y)(hI:Inv S K w0 Kn φ (av H) w){tc tx ty:Option TV}(hc:∀z,tc=some z->eU S w Kn φ z (ρ c))
  (hx:∀z,tx=some z->eU S w Kn φ z (ρ x)) (hy:∀z,ty=some z->eU S w Kn φ z (ρ y))
  (h:cm call .pick [tc,tx,ty] H nxt=some (v,u,aw,n')):cW P o ρ S K w0 w Kn φ (av H) nxt n' v u:=by
 match tc,h,hc with
 |some (.c (.d (.lit (.bool b)))),h,hc=>
  change (match(if b then tx else ty)with|some v=>some (v,[],[],nxt)|none=>none)=_ at h;obtain⟨hb,_⟩:=(hc _ rfl).lit;cases b
  .simp only[aN,if_false]at h;cases ty with
   |none=>simp at h
   |some z=>
    obtain⟨rfl,rfl,rfl,rfl⟩:z=v/\[]=u/\[]=aw/\nxt=n':=by simpa using h
    exact cW.pure hI (by simp[execOp,ho,hb,asBool]) (hy _ rfl)
  .simp only[if_true]at h;cases tx with
   |none=>simp at h
   |some z=>
    obtain⟨rfl,rfl,rfl,rfl⟩:z=v/\[]=u/\[]=aw/\nxt=n':=by simpa using h
    exact cW.pure hI (by simp[execOp,ho,hb,asBool]) (hx _ rfl)
theorem Bq{x:Operand}(ho:o.op=.nilCheck x)(hI:Inv S K w0 Kn φ (av H) w){tv:Option TV}(hx:∀y,tv=some y->eU S w Kn φ y (ρ x))
  (h:cm call .nilCheck [tv] H nxt=some (v,u,aw,n')):cW P o ρ S K w0 w Kn φ (av H) nxt n' v u:=by
 match tv,h,hx with
 |some (.c c),h,hx=>
  have key:(∃a,ρ x=.pointer (some a))\/(∃g vs,ρ x=.func (.func g) #[] vs)->some (TV.c c,([]:eG),([]:List Nat),nxt)=some (v,u,aw,n')->cW P o ρ S K w0 w Kn φ (av H) nxt n' v u:=by
   intro hc h;obtain⟨rfl,rfl,rfl,rfl⟩:TV.c c=v/\[]=u/\[]=aw/\nxt=n':=by simpa using h
   refine cW.pure hI ?_ (hx _ rfl);rcases hc with⟨a,hc⟩|⟨g,vs,hc⟩<;>simp[execOp,ho,hc]
  have hr:=hx _ rfl;generalize hv0:ρ x=val at hr;cases hr with
  |c hr=>
   cases hr with
   |d hd=>cases hd with|lit hp=>simp[cm]at h|nan=>simp[cm]at h|ex=>simp[cm]at h|sl=>simp[cm]at h|q9=>simp[cm]at h|pt f hb=>exact key (.inl ⟨_,hv0⟩) h|fn hl hr=>exact key (.inr ⟨_,_,hv0⟩) h
   |dz=>simp[cm]at h
   |ep hk=>exact key (.inl ⟨_,hv0⟩) h
   |op hk=>exact key (.inl ⟨_,hv0⟩) h
   |mP hl hr=>exact key (.inr ⟨_,_,hv0⟩) h
   |om hk=>simp[cm]at h
theorem Jh{k:FloatKind}{n m:Nat}(h:n %k.format.signWeight=m %k.format.signWeight)(hn:ve k n):ve k m:=by
 unfold ve ke at*;rw[h]at hn;dsimp only at hn|-;split at hn
 .cases hn
 .rw [if_neg (by assumption)];split at hn
  .cases hn
  .rw [if_neg (by assumption)];split at hn
   .cases hn
   .rw [if_neg (by assumption)];rfl
theorem BA{k:FloatKind}{n:Nat}(h:ve k n):ve k (Op.negFloat k n):=by refine Jh ?_ h;unfold Op.negFloat Ieee.Format.signWeight;rw[Nat.xor_mod_two_pow,Nat.mod_self,Nat.xor_zero]
theorem FJ{op:UnOp}{a va v:Value}(ha:qm a va)(h:No op a=some v):∃v',No op va=some v'/\qm v v':=by
 cases ha with
 |lit _=>exact⟨v,h,.lit (EL (P:=default) (w:=default) h).2⟩
 |ex=>cases h
 |nan hn hm=>unfold No at h|-;cases op with|neg=>obtain rfl:=aa h;exact⟨_,rfl,.nan (BA hn) (BA hm)⟩|_=>cases h
theorem Pw{t:TypeId}{op:UnOp}{x:Operand}(ho:o.op=.unOp op t x)(hI:Inv S K w0 Kn φ (av H) w){tv:Option TV}(hx:∀y,tv=some y->eU S w Kn φ y (ρ x))
  (h:cm call (.un op) [tv] H nxt=some (v,u,aw,n')):cW P o ρ S K w0 w Kn φ (av H) nxt n' v u:=by
 match tv,h,hx with
 |some (.c (.d (.lit z))),h,hx=>
  change (match No op z with|some v=>some (lv v,[],[],nxt)|none=>none)=_ at h;split at h
  .rename_i r hr;obtain⟨rfl,rfl,rfl,rfl⟩:lv r=v/\[]=u/\[]=aw/\nxt=n':=by simpa using h
   obtain⟨r',h3,h4⟩:=FJ (hx _ rfl).Gu hr;obtain⟨h1,h2⟩:=EL (P:=P) (w:=w) h3;exact cW.pure hI (by simp[execOp,ho,h1]) (.DD h4)
  .simp at h
theorem NO{t ty:TypeId}{op:BinOp}{x y:Operand}(ho:o.op=.binOp op t x y ty)(hI:Inv S K w0 Kn φ (av H) w){tx tz:Option TV}(hx:∀z,tx=some z->eU S w Kn φ z (ρ x))
  (hy:∀z,tz=some z->eU S w Kn φ z (ρ y)) (h:cm call (.xn op) [tx,tz] H nxt=some (v,u,aw,n')):cW P o ρ S K w0 w Kn φ (av H) nxt n' v u:=by
 match tx,tz,h,hx,hy with
 |some (.c (.d (.lit a))),some (.c (.d (.lit b))),h,hx,hy=>
  change (match l6 op a b with|some v=>some (lv v,[],[],nxt)|none=>none)=_ at h;split at h
  .rename_i r hr;obtain⟨rfl,rfl,rfl,rfl⟩:lv r=v/\[]=u/\[]=aw/\nxt=n':=by simpa using h
   have hr:=En (hx _ rfl).Gu (hy _ rfl).Gu hr;obtain⟨r',n,h1,hle,h4,h3⟩:=Ia (P:=P) (w:=w) (t:=t) hr;exact⟨.value r',r',_,by simp[execOp,ho,h1,h3],.inl rfl,ao _,S,φ,fw.pu _ _ _,ol _ _,.DD h4,(hI.pu n hle).kn fun _ hi=>.inl hi⟩
  .simp at h
theorem we{t:TypeId}(hu:P.underlying t=some .bool)(a b:Bool):(Op.equal t (.bool a) (.bool b)).run P w=.ok (a==b) w:=by show(Op.equalIn (9999+1) t (.bool a) (.bool b)).run P w=_;unfold Op.equalIn;rw[Sem.run_bind,bE hu];rfl
theorem Gn{t ty:TypeId}{op:BinOp}{x y:Operand}(ho:o.op=.binOp op t x y ty)(hop:op=.eql\/op=.neq)(hu:P.underlying t=some .bool)(hI:Inv S K w0 Kn φ (av H) w)
  {tx tz:Option TV} (hx:∀z,tx=some z->eU S w Kn φ z (ρ x)) (hy:∀z,tz=some z->eU S w Kn φ z (ρ y))
  (h:cm call (.sy (op==.neq)) [tx,tz] H nxt=some (v,u,aw,n')):cW P o ρ S K w0 w Kn φ (av H) nxt n' v u:=by
 match tx,tz,h,hx,hy with
 |some (.c (.d (.lit (.bool a)))),some (.c (.d (.lit (.bool b)))),h,hx,hy=>
  obtain⟨ha,_⟩:=(hx _ rfl).lit;obtain⟨hb,_⟩:=(hy _ rfl).lit;change some (lv (.bool (if(op==.neq)then !(a==b)else a==b)),([]:eG),([]:List Nat),nxt)=_ at h;obtain⟨rfl,rfl,rfl,rfl⟩:lv (.bool (if(op==.neq)then !(a==b)else a==b))=v/\[]=u/\[]=aw/\nxt=n':=by simpa using h
  refine cW.pure hI ?_ (.oM rfl);rcases hop with rfl|rfl
  .simp [execOp,ho,ha,hb,eqGuard,binOp,we hu]
  .simp [execOp,ho,ha,hb,eqGuard,binOp,we hu]
theorem DC{s d:TypeId}{k k':IntKind}{x:Operand}(ho:o.op=.convert s d x)(hs:P.underlying s=some (.int k'))(hd:P.underlying d=some (.int k))(hI:Inv S K w0 Kn φ (av H) w)
  {tv:Option TV} (hx:∀y,tv=some y->eU S w Kn φ y (ρ x)) (h:cm call (.tw k) [tv] H nxt=some (v,u,aw,n')):cW P o ρ S K w0 w Kn φ (av H) nxt n' v u:=by
 match tv,h,hx with
 |some (.c (.d (.lit (.int k0 n)))),h,hx=>
  obtain⟨ha,_⟩:=(hx _ rfl).lit;obtain⟨rfl,rfl,rfl,rfl⟩:lv (.int k (k.wrap n))=v/\[]=u/\[]=aw/\nxt=n':=by simpa[cm]using h
  exact cW.pure hI (by simp[execOp,ho,ha,convert,bE hs,bE hd,Conv.intToInt]) (.oM rfl)
theorem Iz{s d:TypeId}{k':IntKind}{k:FloatKind}{x:Operand}(ho:o.op=.convert s d x)(hs:P.underlying s=some (.int k'))(hd:P.underlying d=some (.float k))(hI:Inv S K w0 Kn φ (av H) w)
  {tv:Option TV} (hx:∀y,tv=some y->eU S w Kn φ y (ρ x)) (h:cm call (.Cg k) [tv] H nxt=some (v,u,aw,n')):cW P o ρ S K w0 w Kn φ (av H) nxt n' v u:=by
 match tv,h,hx with
 |some (.c (.d (.lit (.int k0 n)))),h,hx=>
  obtain⟨ha,_⟩:=(hx _ rfl).lit;obtain⟨rfl,rfl,rfl,rfl⟩:lv (.float k (k.nearest n))=v/\[]=u/\[]=aw/\nxt=n':=by simpa[cm]using h
  exact cW.pure hI (by simp[execOp,ho,ha,convert,bE hs,bE hd,Conv.intToFloat]) (.oM rfl)
theorem Bv{s d:TypeId}{x:Operand}(ho:o.op=.convert s d x)(hs:P.underlying s=some .string)(hd:P.underlying d=some .string)(hI:Inv S K w0 Kn φ (av H) w)
  {tv:Option TV} (hx:∀y,tv=some y->eU S w Kn φ y (ρ x)) (h:cm call .qO [tv] H nxt=some (v,u,aw,n')):cW P o ρ S K w0 w Kn φ (av H) nxt n' v u:=by
 match tv,h,hx with
 |some (.c (.d (.lit (.string s0)))),h,hx=>
  obtain⟨ha,_⟩:=(hx _ rfl).lit;obtain⟨rfl,rfl,rfl,rfl⟩:lv (.string s0)=v/\[]=u/\[]=aw/\nxt=n':=by simpa[cm]using h
  exact cW.pure hI (by simp[execOp,ho,ha,convert,bE hs,bE hd]) (.oM rfl)
theorem DB{x:Operand}{i:Nat}(ho:o.op=.extract x i)(hI:Inv S K w0 Kn φ (av H) w){tv:Option TV}(hx:∀y,tv=some y->eU S w Kn φ y (ρ x))
  (h:cm call (.extract i) [tv] H nxt=some (v,u,aw,n')):cW P o ρ S K w0 w Kn φ (av H) nxt n' v u:=by
 match tv,h,hx with
 |some (.gR xs),h,hx=>
  change (match xs[i]?with|some v=>some (v,[],[],nxt)|none=>none)=_ at h;split at h
  .rename_i y hy;obtain⟨rfl,rfl,rfl,rfl⟩:y=v/\[]=u/\[]=aw/\nxt=n':=by simpa using h
   have hr:=hx _ rfl;generalize hv0:ρ x=val at hr;cases hr with
   |@gR _ aJ hlen hr=>
    have hlt:i<aJ.size:=by rw[<-hlen];exact(ai.1 hy).1
    refine cW.pure (val:=aJ.getD i undef) hI ?_ (hr i y hy);simp[execOp,ho,hv0,Instr.extract,hlt]
  .simp at h
theorem zH{s:TypeId}{f n:Nat}{fields:Array Field}{fl:Field}{x:Operand}(ho:o.op=.fieldAddr s x f)(hu:P.underlying s=some (.struct fields))(hf:fields[f]?=some fl)
  (hs:ew P fl.type=some (n+1)) (hI:Inv S K w0 Kn φ (av H) w) {tv:Option TV} (hx:∀y,tv=some y->eU S w Kn φ y (ρ x))
  (h:cm call (.fieldAddr fl.offset (n+1)) [tv] H nxt=some (v,u,aw,n')):cW P o ρ S K w0 w Kn φ (av H) nxt n' v u:=by
 match tv,h,hx with
 |some (.c c),h,hx=>
  change (match iU fl.offset (n+1) c with|some y=>some (TV.c y,[],[],nxt)|none=>none)=_ at h;split at h
  .rename_i y hy;obtain⟨rfl,rfl,rfl,rfl⟩:TV.c y=v/\[]=u/\[]=aw/\nxt=n':=by simpa using h
   have run:∀b off,ρ x=.pointer (some ⟨b,off,none⟩)->(execOp ρ o).run P w=.ok (.value (.pointer (some ⟨b,off+fl.offset,none⟩))) w:=by intro b off hv;simp[execOp,ho,hv,Instr.fieldAt,bE hu,hf,Instr.sureAddr,fieldPlace,fq hs,kO]
   have hr:=hx _ rfl;generalize hv0:ρ x=val at hr;cases hr with
   |c hr=>
    cases hr with
    |d hd=>
     cases hd with
     |@pt cells b off g hb hcell hrd=>
      simp only[iU]at hy;split at hy
      .obtain rfl:=aa hy;refine cW.pure hI (run _ _ hv0) (.c (.d (.wm hb fun j z hj=>?_)));rw[dY]at hj;split at hj
       .rw [bJ]at hj;exact⟨_,by rw[ct];exact hcell _ _ hj,hrd _ _ hj⟩
       .simp at hj
      .simp at hy
     |_=>simp[iU]at hy
    |@op id off hk=>
     obtain rfl:C.op id (off+fl.offset)=y:=by simpa[iU]using hy
     refine cW.pure hI (run _ _ hv0) (.c ?_);rw[ct];exact .op hk
    |@ep id cC off hk=>
     obtain rfl:C.ep id cC (off+fl.offset)=y:=by simpa[iU]using hy
     refine cW.pure hI (run _ _ hv0) (.c ?_);rw[ct];exact .ep hk
    |_=>simp[iU]at hy
  .simp at h
theorem Iv{str:Bool}{t:TypeId}{x:Operand}{c:kf}(ho:o.op=.call c)(hcal:c.callee=.builtin .len)(hargs:c.args= #[x])(hts:c.argTypes= #[t])
  (hu:if str then P.underlying t=some .string else∃b,P.underlying t=some (.slice b)) (hI:Inv S K w0 Kn φ (av H) w) {tv:Option TV} (hx:∀y,tv=some y->eU S w Kn φ y (ρ x))
  (h:cm call (.len str) [tv] H nxt=some (v,u,aw,n')):cW P o ρ S K w0 w Kn φ (av H) nxt n' v u:=by
 match tv,h,hx with
 |some (.c y),h,hx=>
  change (match rO str y with|some n=>some (lv (.int .i64 n),[],[],nxt)|none=>none)=_ at h;split at h
  .rename_i n hn;obtain⟨rfl,rfl,rfl,rfl⟩:lv (.int .i64 n)=v/\[]=u/\[]=aw/\nxt=n':=by simpa using h
   refine cW.pure hI ?_ (.oM rfl);have hr:=hx _ rfl;generalize hv0:ρ x=val at hr;cases str with
   |true=>
    simp only[if_true]at hu
    match y,hn,hr with
    |.d (.lit (.string s)),hn,hr=>
     obtain⟨rfl,_⟩:=hr.lit;obtain rfl:(s.size:Int)=n:=by simpa[rO]using hn
     simp[execOp,ho,hcal,hargs,hts,resolve,invoke,builtin,hv0,Builtin.len_,bE hu,goInt]
   |false=>
    simp only[aN,if_false]at hu;obtain⟨b,hu⟩:=hu;have hsl:∀a l k,val=.slice a l k->n=(l:Int)->(execOp ρ o).run P w=.ok (.value (.int .i64 n)) w:=by intro a l k e1 e2;simp[execOp,ho,hcal,hargs,hts,resolve,invoke,builtin,hv0,e1,e2,Builtin.len_,bE hu,goInt]
    match y,hn,hr with
    |.d (.lit (.slice none 0 0)),hn,hr=>obtain⟨rfl,_⟩:=hr.lit;exact hsl _ _ _ rfl (by simpa[rO]using hn.symm)
    |.d (.sl sz aj),hn,hr=>
     cases hr with
     |c hr=>cases hr with
      |d hd=>cases hd with|sl=>exact hsl _ _ _ rfl (by simpa[rO]using hn.symm)|q9=>exact hsl _ _ _ rfl (by simpa[rO]using hn.symm)
    |.dz sz id off len,hn,hr=>
     cases hr with
     |c hr=>cases hr with|dz=>exact hsl _ _ _ rfl (by simpa[rO]using hn.symm)
  .simp at h
theorem pK{op:BinOp}(hop:op=.eql\/op=.neq){t:TypeId}{x y:Value}{b:Bool}(a c:Operand)
  (h1:binOp .eql t x y=(do pure (.bool (<-Op.equal t x y)))) (h2:binOp .neq t x y=(do pure (.bool (!(<-Op.equal t x y)))))
  (hg:(eqGuard op t a c x y).run P w=.ok () w) (he:(Op.equal t x y).run P w=.ok b w):
  ((do eqGuard op t a c x y;binOp op t x y):Sem Value).run P w=.ok (.bool (if op==.neq then !b else b)) w:=by
 rcases hop with rfl|rfl
 .rw [Sem.run_bind,hg,Result.andThen_ok,h1,Sem.run_bind,he];rfl
 .rw [Sem.run_bind,hg,Result.andThen_ok,h2,Sem.run_bind,he];rfl
theorem pj{op:BinOp}{t:TypeId}(a c:Operand){x y:Value}(h:match x,y with|.nilIface,.nilIface=>False|.agg _,.agg _=>False|_,_=>True):
  (eqGuard op t a c x y).run P w=.ok () w:=by
 unfold eqGuard;cases op<;>simp<;>(cases x<;>cases y<;>simp_all)
theorem pn(t:TypeId)(x y:Value):Op.equal t x y=Op.equalIn (9999+1) t x y:=rfl
def IJ(P:Program)(t:TypeId):Nat->Prop
 |0=>∃x,P.underlying t=some (.slice x)
 |1=>∃x,P.underlying t=some (.pointer x)
 |2=>∃a b c,P.underlying t=some (.func a b c)
 |_=>False
theorem F3{op:BinOp}(hop:op=.eql\/op=.neq){kind:Nat}{t:TypeId}{y:C}{val:Value}{b:Bool}(a c:Operand)(hu:IJ P t kind)
  (hr:eU S w Kn φ (.c y) val) (hn:oB kind y=some b):
  ((do eqGuard op t a c val (mu kind);binOp op t val (mu kind)):Sem Value).run P w=.ok (.bool (if op==.neq then !b else b)) w/\
  ((do eqGuard op t a c (mu kind) val;binOp op t (mu kind) val):Sem Value).run P w=.ok (.bool (if op==.neq then !b else b)) w:=by
 have hsl:(∃x,P.underlying t=some (.slice x))->∀q l k,kind=0->val=.slice q l k->b=q.isNone->
   ((do eqGuard op t a c val (mu kind);binOp op t val (mu kind)):Sem Value).run P w=.ok (.bool (if op==.neq then !b else b)) w/\
   ((do eqGuard op t a c (mu kind) val;binOp op t (mu kind) val):Sem Value).run P w=.ok (.bool (if op==.neq then !b else b)) w:=by
  rintro⟨x,hu'⟩ q l k rfl rfl rfl;refine⟨pK hop a c rfl rfl (pj a c trivial) ?_,pK hop a c rfl rfl (pj a c trivial) ?_⟩
  all_goals
   rw[pn];unfold Op.equalIn;rw[Sem.run_bind,bE hu'];cases q<;>rfl
 have hpt:(∃x,P.underlying t=some (.pointer x))->∀q,kind=1->val=.pointer q->b=q.isNone->
   ((do eqGuard op t a c val (mu kind);binOp op t val (mu kind)):Sem Value).run P w=.ok (.bool (if op==.neq then !b else b)) w/\
   ((do eqGuard op t a c (mu kind) val;binOp op t (mu kind) val):Sem Value).run P w=.ok (.bool (if op==.neq then !b else b)) w:=by
  rintro⟨x,hu'⟩ q rfl rfl rfl;refine⟨pK hop a c ?_ ?_ (pj a c trivial) ?_,pK hop a c ?_ ?_ (pj a c trivial) ?_⟩
  .cases q<;>rfl
  .cases q<;>rfl
  .rw [pn];unfold Op.equalIn;rw[Sem.run_bind,bE hu'];cases q<;>rfl
  .cases q<;>rfl
  .cases q<;>rfl
  .rw [pn];unfold Op.equalIn;rw[Sem.run_bind,bE hu'];cases q<;>rfl
 have hfn:(∃x y z,P.underlying t=some (.func x y z))->kind=2->((val=.nilFunc/\b=true)\/((∃f p q,val=.func f p q)/\b=false))->
   ((do eqGuard op t a c val (mu kind);binOp op t val (mu kind)):Sem Value).run P w=.ok (.bool (if op==.neq then !b else b)) w/\
   ((do eqGuard op t a c (mu kind) val;binOp op t (mu kind) val):Sem Value).run P w=.ok (.bool (if op==.neq then !b else b)) w:=by
  rintro⟨x,y,z,hu'⟩ rfl (⟨rfl,rfl⟩|⟨⟨f,p,q,rfl⟩,rfl⟩)
  all_goals
   refine⟨pK hop a c rfl rfl (pj a c trivial) ?_,pK hop a c rfl rfl (pj a c trivial) ?_⟩
   all_goals
    rw[pn];unfold Op.equalIn;rw[Sem.run_bind,bE hu'];rfl
 cases hr with
 |c hr=>
  match kind,y,hn,hr,hu with
  |0,.d (.lit (.slice none 0 0)),hn,hr,hu=>cases hr with|d hd=>cases hd with|lit hp=>exact hsl hu _ _ _ rfl rfl (by simpa[oB]using hn.symm)
  |0,.d (.sl _ _),hn,hr,hu=>cases hr with|d hd=>cases hd with|sl=>exact hsl hu _ _ _ rfl rfl (by simpa[oB]using hn.symm)|q9=>exact hsl hu _ _ _ rfl rfl (by simpa[oB]using hn.symm)
  |0,.dz _ _ _ _,hn,hr,hu=>cases hr with|dz=>exact hsl hu _ _ _ rfl rfl (by simpa[oB]using hn.symm)
  |1,.d (.lit (.pointer none)),hn,hr,hu=>cases hr with|d hd=>cases hd with|lit hp=>exact hpt hu _ rfl rfl (by simpa[oB]using hn.symm)
  |1,.d (.pt _),hn,hr,hu=>cases hr with|d hd=>cases hd with|pt=>exact hpt hu _ rfl rfl (by simpa[oB]using hn.symm)
  |1,.ep _ _ _,hn,hr,hu=>cases hr with|ep=>exact hpt hu _ rfl rfl (by simpa[oB]using hn.symm)
  |1,.op _ _,hn,hr,hu=>cases hr with|op=>exact hpt hu _ rfl rfl (by simpa[oB]using hn.symm)
  |2,.d (.lit .nilFunc),hn,hr,hu=>cases hr with|d hd=>cases hd with|lit hp=>exact hfn hu rfl (.inl ⟨rfl,by simpa[oB]using hn.symm⟩)
  |2,.d (.fn _ _),hn,hr,hu=>cases hr with|d hd=>cases hd with|fn=>exact hfn hu rfl (.inr ⟨⟨_,_,_,rfl⟩,by simpa[oB]using hn.symm⟩)
  |2,.mP _ _,hn,hr,hu=>cases hr with|mP=>exact hfn hu rfl (.inr ⟨⟨_,_,_,rfl⟩,by simpa[oB]using hn.symm⟩)
theorem uS{kind:Nat}{x:Operand}(h:uj kind x=true):x=.const (mu kind):=by unfold uj at h;split at h<;>first|rfl|simp at h
theorem Bt{t ty:TypeId}{op:BinOp}{x y z:Operand}{kind:Nat}(ho:o.op=.binOp op t x y ty)(hop:op=.eql\/op=.neq)(hu:IJ P t kind)(hI:Inv S K w0 Kn φ (av H) w)
  (hc:∀v,ρ (.const v)=v) (hz:(z=x/\uj kind y=true)\/(z=y/\uj kind x=true)) {tv:Option TV} (hx:∀y,tv=some y->eU S w Kn φ y (ρ z))
  (h:cm call (.po kind (op==.neq)) [tv] H nxt=some (v,u,aw,n')):cW P o ρ S K w0 w Kn φ (av H) nxt n' v u:=by
 match tv,h,hx with
 |some (.c c),h,hx=>
  change (match oB kind c with|some b=>some (lv (.bool (if(op==BinOp.neq)then !b else b)),([]:eG),([]:List Nat),nxt)|none=>none)=_ at h;split at h
  .rename_i b hb;obtain⟨rfl,rfl,rfl,rfl⟩:lv (.bool (if(op==BinOp.neq)then !b else b))=v/\[]=u/\[]=aw/\nxt=n':=by simpa using h
   refine cW.pure hI ?_ (.oM rfl);obtain⟨h1,h2⟩:=F3 (P:=P) hop x y hu (hx _ rfl) hb;rcases hz with⟨rfl,hn⟩|⟨rfl,hn⟩
   .have e:=uS hn;simp only[execOp,ho,Sem.run_bind];rw[Sem.run_bind]at h1;rw[e]at h1|-;rw[hc,h1];rfl
   .have e:=uS hn;simp only[execOp,ho,Sem.run_bind];rw[Sem.run_bind]at h2;rw[e]at h2|-;rw[hc,h2];rfl
  .simp at h
end
section
variable{P:Program}{S K:Nat->Prop}{w0 w:World}{Kn:Nat->Prop}{φ:Nat->fE}{H:bz}{e:iE}{ρ:Operand->Value}{o:Oper}{call:Call}
 {nxt n':Nat} {v:TV} {u:eG} {aw:List Nat}
theorem uX{α:Type}:∀{l:List (Option α)}{xs:List α},dX l=some xs->l=xs.map some:=by
 intro l;induction l with
 |nil=>
  intro xs h;obtain rfl:[]=xs:=by simpa[dX]using h
  rfl
 |cons a l ih=>
  intro xs h;cases a with
  |none=>simp[dX]at h
  |some x=>
   simp only[dX]at h;split at h
   .rename_i ys hy;obtain rfl:=aa h;simp[ih hy]
   .simp at h
theorem tD{args:List Operand}{xs:List TV}(hρ:∀x tv,jq e x=some tv->eU S w Kn φ tv (ρ x))(h:dX (args.map (jq e))=some xs):
  xs.length=args.length/\∀(i:Nat)(x:Operand)(tv:TV),args[i]?=some x->xs[i]?=some tv->eU S w Kn φ tv (ρ x):=by
 have h1:=uX h;have hl:xs.length=args.length:=by have:=congrArg kY h1;simpa using this.symm
 refine⟨hl,fun i x tv hx htv=>hρ x tv ?_⟩;have h2:=congrArg (fun l=>l[i]?) h1;simp only[aD,hx,htv,bB]at h2;exact aa h2
theorem LG{f:FuncId}{first captured:Array Operand}(ho:o.op=.makeFunc (.func f) first captured)(hf:first.isEmpty=true)(hI:Inv S K w0 Kn φ (av H) w)
  (hρ:∀x tv,jq e x=some tv->eU S w Kn φ tv (ρ x)) (h:cm call (.GD f) (captured.toList.map (jq e)) H nxt=some (v,u,aw,n')):cW P o ρ S K w0 w Kn φ (av H) nxt n' v u:=by
 change (match dX (captured.toList.map (jq e))with
  |some xs=>(match dX (xs.map fun(x:TV)=>match x with|.c c=>some c|_=>none)with|some cs=>some (TV.c (.mP f cs),([]:eG),([]:List Nat),nxt)|none=>none)
  |none=>none)=_ at h
 split at h
 .rename_i xs hxs;split at h
  .rename_i cs hcs;obtain⟨rfl,rfl,rfl,rfl⟩:TV.c (.mP f cs)=v/\[]=u/\[]=aw/\nxt=n':=by simpa using h
   obtain⟨hl,hr⟩:=tD hρ hxs;have h2:=uX hcs;have hl2:cs.length=xs.length:=by have:=congrArg kY h2;simpa using this.symm
   have hf':first= #[]:=by simpa using hf
   refine cW.pure (val:=.func (.func f) #[] (captured.map ρ)) hI (by simp[execOp,ho,Instr.makeFunc,hf']) (.c (.mP (by simp[hl2,hl]) fun j c hj=>?_));have hj':j<xs.length:=by rw[<-hl2];exact(ai.1 hj).1
   have h3:=congrArg (fun l=>l[j]?) h2;simp only[aD,hj,bB,au hj']at h3;have h4:=aa h3;have hcap:j<captured.size:=by rw[hl]at hj';simpa using hj'
   have hx:=hr j captured[j] xs[j] (by simp[hcap]) (au hj');have e1:(captured.map ρ).getD j undef=ρ captured[j]:=by simp[hcap]
   rw[e1];cases hy:xs[j]with
   |c y=>
    rw[hy]at h4 hx;obtain rfl:y=c:=by simpa using h4
    cases hx with|c hx=>exact hx
   |_=>rw[hy]at h4;simp at h4
  .simp at h
 .simp at h
theorem rU{n:Int}(h0:0<=n)(h1:n<=2147483648):IntKind.i64.wrap n=n:=by unfold IntKind.wrap IntKind.bits IntKind.signed;simp only[Bool.true_and,decide_eq_true_eq];have:n %(2^64:Int)=n:=Int.emod_eq_of_lt h0 (by omega);rw[this];split<;>omega
theorem t6{v:Value}{k:IntKind}{n:Int}(h:v=.int k n):(asInt v).run P w=.ok n w:=by subst h;simp[asInt,asIntOf]
theorem mm{v:Value}{k:IntKind}{n:Int}(h:v=.int k n):(asIntOf v).run P w=.ok (k,n) w:=by subst h;simp[asIntOf]
theorem ig{tv:Option TV}{val:Value}{n:Int}(h:b_ tv=some n)(hr:∀y,tv=some y->eU S w Kn φ y val):∃k,val=.int k n:=by
 unfold b_ at h;split at h
 .obtain rfl:=aa h;obtain⟨hv,_⟩:=(hr _ rfl).lit;exact⟨_,hv⟩
 .simp at h
theorem iI{v:Value}{k:IntKind}{n:Int}{y:Nat}{code:BoundsCode}(h:v=.int k n)(h0:0<=n)(h1:n<=y):(Instr.sliceBound v y code).run P w=.ok n.toNat w:=by simp only[Instr.sliceBound,Sem.run_bind,mm h,Result.andThen_ok,h0,h1,and_self,if_true,Sem.run_pure]
theorem pL{BR:Bool}{len cap:Nat}{lo hi:Option Value}{l h:Option Int}(hlo':lo.isSome=l.isSome)(hl1:∀x,lo=some x->∃k n,x=.int k n/\l=some n)
  (hhi':hi.isSome=h.isSome) (hhi:∀x,hi=some x->∃k n,x=.int k n/\h=some n)
  (h0:0<=l.getD 0) (h1:l.getD 0<=h.getD len) (h2:h.getD len<=cap):
  (Instr.sliceBounds BR len cap lo hi none).run P w=.ok ((l.getD 0).toNat,(h.getD len).toNat,cap) w:=by
 unfold Instr.sliceBounds;cases hi with
 |none=>
  cases h with
  |some _=>simp at hhi'
  |none=>
   cases lo with
   |none=>cases l with|some _=>simp at hlo'|none=>simp
   |some x=>obtain⟨k,n,rfl,rfl⟩:=hl1 x rfl;simp only[eO,Option.getD_none]at h0 h1;have:=iI (P:=P) (w:=w) (v:=.int k n) (y:=len) (code:=.sliceB) rfl h0 h1;simp[this]
 |some y=>
  obtain⟨k,n,rfl,rfl⟩:=hhi y rfl;simp only[eO]at h1 h2;have hb:=iI (P:=P) (w:=w) (v:=.int k n) (y:=cap) (code:=if BR then .sliceAcap else .sliceAlen) rfl (by omega) h2;cases lo with
  |none=>cases l with|some _=>simp at hlo'|none=>simp[hb]
  |some x=>obtain⟨k',n',rfl,rfl⟩:=hl1 x rfl;simp only[eO]at h0 h1;have:=iI (P:=P) (w:=w) (v:=.int k' n') (y:=n.toNat) (code:=.sliceB) rfl h0 (by omega);simp[hb,this]
theorem A2{str:Bool}{sz:Nat}{t:TypeId}{x y:C}{val:Value}{lo hi:Option Value}{l h:Option Int}
  (hu:if str then P.underlying t=some .string else∃el,P.underlying t=some (.slice el)/\ew P el=some sz) (hr:RC S w Kn φ x val)
  (hlo':lo.isSome=l.isSome) (hl1:∀x,lo=some x->∃k n,x=.int k n/\l=some n) (hhi':hi.isSome=h.isSome) (hhi:∀x,hi=some x->∃k n,x=.int k n/\h=some n)
  (hs:eX str sz x l h=some y):∃val',(Instr.sliceAt t val lo hi none).run P w=.ok val' w/\RC S w Kn φ y val':=by
 unfold eX at hs;cases str with
 |true=>
  simp only[if_true]at hs hu;split at hs
  .rename_i s;split at hs
   .rename_i hb;obtain⟨hb1,hb2,hb3⟩:=hb;obtain rfl:=aa hs;cases hr with
    |d hd=>cases hd with|lit hp=>have:=pL (P:=P) (w:=w) (BR:=false) (len:=s.size) (cap:=s.size) hlo' hl1 hhi' hhi hb1 hb2 hb3;exact⟨.string (s.extract (l.getD 0).toNat (h.getD s.size).toNat),by simp[Instr.sliceAt,Instr.slice,bE hu,this],.d (.lit rfl)⟩
   .simp at hs
  .simp at hs
 |false=>
  simp only[aN,if_false]at hs hu;obtain⟨el,hu,hsz⟩:=hu
  have run:∀(a:Addr)(len cap:Nat),val=.slice (some a) len cap->0<=l.getD 0->l.getD 0<=h.getD len->h.getD len<=cap->(cap≠(l.getD 0).toNat->a.spot=none)->
    (Instr.sliceAt t val lo hi none).run P w=.ok (.slice (some (if cap=(l.getD 0).toNat then a else⟨a.block,a.off+(l.getD 0).toNat*sz,none⟩))
     ((h.getD len).toNat-(l.getD 0).toNat) (cap-(l.getD 0).toNat)) w:=by
   intro a len cap hv h0 h1 h2 hsp;have hb:=pL (P:=P) (w:=w) (BR:=true) (len:=len) (cap:=cap) hlo' hl1 hhi' hhi h0 h1 h2;simp only[Instr.sliceAt,Instr.slice,Sem.run_bind,bE hu,Result.andThen_ok,hv,hb,fq hsz,Sem.run_pure];congr 2;split
   .rfl
   .rename_i hne;obtain⟨b,off,spot⟩:=a;obtain rfl:spot=none:=hsp hne;simp[kO]
  split at hs
  .split at hs
   .rename_i hb;obtain⟨hb1,hb2,hb3⟩:=hb;obtain rfl:=aa hs;cases hr with
    |d hd=>cases hd with
     |lit hp=>
      have e1:l.getD 0=0:=by omega
      have e2:h.getD 0=0:=by omega
      have hb:=pL (P:=P) (w:=w) (BR:=true) (len:=0) (cap:=0) hlo' hl1 hhi' hhi hb1 (by simpa using hb2) (by simpa using hb3);refine⟨.slice none 0 0,?_,.d (.lit rfl)⟩;have e3:h.getD (((0:Nat):Int))=0:=e2;rw[e1,e3]at hb;simp only[Instr.sliceAt,Instr.slice,Sem.run_bind,bE hu,Result.andThen_ok,hb,fq hsz,Sem.run_pure];rfl
   .simp at hs
  .rename_i sz' id off len;split at hs
   .rename_i hb;obtain⟨hb0,hb1,hb2,hb3⟩:=hb;obtain rfl:=aa hs;cases hr with
    |@dz _ _ _ cap addr hk hcap haddr hext hcl=>
     subst hb0;refine⟨_,run _ len cap rfl hb1 hb2 (by omega) (fun _=>rfl),?_⟩;have hle:(l.getD 0).toNat<=cap:=by omega
     by_cases e:cap=(l.getD 0).toNat
     .rw [if_pos e];exact .dz hk (by omega) (fun h=>by omega) (by rw[<-e,Nat.sub_self];omega) (by omega)
     .rw [if_neg e];have ha:=haddr (by omega);refine .dz hk (by omega) (fun _=>?_) ?_ (by omega)
      .show addr+_=_;rw[ha,bI];omega
      .have:(l.getD 0).toNat*(φ id).sz+(cap-(l.getD 0).toNat)*(φ id).sz=cap*(φ id).sz:=by rw[<-bI];congr 1;omega
       show addr+_+_<=_;omega
   .simp at hs
  .rename_i sz' aj;split at hs
   .rename_i hb;obtain⟨hb0,hb1,hb2,hb3⟩:=hb;obtain rfl:=aa hs;cases hr with
    |d hd=>
     cases hd with
     |@sl _ _ b off cap g hb hsz0 hcap hrow hcell hrd=>
      subst hb0;refine⟨_,run _ aj.length cap rfl hb1 hb2 (by omega) (fun _=>rfl),?_⟩;have hR:cD S w sz' (fun i=>w.cell? ⟨b,i,none⟩) off aj:=⟨hrow,fun i r hi j x hj=>⟨_,hcell i r hi j x hj,hrd i r hi j x hj⟩⟩
      have hlen:((aj.drop (l.getD 0).toNat).take ((h.getD aj.length).toNat-(l.getD 0).toNat)).length=(h.getD aj.length).toNat-(l.getD 0).toNat:=by simp;omega
      by_cases e:cap=(l.getD 0).toNat
      .rw [if_pos e];exact .d (.ym hb hsz0 hlen (by omega) (hR.u6 _ _ fun h=>by omega))
      .rw [if_neg e];exact .d (.ym hb hsz0 hlen (by omega) (hR.u6 _ _ fun _=>rfl))
     |@q9 _ a hsz0=>
      subst hb0;simp only[fI]at hb1 hb2 hb3;have e1:l.getD 0=0:=by have h2:l.getD 0<=h.getD 0:=hb2;have h3:h.getD 0<=0:=hb3;omega
      refine⟨_,run _ 0 0 rfl hb1 hb2 (by simpa using hb3) (fun hne=>absurd (by rw[e1];rfl) hne),?_⟩;rw[if_pos (by rw[e1];rfl)];have e2:(([]:List (List D)).drop (l.getD 0).toNat).take ((h.getD ([]:List (List D)).length).toNat-(l.getD 0).toNat)=[]:=by simp
      rw[e2];have e3:(h.getD ((0:Nat):Int)).toNat-(l.getD 0).toNat=0:=by have h3:h.getD 0<=0:=hb3;have h4:h.getD ((0:Nat):Int)=h.getD 0:=rfl;rw[h4];omega
      have e4:(0:Nat)-(l.getD 0).toNat=0:=by omega
      first
       |(rw[e3,e4];exact .d (.q9 hsz0))
       |(simp[e1]at hb3|-;exact .d (.q9 hsz0))
   .simp at hs
  .simp at hs
theorem wa{str:Bool}{sz:Nat}{t:TypeId}{x y:C}{val:Value}{lo:Option Value}{hi:Value}{k2:IntKind}{l:Option Int}{h:Int}{aw:List Nat}(hI:Inv S K w0 Kn φ (av H) w)
  (hu:if str then P.underlying t=some .string else∃el,P.underlying t=some (.slice el)/\ew P el=some sz) (hr:RC S w Kn φ x val)
  (hlo':lo.isSome=l.isSome) (hl1:∀x,lo=some x->∃k n,x=.int k n/\l=some n) (hhi:hi=.int k2 h) (hs:l5 str sz x (l.getD 0) h H=some (y,aw)):∃val',(Instr.sliceAt t val lo (some hi) none).run P w=.ok val' w/\RC S w Kn φ y val':=by
 unfold l5 at hs;split at hs
 case h_2=>simp at hs
 rename_i sz' id off len;simp only[aN,if_false]at hu;obtain⟨el,hu,hsz⟩:=hu
 have key:sz'=sz/\0<=l.getD 0/\l.getD 0<=h/\off+h.toNat<=(φ id).cap/\y=.dz sz id (off+(l.getD 0).toNat) (h.toNat-(l.getD 0).toNat):=by
  split at hs
  .rename_i szo aj hob;split at hs
   case isFalse=>simp at hs
   rename_i hb;obtain⟨hb0,hb1,hb2,hb3⟩:=hb;obtain⟨rfl,_⟩:=ad (aa hs);obtain⟨_,h0⟩:=hI.gg _ _ hob;have hvis:aj.length<=(φ id).cap:=by cases h0 with|aJ hsz0 hl hS hK hown hext hfit hrr hvis=>exact hvis
   exact⟨hb0,hb1,hb2,by omega,rfl⟩
  .rename_i szo aj cp hob;split at hs
   case isFalse=>simp at hs
   rename_i hb;obtain⟨hb0,hb1,hb2,hb3⟩:=hb;obtain⟨rfl,_⟩:=ad (aa hs);obtain⟨_,h0⟩:=hI.gg _ _ hob;have hvis:(φ id).cap=cp:=by cases h0 with|cap hsz0 hl hS hK hown hext hfit hrr hvis hc=>exact hc
   exact⟨hb0,hb1,hb2,by omega,rfl⟩
  .simp at hs
 obtain⟨hb0,hb1,hb2,hvis,rfl⟩:=key;cases hr with
 |@dz _ _ _ cap addr hk hcap haddr hext hcl=>
  subst hb0;have hc:h<=cap:=by omega
  have hbd:=pL (P:=P) (w:=w) (BR:=true) (len:=len) (cap:=cap) (lo:=lo) (hi:=some hi) (l:=l) (h:=some h) hlo' hl1 rfl (fun x hx=>⟨k2,h,by rw[<-aa hx,hhi],rfl⟩) hb1 hb2 hc;simp only[eO]at hbd;generalize l.getD 0=l at*;refine⟨.slice (some (if cap=l.toNat then⟨(φ id).bA,addr,none⟩else⟨(φ id).bA,addr+l.toNat*(φ id).sz,none⟩)) (h.toNat-l.toNat) (cap-l.toNat),?_,?_⟩
  .simp only[Instr.sliceAt,Instr.slice,Sem.run_bind,bE hu,Result.andThen_ok,hbd,fq hsz,Sem.run_pure];congr 2;split
   .rfl
   .simp [kO]
  .have hle:l.toNat<=cap:=by omega
   by_cases e:cap=l.toNat
   .rw [if_pos e];exact .dz hk (by omega) (fun h=>by omega) (by rw[<-e,Nat.sub_self];omega) (by omega)
   .rw [if_neg e];have ha:=haddr (by omega);refine .dz hk (by omega) (fun _=>?_) ?_ (by omega)
    .rw [ha,bI];omega
    .have:l.toNat*(φ id).sz+(cap-l.toNat)*(φ id).sz=cap*(φ id).sz:=by rw[<-bI];congr 1;omega
     omega
theorem Gl{sz:Nat}{t:TypeId}{el:TypeId}{x a b c:Operand}(ho:o.op=.slice t x (some a) (some b) (some c))
  (hu:P.underlying t=some (.slice el)) (hsz:ew P el=some sz) (hI:Inv S K w0 Kn φ (av H) w) (hn0:nxt<n'->¬Kn nxt)
  (hρ:∀x tv,jq e x=some tv->eU S w Kn φ tv (ρ x))
  (h:cm call (.zu sz) ([x,a,b,c].map (jq e)) H nxt=some (v,u,aw,n')):cW P o ρ S K w0 w Kn φ (av H) nxt n' v u:=by
 simp only[aq,aS]at h;cases hx:jq e x with
 |none=>rw[hx]at h;simp[cm]at h
 |some tv=>
  rw[hx]at h;cases tv with
  |agg cs=>simp[cm]at h
  |gR xs=>simp[cm]at h
  |c xc=>
   have hr:=hρ x _ hx;cases hr with
   |c hr=>
   change (match b_ (jq e a),b_ (jq e b),b_ (jq e c)with
    |some l,some u,some m=>(match JQ sz xc l u m nxt with|some y=>some (TV.c y,([]:eG),([]:List Nat),nxt+1)|none=>none)
    |_,_,_=>none)=_ at h
   split at h
   .rename_i l hh m hl hhh hm;obtain⟨k1,e1⟩:=ig hl (hρ a);obtain⟨k2,e2⟩:=ig hhh (hρ b);obtain⟨k3,e3⟩:=ig hm (hρ c);split at h
    .rename_i y hy;obtain⟨rfl,rfl,rfl,rfl⟩:TV.c y=v/\[]=u/\[]=aw/\nxt+1=n':=by simpa using h
     unfold JQ at hy;split at hy
     .rename_i sz' id off len;split at hy
      .rename_i hb;obtain⟨hb0,hb1,hb2,hb3,hb4⟩:=hb;obtain rfl:=aa hy;have hn:=hn0 (aT _);generalize hv0:ρ x=val at hr;cases hr with
       |@dz _ _ _ cap addr hk hcap haddr hext hcl=>
        subst hb0;have s1:=iI (P:=P) (w:=w) (v:=.int k3 m) (y:=cap) (code:=.slice3Acap) rfl (by omega) (by omega);have s2:=iI (P:=P) (w:=w) (v:=.int k2 hh) (y:=m.toNat) (code:=.slice3B) rfl (by omega) (by omega);have s3:=iI (P:=P) (w:=w) (v:=.int k1 l) (y:=hh.toNat) (code:=.slice3C) rfl (by omega) (by omega);have hbd:(Instr.sliceBounds true len cap (some (.int k1 l)) (some (.int k2 hh)) (some (.int k3 m))).run P w=.ok (l.toNat,hh.toNat,m.toNat) w:=by unfold Instr.sliceBounds;simp[s1,s2,s3]
        let loc:fE:=⟨(φ id).bA,if m.toNat=l.toNat then addr else addr+l.toNat*(φ id).sz,(φ id).sz,(φ id).ext,m.toNat-l.toNat⟩
        have hlt:l.toNat*(φ id).sz+(m.toNat-l.toNat)*(φ id).sz<=cap*(φ id).sz:=by rw[<-bI];exact aH _ (by omega)
        refine⟨.value (.slice (some (if m.toNat=l.toNat then⟨(φ id).bA,addr,none⟩else⟨(φ id).bA,addr+l.toNat*(φ id).sz,none⟩)) (hh.toNat-l.toNat) (m.toNat-l.toNat)),_,w,?_,.inl rfl,bk _,S,ext φ nxt loc,fw.refl _ _,⟨fun _ h=>.inl h,(fW _ hn).dw⟩,.c ?_,?_⟩
        .simp only[execOp,ho,bB,hv0,e1,e2,e3,Instr.sliceAt,Instr.slice,Sem.run_bind,bE hu,Result.andThen_ok,hbd,fq hsz,Sem.run_pure];congr 3;split
         .rfl
         .simp [kO]
        .have e:ext φ nxt loc nxt=loc:=by simp[ext]
         have:=RC.dz (S:=S) (w:=w) (Kn:=mE Kn nxt (nxt+1)) (φ:=ext φ nxt loc) (id:=nxt) (off:=0) (len:=hh.toNat-l.toNat) (cap:=m.toNat-l.toNat) (addr:=loc.aL)
          (.inr (by omega)) (by omega) (by rw[e];simp) (by
           rw[e];show(if m.toNat=l.toNat then addr else addr+l.toNat*(φ id).sz)+(m.toNat-l.toNat)*(φ id).sz<=(φ id).ext;split
           .rename_i q;rw[q,Nat.sub_self];omega
           .omega) (by rw[e];exact bG _)
         rw[e]at this;have e4:(if m.toNat=l.toNat then(⟨(φ id).bA,addr,none⟩:Addr)else⟨(φ id).bA,addr+l.toNat*(φ id).sz,none⟩)=⟨(φ id).bA,if m.toNat=l.toNat then addr else addr+l.toNat*(φ id).sz,none⟩:=by split<;>rfl
         rw[e4];exact this
        .have hren:=fW (Kn:=Kn) (φ:=φ) loc hn;have:=hI.iD (fw.refl _ _) hren hI.qZ hI.sk hI.lG (hf':=av H) (fun i o ho=>.inl ⟨ho,fun hown=>⟨rfl,((hI.gg i o ho).2.bn hown).1⟩⟩) (fun i j a b hi hj oa ob hne=>by rw[hren.dw _ (hI.gg i a hi).1,hren.dw _ (hI.gg j b hj).1];exact hI.ei i j a b hi hj oa ob hne) (hI.wi hren fun _ _=>rfl);exact this.rC fun j=>jM j
      .simp at hy
     .simp at hy
    .simp at h
   .simp at h
theorem Bp{str:Bool}{sz:Nat}{t:TypeId}{x:Operand}{lo hi:Option Operand}(ho:o.op=.slice t x lo hi none)
  (hu:if str then P.underlying t=some .string else∃el,P.underlying t=some (.slice el)/\ew P el=some sz) (hI:Inv S K w0 Kn φ (av H) w)
  (hρ:∀x tv,jq e x=some tv->eU S w Kn φ tv (ρ x))
  (h:cm call (.slice str sz lo.isSome hi.isSome) ((x::lo.toList++hi.toList).map (jq e)) H nxt=some (v,u,aw,n')):cW P o ρ S K w0 w Kn φ (av H) nxt n' v u:=by
 simp only[List.cons_append,aq,List.map_append]at h;cases hx:jq e x with
 |none=>rw[hx]at h;cases lo<;>cases hi<;>simp[cm]at h
 |some tv=>
  rw[hx]at h;cases tv with
  |agg cs=>cases lo<;>cases hi<;>simp[cm]at h
  |gR xs=>cases lo<;>cases hi<;>simp[cm]at h
  |c c=>
   have hr:=hρ x _ hx;cases hr with
   |c hr=>
   have fin:∀l h',lo.isSome=l.isSome->(∀y,lo=some y->b_ (jq e y)=l)->hi.isSome=h'.isSome->(∀y,hi=some y->b_ (jq e y)=h')->
     (match eX str sz c l h' with|some y=>some (TV.c y,([]:eG),([]:List Nat),nxt)|none=>none)=some (v,u,aw,n')->cW P o ρ S K w0 w Kn φ (av H) nxt n' v u:=by
    intro l h' e1 e2 e3 e4 hm;split at hm
    .rename_i y hy;obtain⟨rfl,rfl,rfl,rfl⟩:TV.c y=v/\[]=u/\[]=aw/\nxt=n':=by simpa using hm
     have conv:∀(q:Option Operand)(l:Option Int),q.isSome=l.isSome->(∀y,q=some y->b_ (jq e y)=l)->∀x,q.map ρ=some x->∃k n,x=.int k n/\l=some n:=by
      intro q l e1 e2 x hq;cases q with
      |none=>simp at hq
      |some y=>
       obtain rfl:ρ y=x:=by simpa using hq
       cases l with|none=>simp at e1|some n=>obtain⟨k,hk⟩:=ig (e2 y rfl) (hρ y);exact⟨k,n,hk,rfl⟩
     obtain⟨val',h1,h2⟩:=A2 (P:=P) (lo:=lo.map ρ) (hi:=hi.map ρ) hu hr (by simpa using e1) (conv lo l e1 e2) (by simpa using e3) (conv hi h' e3 e4) hy;exact cW.pure hI (by simp[execOp,ho,h1]) (.c h2)
    .simp at hm
   cases lo with
   |none=>
    cases hi with
    |none=>exact fin none none rfl (fun y hy=>by simp at hy) rfl (fun y hy=>by simp at hy) h
    |some z=>
     change (match b_ (jq e z)with|some u=>(match eX str sz c none (some u)with|some y=>some (TV.c y,([]:eG),([]:List Nat),nxt)|none=>(match l5 str sz c 0 u H with|some (y,aw)=>some (TV.c y,([]:eG),aw,nxt)|none=>none))|none=>none)=_ at h;split at h
     .rename_i n hn;split at h
      .rename_i y hy;exact fin none (some n) rfl (fun y hy=>by simp at hy) rfl (fun y hy=>aa hy▸hn) (by rw[hy];exact h)
      .split at h
       .rename_i y ids1 hy;obtain⟨rfl,rfl,_,rfl⟩:TV.c y=v/\[]=u/\ids1=aw/\nxt=n':=by simpa using h
        obtain⟨k2,e2⟩:=ig hn (hρ z);obtain⟨val',h1,h2⟩:=wa (P:=P) (t:=t) (lo:=none) (l:=none) hI hu hr rfl (fun x hx=>by simp at hx) e2 hy;exact cW.pure hI (by simp[execOp,ho,h1]) (.c h2)
       .simp at h
     .simp at h
   |some q=>
    cases hi with
    |none=>
     change (match b_ (jq e q)with|some l=>(match eX str sz c (some l) none with|some y=>some (TV.c y,([]:eG),([]:List Nat),nxt)|none=>none)|none=>none)=_ at h;split at h
     .rename_i n hn;exact fin (some n) none rfl (fun y hy=>aa hy▸hn) rfl (fun y hy=>by simp at hy) h
     .simp at h
    |some z=>
     change (match b_ (jq e q),b_ (jq e z)with
      |some l,some u=>(match eX str sz c (some l) (some u)with
       |some y=>some (TV.c y,([]:eG),([]:List Nat),nxt)
       |none=>(match l5 str sz c l u H with|some (y,aw)=>some (TV.c y,([]:eG),aw,nxt)|none=>none))
      |_,_=>none)=_ at h
     split at h
     .rename_i m n hm hn;split at h
      .rename_i y hy;exact fin (some m) (some n) rfl (fun y hy=>aa hy▸hm) rfl (fun y hy=>aa hy▸hn) (by rw[hy];exact h)
      .split at h
       .rename_i y ids1 hy;obtain⟨rfl,rfl,_,rfl⟩:TV.c y=v/\[]=u/\ids1=aw/\nxt=n':=by simpa using h
        obtain⟨k1,e1⟩:=ig hm (hρ q);obtain⟨k2,e2⟩:=ig hn (hρ z);obtain⟨val',h1,h2⟩:=wa (P:=P) (t:=t) (lo:=some (ρ q)) (l:=some m) hI hu hr rfl (fun x hx=>⟨k1,m,by rw[<-aa hx,e1],rfl⟩) e2 hy;exact cW.pure hI (by simp[execOp,ho,h1]) (.c h2)
       .simp at h
     .simp at h
theorem sU{t:TypeId}{x i:Operand}{aJ:Option Nat}{sz:Nat}(ho:o.op=.indexAddr t x i)
  (hu:match aJ with|none=>∃el,P.underlying t=some (.slice el)/\ew P el=some sz|some len=>∃el,P.underlying t=some (.array len el)/\ew P el=some sz)
  (hI:Inv S K w0 Kn φ (av H) w) {tx ti:Option TV} (hx:∀y,tx=some y->eU S w Kn φ y (ρ x)) (hi:∀y,ti=some y->eU S w Kn φ y (ρ i))
  (h:cm call (.indexAddr aJ sz) [tx,ti] H nxt=some (v,u,aw,n')):cW P o ρ S K w0 w Kn φ (av H) nxt n' v u:=by
 match tx,h,hx with
 |some (.c c),h,hx=>
  change (match b_ ti with|some i=>(match gN aJ sz c i with|some y=>some (TV.c y,([]:eG),([]:List Nat),nxt)|none=>none)|none=>none)=_ at h;split at h
  .rename_i n hn;obtain⟨k,hk⟩:=ig hn hi;split at h
   .rename_i y hy;obtain⟨rfl,rfl,rfl,rfl⟩:TV.c y=v/\[]=u/\[]=aw/\nxt=n':=by simpa using h
    have hr:=hx _ rfl;generalize hv0:ρ x=val at hr;cases hr with
    |c hr=>
    cases aJ with
    |none=>
     obtain⟨el,hu,hsz⟩:=hu;simp only[gN]at hy;have run:∀b off len cap,val=.slice (some ⟨b,off,none⟩) len cap->0<=n->n<len->(execOp ρ o).run P w=.ok (.value (.pointer (some ⟨b,off+n.toNat*sz,none⟩))) w:=by intro b off len cap hv h0 h1;simp[execOp,ho,hv0,hv,Instr.indexAt,mm hk,bE hu,h0,h1,fq hsz,kO]
     split at hy
     .rename_i sz' id off len;split at hy
      .rename_i hb;obtain⟨h0,h1,rfl⟩:=hb;obtain rfl:=aa hy;cases hr with
       |@dz _ _ _ cap addr hkn hcap haddr hext=>
        refine cW.pure hI (run _ _ _ _ rfl h0 h1) (.c ?_);have ha:=haddr (by omega);have e1:addr+n.toNat*(φ id).sz=(φ id).aL+(off+n.toNat)*(φ id).sz+0:=by rw[ha,bI];omega
        rw[e1];exact .ep hkn
      .simp at hy
     .rename_i sz' aj;split at hy
      .rename_i hb;obtain⟨h0,rfl⟩:=hb;split at hy
       .rename_i r hr';obtain rfl:=aa hy;cases hr with
        |d hd=>cases hd with|@sl _ _ b off cap g hb hsz0 hcap hrow hcell hrd=>have hlt:n.toNat<aj.length:=(ai.1 hr').1;refine cW.pure hI (run _ _ _ _ rfl h0 (by omega)) (.c (.d (.wm hb fun j z hj=>⟨_,hcell _ _ hr' j z hj,hrd _ _ hr' j z hj⟩)))|q9=>simp at hr'
       .simp at hy
      .simp at hy
     .simp at hy
    |some len=>
     obtain⟨el,hu,hsz⟩:=hu;simp only[gN]at hy;split at hy
     .rename_i hb;obtain⟨h0,h1⟩:=hb;have run:∀b off,val=.pointer (some ⟨b,off,none⟩)->(execOp ρ o).run P w=.ok (.value (.pointer (some ⟨b,off+n.toNat*sz,none⟩))) w:=by intro b off hv;have hu':∀w,(underlying t).run P w=.ok (.array len el) w:=bE hu;simp only[execOp,ho,hv0,hv,Instr.indexAt,Sem.run_bind,mm hk,Result.andThen_ok,hu',Instr.sureAddr,Sem.run_pure,h0,h1,and_self,if_true,fq hsz,kO]
      split at hy
      .rename_i id off;obtain rfl:=aa hy;cases hr with|op hkn=>refine cW.pure hI (run _ _ rfl) (.c ?_);rw[ct];exact .op hkn
      .rename_i id cC off;obtain rfl:=aa hy;cases hr with|ep hkn=>refine cW.pure hI (run _ _ rfl) (.c ?_);rw[ct];exact .ep hkn
      .rename_i cells;split at hy
       .obtain rfl:=aa hy;cases hr with
        |d hd=>
         cases hd with
         |@pt _ b off g hb hcell hrd=>
          refine cW.pure hI (run _ _ rfl) (.c (.d (.wm hb fun j z hj=>?_)));rw[dY]at hj;split at hj
          .rw [bJ]at hj;exact⟨_,by rw[ct];exact hcell _ _ hj,hrd _ _ hj⟩
          .simp at hj
       .simp at hy
      .simp at hy
     .simp at hy
   .simp at h
  .simp at h
theorem Bs{t:TypeId}{x i:Operand}(ho:o.op=.index t x i)(hu:P.underlying t=some .string)(hI:Inv S K w0 Kn φ (av H) w)
  {tx ti:Option TV} (hx:∀y,tx=some y->eU S w Kn φ y (ρ x)) (hi:∀y,ti=some y->eU S w Kn φ y (ρ i))
  (h:cm call .nJ [tx,ti] H nxt=some (v,u,aw,n')):cW P o ρ S K w0 w Kn φ (av H) nxt n' v u:=by
 match tx,h,hx with
 |some (.c (.d (.lit (.string s)))),h,hx=>
  change (match b_ ti with|some i=>(match(if 0<=i then s[i.toNat]?else none)with|some b=>some (lv (.int .u8 b.toNat),([]:eG),([]:List Nat),nxt)|none=>none)|none=>none)=_ at h;split at h
  .rename_i n hn;obtain⟨k,hk⟩:=ig hn hi;split at h
   .rename_i b hb;obtain⟨rfl,rfl,rfl,rfl⟩:lv (.int .u8 b.toNat)=v/\[]=u/\[]=aw/\nxt=n':=by simpa using h
    obtain⟨hv,_⟩:=(hx _ rfl).lit;exact cW.pure hI (by simp[execOp,ho,hv,Instr.index,mm hk,bE hu,hb]) (.oM rfl)
   .simp at h
  .simp at h
theorem A1{t:TypeId}{agg:Bool}{n off:Nat}(ha:eY P t=some agg)(hn:ew P t=some n){cs:List C}{aJ:Array Value}{v:TV}(hlen:cs.length=aJ.size)
  (hc:∀(i:Nat)(x:C),cs[i]?=some x->RC S w Kn φ x (aJ.getD i undef)) (h:BM agg n (cs.drop off)=some v):∃val,(part t aJ off).run P w=.ok val w/\eU S w Kn φ v val:=by
 unfold BM at h;cases agg with
 |true=>
  simp only[if_true]at h;split at h
  .rename_i hle;obtain rfl:=aa h;simp only[List.length_drop]at hle;refine⟨.agg (aJ.extract off (off+n)),by simp[part,rb ha,fq hn],.agg ?_ fun i x hi=>?_⟩
   .simp;omega
   .rw [dY]at hi;split at hi
    .rename_i hin;rw[bJ]at hi;have hlt:off+i<aJ.size:=by rw[<-hlen];exact(ai.1 hi).1
     have e1:(aJ.extract off (off+n)).getD i undef=aJ.getD (off+i) undef:=by
      have h1:(aJ.extract off (off+n))[i]?=aJ[off+i]?:=by rw[Array.getElem?_extract,if_pos (by omega)]
      simp only[Array.getD_eq_getD_getElem?,h1]
     rw[e1];exact hc _ _ hi
    .simp at hi
  .simp at h
 |false=>
  simp only[aN,if_false]at h;split at h
  .rename_i x r hd;obtain rfl:=aa h;have hx:cs[off]?=some x:=by have:=congrArg (fun l=>l[0]?) hd;simpa using this
   have hlt:off<aJ.size:=by rw[<-hlen];exact(ai.1 hx).1
   refine⟨aJ.getD off undef,?_,.c (hc _ _ hx)⟩;simp[part,rb ha,hlt]
  .simp at h
theorem Ix{s:TypeId}{f n:Nat}{agg:Bool}{fields:Array Field}{fl:Field}{x:Operand}(ho:o.op=.field s x f)(hu:P.underlying s=some (.struct fields))(hf:fields[f]?=some fl)
  (ha:eY P fl.type=some agg) (hs:ew P fl.type=some n) (hI:Inv S K w0 Kn φ (av H) w) {tv:Option TV} (hx:∀y,tv=some y->eU S w Kn φ y (ρ x))
  (h:cm call (.field agg fl.offset n) [tv] H nxt=some (v,u,aw,n')):cW P o ρ S K w0 w Kn φ (av H) nxt n' v u:=by
 match tv,h,hx with
 |some (.agg cs),h,hx=>
  change (match BM agg n (cs.drop fl.offset)with|some v=>some (v,([]:eG),([]:List Nat),nxt)|none=>none)=_ at h;split at h
  .rename_i y hy;obtain⟨rfl,rfl,rfl,rfl⟩:y=v/\[]=u/\[]=aw/\nxt=n':=by simpa using h
   have hr:=hx _ rfl;generalize hv0:ρ x=val at hr;cases hr with|agg hlen hc=>obtain⟨val,h1,h2⟩:=A1 ha hs hlen hc hy;exact cW.pure hI (by simp[execOp,ho,hv0,Instr.field,bE hu,hf,asAgg,h1]) h2
  .simp at h
theorem Iw{t el:TypeId}{len n:Nat}{agg:Bool}{x i:Operand}(ho:o.op=.index t x i)(hu:P.underlying t=some (.array len el))
  (ha:eY P el=some agg) (hs:ew P el=some n) (hI:Inv S K w0 Kn φ (av H) w) {tx ti:Option TV} (hx:∀y,tx=some y->eU S w Kn φ y (ρ x)) (hi:∀y,ti=some y->eU S w Kn φ y (ρ i))
  (h:cm call (.index agg len n) [tx,ti] H nxt=some (v,u,aw,n')):cW P o ρ S K w0 w Kn φ (av H) nxt n' v u:=by
 match tx,h,hx with
 |some (.agg cs),h,hx=>
  change (match b_ ti with|some i=>(if 0<=i/\i<len then(match BM agg n (cs.drop (i.toNat*n))with|some v=>some (v,([]:eG),([]:List Nat),nxt)|none=>none)else none)|none=>none)=_ at h;split at h
  .rename_i m hm;obtain⟨k,hk⟩:=ig hm hi;split at h
   .rename_i hb;split at h
    .rename_i y hy;obtain⟨rfl,rfl,rfl,rfl⟩:y=v/\[]=u/\[]=aw/\nxt=n':=by simpa using h
     have hr:=hx _ rfl;generalize hv0:ρ x=val at hr;cases hr with|agg hlen hc=>obtain⟨val,h1,h2⟩:=A1 ha hs hlen hc hy;exact cW.pure hI (by simp[execOp,ho,hv0,Instr.index,mm hk,bE hu,hb.1,hb.2,fq hs,h1]) h2
    .simp at h
   .simp at h
  .simp at h
end
section
variable{P:Program}{S K:Nat->Prop}{w0 w:World}{Kn:Nat->Prop}{φ:Nat->fE}{H:bz}{e:iE}{ρ:Operand->Value}{o:Oper}{call:Call}
 {nxt n':Nat} {v:TV} {u:eG} {aw:List Nat}
def LQ(m:Bool):Value->Value->Sem Value:=if m then Builtin.max2 else Builtin.min2
theorem MT{m:Bool}{k:FloatKind}{a b:Nat}(hn:ve k a)(hm:ve k b)(y:Value):AA m (.float k a) y=AA m (.float k b) y:=by cases y with|float k' y=>unfold AA;obtain⟨_,_,_,_,a5⟩:=E3 hn y;obtain⟨_,_,_,_,b5⟩:=E3 hm y;simp only[a5,b5]|_=>rfl
theorem MS{m:Bool}{k:FloatKind}{a b:Nat}(hn:ve k a)(hm:ve k b)(y:Value):AA m y (.float k a)=AA m y (.float k b):=by
 cases y with
 |float k' y=>
  by_cases hk:k'=k
  .subst hk;unfold AA;obtain⟨_,_,_,_,a5⟩:=E2 hn y;obtain⟨_,_,_,_,b5⟩:=E2 hm y;simp only[a5,b5]
  .unfold AA;simp only[if_neg hk]
 |_=>rfl
theorem GB{m:Bool}{a b va vb v:Value}(ha:qm a va)(hb:qm b vb)(h:AA m a b=some v):AA m va vb=some v:=by
 cases ha with
 |ex=>cases hb<;>(unfold AA at h;cases h)
 |lit _=>cases hb with|lit _=>exact h|nan hn hm=>rw[<-MS hn hm];exact h|ex=>exfalso;unfold AA at h;cases a<;>cases h
 |nan hn hm=>cases hb with|lit _=>rw[<-MT hn hm];exact h|nan hn' hm'=>rw[<-MT hn hm,<-MS hn' hm'];exact h|ex=>unfold AA at h;cases h
theorem Ll{m:Bool}{x y z:Value}(h:AA m x y=some z):∃z' n,(LQ m x y).run P w=.ok z' {w with drawn:=n}/\w.drawn<=n/\qm z z':=by
 have key:(LQ m x y).run P w=.ok z w/\dP z=true->∃z' n,(LQ m x y).run P w=.ok z' {w with drawn:=n}/\w.drawn<=n/\qm z z':=fun h=>⟨z,w.drawn,h.1,ao _,.lit h.2⟩;unfold AA at h;split at h
 .rename_i k a k' b;split at h
  .obtain rfl:=aa h;refine key ?_;cases m<;>simp[LQ,Builtin.max2,Builtin.min2,dP]
  .simp at h
 .rename_i k a k' b;split at h
  .rename_i hk;subst hk;split at h
   .rename_i ho;obtain rfl:=aa h;refine⟨.float k ((Question.nanMinMax k m a b).cut (w.tape w.drawn (.nanMinMax k m a b))),w.drawn+1,?_,bk _,.nan (BS k) ?_⟩
    .cases m<;>simp[LQ,Builtin.max2,Builtin.min2,ho,run_choose,Question.forced]
    .have:∀t,(Question.nanMinMax k m a b).cut t=(Question.nanBits k a b).cut t:=by intro t;cases k<;>rfl
     rw[this];exact E_ _ _ _ _
   .rename_i ho;obtain rfl:=aa h;refine key ?_;cases m<;>simp[LQ,Builtin.max2,Builtin.min2,dP,ho]
   .rename_i ho;obtain rfl:=aa h;refine key ?_;cases m<;>simp[LQ,Builtin.max2,Builtin.min2,dP,ho]
   .rename_i ho;obtain rfl:=aa h;refine key ?_;cases m<;>simp[LQ,Builtin.max2,Builtin.min2,dP,ho]
  .simp at h
 .simp at h
theorem Lk{m:Bool}(hρ:∀x y,jq e x=some (.c (.d (.lit y)))->qm y (ρ x)):∀(r:List Operand)(x z vx:Value)(w:World),qm x vx->IS m x (r.map (jq e))=some z->
  ∃z' n,((r.map ρ).foldlM (LQ m) vx).run P w=.ok z' {w with drawn:=n}/\w.drawn<=n/\qm z z':=by
 intro r;induction r with
 |nil=>
  intro x z vx w hx h;obtain rfl:x=z:=by simpa[IS]using h
  exact⟨vx,w.drawn,rfl,ao _,hx⟩
 |cons a r ih=>
  intro x z vx w hx h;simp only[aq]at h|-
  match ha:jq e a,h with
  |some (.c (.d (.lit y))),h=>
   simp only[IS]at h;split at h
   .rename_i z' hz;have hz:=GB hx (hρ a _ ha) hz;obtain⟨z1,n1,h1,l1,e1⟩:=Ll (P:=P) (w:=w) hz;obtain⟨z2,n2,h3,l2,e2⟩:=ih z' z z1 {w with drawn:=n1} e1 h;refine⟨z2,n2,?_,Nat.le_trans l1 l2,e2⟩;simp only[List.foldlM_cons,Sem.run_bind,h1,Result.andThen_ok,h3]
   .simp at h
theorem yA{m:Bool}{c:kf}(ho:o.op=.call c)(hcal:c.callee=.builtin (if m then .max else .min))(hI:Inv S K w0 Kn φ (av H) w)
  (hρ:∀x tv,jq e x=some tv->eU S w Kn φ tv (ρ x)) (h:cm call (.pW m) (c.args.toList.map (jq e)) H nxt=some (v,u,aw,n')):cW P o ρ S K w0 w Kn φ (av H) nxt n' v u:=by
 generalize hargs:c.args.toList=args at h;cases args with
 |nil=>simp[cm]at h
 |cons a r=>
  simp only[aq]at h
  match ha:jq e a,h with
  |some (.c (.d (.lit x))),h=>
   change (match IS m x (r.map (jq e))with|some v=>some (lv v,([]:eG),([]:List Nat),nxt)|none=>none)=_ at h;split at h
   .rename_i z hz;obtain⟨rfl,rfl,rfl,rfl⟩:lv z=v/\[]=u/\[]=aw/\nxt=n':=by simpa using h
    obtain⟨z',n,h1,hle,h4⟩:=Lk (P:=P) (fun x y hx=>(hρ x _ hx).Gu) r x z _ w (hρ a _ ha).Gu hz;have e1:List.map ρ c.args.toList=ρ a::r.map ρ:=by rw[hargs,aq]
    refine⟨.value z',z',_,?_,.inl rfl,ao _,S,φ,fw.pu _ _ _,ol _ _,.DD h4,(hI.pu n hle).kn fun _ hi=>.inl hi⟩;cases m
    .simp only[aN,if_false]at hcal;have h1':((r.map ρ).foldlM Builtin.min2 (ρ a)).run P w=.ok z' {w with drawn:=n}:=h1;simp[execOp,ho,hcal,resolve,invoke,builtin,Builtin.min_,e1,h1']
    .simp only[if_true]at hcal;have h1':((r.map ρ).foldlM Builtin.max2 (ρ a)).run P w=.ok z' {w with drawn:=n}:=h1;simp[execOp,ho,hcal,resolve,invoke,builtin,Builtin.max_,e1,h1']
   .simp at h
def CR(S:Nat->Prop)(w:World)(Kn:Nat->Prop)(φ:Nat->fE)(cs:List C)(vs:List Value):Prop:=cs.length=vs.length/\∀(i:Nat)(x:C)(y:Value),cs[i]?=some x->vs[i]?=some y->RC S w Kn φ x y
theorem CR.aX{cs ds:List C}{vs us:List Value}(h1:CR S w Kn φ cs vs)(h2:CR S w Kn φ ds us)(off:Nat)(hfit:off+ds.length<=cs.length):
  CR S w Kn φ (aX cs off ds) (aX vs off us):=by
 have hl1:=h1.1;have hl2:=h2.1;refine⟨by rw[eg _ _ _ hfit,eg _ _ _ (by omega)];exact h1.1,fun i x y hx hy=>?_⟩;rw[iw _ _ _ hfit]at hx;rw[iw _ _ _ (by omega)]at hy;by_cases c1:i<off
 .rw [if_pos c1]at hx hy;exact h1.2 i x y hx hy
 .rw [if_neg c1]at hx hy;by_cases c2:i<off+ds.length
  .rw [if_pos c2]at hx;rw[if_pos (by omega)]at hy;exact h2.2 _ x y hx hy
  .rw [if_neg c2]at hx;rw[if_neg (by omega)]at hy;exact h1.2 i x y hx hy
theorem eU.cr{tv:TV}{val:Value}{cs:List C}(h:eU S w Kn φ tv val)(hc:cellsOf tv=some cs):CR S w Kn φ cs val.cells.toList:=by
 obtain⟨h1,h2,_⟩:=h.cells hc;refine⟨by simpa using h1,fun i x y hx hy=>?_⟩;have:=h2 i x hx;have e1:val.cells.getD i undef=y:=by rw[aY]at hy;simp[hy]
 rwa[e1]at this
theorem Ag{cs:List C}{aJ:Array Value}(h:CR S w Kn φ cs aJ.toList):cs.length=aJ.size/\∀(i:Nat)(x:C),cs[i]?=some x->RC S w Kn φ x (aJ.getD i undef):=by
 have hl:cs.length=aJ.size:=by simpa using h.1
 refine⟨hl,fun i x hx=>?_⟩;have hlt:i<aJ.size:=by rw[<-hl];exact(ai.1 hx).1
 refine h.2 i x _ hx ?_;simp[hlt]
theorem I6:∀(l:List Value)(k:Nat)(aJ:Array Value)(off:Nat),off+k+l.length<=aJ.size->
  ((l.zipIdx k).foldl (fun(cs:Array Value)(p:Value×Nat)=>cs.setIfInBounds (off+p.2) p.1) aJ).toList=aX aJ.toList (off+k) l:=by
 intro l;induction l with
 |nil=>intro k aJ off _;simp[aX]
 |cons a l ih=>
  intro k aJ off hfit;simp only[cF]at hfit;simp only[List.zipIdx_cons,List.foldl_cons];rw[ih (k+1) (aJ.setIfInBounds (off+k) a) off (by simp;omega)];apply List.ext_getElem?;intro i;rw[iw _ _ _ (by simp;omega),iw _ _ _ (by simp;omega)];simp only[Array.toList_setIfInBounds,List.getElem?_set,cF];by_cases c1:i<off+k
  .have c3:i<off+(k+1):=by omega
   have c4:¬off+k=i:=by omega
   simp[c1,c3,c4]
  .by_cases c2:i=off+k
   .subst c2;have:off+k<off+(k+1):=by omega
    have c5:off+k<aJ.size:=by omega
    simp[this,c5]
   .have c3:¬i<off+(k+1):=by omega
    have c4:¬off+k=i:=by omega
    by_cases c5:i<off+k+(l.length+1)
    .have c6:i<off+(k+1)+l.length:=by omega
     have c7:i-(off+k)=(i-(off+(k+1)))+1:=by omega
     simp[c1,c3,c5,c6,c7]
    .have c6:¬i<off+(k+1)+l.length:=by omega
     simp[c1,c3,c4,c5,c6]
theorem Mx(vs aJ:Array Value)(off:Nat)(hfit:off+vs.size<=aJ.size):
  (vs.zipIdx.foldl (fun(cs:Array Value)(p:Value×Nat)=>cs.setIfInBounds (off+p.2) p.1) aJ).toList=aX aJ.toList off vs.toList:=by
 rw[<-Array.foldl_toList,Array.toList_zipIdx];have:=I6 vs.toList 0 aJ off (by simpa using hfit);simpa using this
theorem wX(o9:Nat->Option (Nat×Nat)):∀(parts:List (Nat×Operand))(pl:List (Nat×Nat))(xs:List TV)(cs cs':List C)(aJ:Array Value),
  pl.length=parts.length->(∀(i:Nat)(p:Nat×Operand)(q:Nat×Nat),parts[i]?=some p->pl[i]?=some q->o9 p.1=some q)->
  xs.length=parts.length->(∀(i:Nat)(p:Nat×Operand)(x:TV),parts[i]?=some p->xs[i]?=some x->eU S w Kn φ x (ρ p.2))->
  CR S w Kn φ cs aJ.toList->lx cs (pl.zip xs)=some cs'->
  ∃arr',Instr.fill o9 aJ (parts.map fun p=>(p.1,ρ p.2))=some arr'/\CR S w Kn φ cs' arr'.toList:=by
 intro parts;induction parts with
 |nil=>
  intro pl xs cs cs' aJ h1 _ h2 _ hcr h;have e1:pl=[]:=List.length_eq_zero_iff.1 h1;subst e1;obtain rfl:cs=cs':=by simpa[lx]using h
  exact⟨aJ,rfl,hcr⟩
 |cons p parts ih=>
  intro pl xs cs cs' aJ h1 hpl h2 hxs hcr h;cases pl with
  |nil=>simp at h1
  |cons q pl=>
   cases xs with
   |nil=>simp at h2
   |cons x xs=>
    obtain⟨off,n⟩:=q;simp only[List.zip_cons_cons,lx]at h;split at h
    .rename_i ds hds;split at h
     .rename_i hb;obtain⟨hb1,hb2⟩:=hb;have hp:=hpl 0 p (off,n) rfl rfl;have hx:=(hxs 0 p x rfl rfl).cr hds;have hsz:(ρ p.2).cells.size=n:=by have:=hx.1;simp at this;omega
      have hal:cs.length=aJ.size:=by simpa using hcr.1
      have hcr':=hcr.aX hx off (by omega);rw[<-Mx (ρ p.2).cells aJ off (by omega)]at hcr'
      obtain⟨arr',h3,h4⟩:=ih pl xs _ cs' _ (by simpa using h1) (fun i p q hp hq=>hpl (i+1) p q (by simpa using hp) (by simpa using hq)) (by simpa using h2)
       (fun i p x hp hx=>hxs (i+1) p x (by simpa using hp) (by simpa using hx)) hcr' h
      refine⟨arr',?_,h4⟩;simp only[aq,Instr.fill,hp];rw[if_neg (by simp[hsz];omega)];exact h3
     .simp at h
    .simp at h
theorem E5{z:List Value}(hp:∀x∈z,dP x=true):CR S w Kn φ (eJ z) z:=by refine⟨by simp[eJ],fun i x y hx hy=>?_⟩;simp only[eJ,aD,hy,bB]at hx;obtain rfl:=aa hx;exact .d (.lit (hp y (aQ hy)))
theorem Do{fields:Array Field}:∀{is:List Nat}{pl:List (Nat×Nat)},dF P fields is=some pl->pl.length=is.length/\
  ∀(k i:Nat)(q:Nat×Nat),is[k]?=some i->pl[k]?=some q->∃f,fields[i]?=some f/\q.1=f.offset/\ew P f.type=some q.2:=by
 intro is;induction is with
 |nil=>
  intro pl h;obtain rfl:[]=pl:=by simpa[dF]using h
  exact⟨rfl,fun k i q hk=>by simp at hk⟩
 |cons i is ih=>
  intro pl h;simp only[dF]at h;split at h
  .rename_i f l hf hl;split at h
   .rename_i n hn;obtain rfl:=aa h;obtain⟨h1,h2⟩:=ih hl;refine⟨by simp[h1],fun k j q hk hq=>?_⟩;cases k with
    |zero=>
     obtain rfl:i=j:=by simpa using hk
     obtain rfl:(f.offset,n)=q:=by simpa using hq
     exact⟨f,hf,rfl,hn⟩
    |succ k=>exact h2 k j q (by simpa using hk) (by simpa using hq)
   .simp at h
  .simp at h
theorem Dc(g:Field->Nat×Nat):∀(l:List Field),(∀f∈l,∃n,ew P f.type=some n/\g f=(f.offset,n))->
  (l.mapM fun f=>(do pure (f.offset,<-sizeOf f.type):Sem (Nat×Nat))).run P w=.ok (l.map g) w:=by
 intro l;induction l with|nil=>intro _;rfl|cons f l ih=>intro h;obtain⟨n,hn,hg⟩:=h f (by simp);have:=ih fun f hf=>h f (by simp[hf]);simp only[List.mapM_cons,Sem.run_bind,fq hn,Result.andThen_ok,Sem.run_pure,this,aq,hg]
theorem Bw{t:TypeId}{parts:Array (Nat×Operand)}{z:List Value}{pl:List (Nat×Nat)}(ho:o.op=.build t parts)(hz:f_ P t=some z)
  (hu:(∃fields,P.underlying t=some (.struct fields)/\dF P fields (parts.toList.map (·.1))=some pl/\fields.toList.all (fun f=>(ew P f.type).isSome)=true)\/
   (∃len el n,P.underlying t=some (.array len el)/\ew P el=some n/\pl=parts.toList.map fun p=>(p.1*n,n)))
  (hI:Inv S K w0 Kn φ (av H) w) (hρ:∀x tv,jq e x=some tv->eU S w Kn φ tv (ρ x))
  (h:cm call (.build z pl) ((parts.toList.map (·.2)).map (jq e)) H nxt=some (v,u,aw,n')):cW P o ρ S K w0 w Kn φ (av H) nxt n' v u:=by
 change (match dX ((parts.toList.map (·.2)).map (jq e))with
  |some xs=>(match lx (eJ z) (pl.zip xs)with|some cs=>some (TV.agg cs,([]:eG),([]:List Nat),nxt)|none=>none)
  |none=>none)=_ at h
 split at h
 .rename_i xs hxs;split at h
  .rename_i cs hcs;obtain⟨rfl,rfl,rfl,rfl⟩:TV.agg cs=v/\[]=u/\[]=aw/\nxt=n':=by simpa using h
   obtain⟨hl,hr⟩:=tD hρ hxs;obtain⟨zv,hzr,hzl,hzp⟩:=kr hz w
   have key:∀o9:Nat->Option (Nat×Nat),pl.length=parts.toList.length->(∀(i:Nat)(p:Nat×Operand)(q:Nat×Nat),parts.toList[i]?=some p->pl[i]?=some q->o9 p.1=some q)->
     ∃arr',Instr.fill o9 zv.cells ((parts.map fun p=>(p.1,ρ p.2)).toList)=some arr'/\CR S w Kn φ cs arr'.toList:=by
    intro o9 h1 h2
    have:=wX (S:=S) (w:=w) (Kn:=Kn) (φ:=φ) (ρ:=ρ) o9 parts.toList pl xs (eJ z) cs zv.cells h1 h2 (by simpa using hl) (fun i p x hp hx=>hr i p.2 x (by simp only[aD,hp,bB]) hx)
     (by rw[hzl];exact E5 hzp) hcs
    simpa using this
   rcases hu with⟨fields,hu,hpl,hall⟩|⟨len,el,n,hu,hn,rfl⟩
   .obtain ⟨h1,h2⟩:=Do hpl;let g:Field->Nat×Nat:=fun f=>(f.offset,(ew P f.type).getD 0)
    have hg:(fields.mapM fun f=>(do pure (f.offset,<-sizeOf f.type):Sem (Nat×Nat))).run P w=.ok (fields.map g) w:=by
     rw[Array.mapM_eq_mapM_toList];have:=Dc (P:=P) (w:=w) g fields.toList fun f hf=>by have:=aV.1 hall f hf;obtain⟨n,hn⟩:=Option.isSome_iff_exists.1 this;exact⟨n,hn,by simp[g,hn]⟩
     simp only[Sem.run_map,this,Result.andThen_ok];congr 1;apply Array.ext';rw[Array.toList_map]
    obtain⟨arr',h3,h4⟩:=key (fun i=>(fields.map g)[i]?) (by simpa using h1) (fun i p q hp hq=>by obtain⟨f,hf,hq1,hq2⟩:=h2 i p.1 q (by simp only[aD,hp,bB]) hq;simp only[Array.getElem?_map,hf,bB,g,hq2,eO,<-hq1]);obtain⟨h5,h6⟩:=Ag h4;refine cW.pure (val:=.agg arr') hI ?_ (.agg h5 h6);simp only[execOp,ho,Sem.run_bind,Instr.build,hzr,Result.andThen_ok,bE hu,hg,h3,Sem.run_pure]
   .obtain ⟨arr',h3,h4⟩:=key (fun i=>some (i*n,n)) (by simp) (fun i p q hp hq=>by simp only[aD,hp,bB]at hq;exact hq);obtain⟨h5,h6⟩:=Ag h4;refine cW.pure (val:=.agg arr') hI ?_ (.agg h5 h6);simp only[execOp,ho,Sem.run_bind,Instr.build,hzr,Result.andThen_ok,bE hu,fq hn,h3,Sem.run_pure]
  .simp at h
 .simp at h
theorem jz.from{S1:Nat->Prop}{hf hf1:Nat->Option Ob}{u1 u2:eG}{val:Value}{w':World}(hs:fw S w S1 w)(he:hf1=bg u1 hf)(h:jz S1 K w0 w Kn φ hf1 nxt n' v u2 val w'):
  jz S K w0 w Kn φ hf nxt n' v (u2++u1) val w':=by
 obtain⟨h1,S',φ',h2,h3,h4,h5⟩:=h;exact⟨h1,S',φ',hs.trans h2,h3,h4,by rw[dO,<-he];exact h5⟩
theorem Ec{α:Type}(sz:Nat):∀(n:Nat)(l:List α),n*sz<=l.length->(kL sz n l).length=n/\∀i r,(kL sz n l)[i]?=some r->r=(l.drop (i*sz)).take sz/\r.length=sz:=by
 intro n;induction n with
 |zero=>intro l _;exact⟨rfl,fun i r hi=>by simp[kL]at hi⟩
 |succ n ih=>
  intro l hl;have e1:(n+1)*sz=n*sz+sz:=dm n sz;obtain⟨h1,h2⟩:=ih (l.drop sz) (by simp;omega);refine⟨by simp[kL,h1],fun i r hi=>?_⟩;cases i with
  |zero=>
   obtain rfl:l.take sz=r:=by simpa[kL]using hi
   exact⟨by simp,by simp;omega⟩
  |succ i=>obtain⟨h3,h4⟩:=h2 i r (by simpa[kL]using hi);refine⟨?_,h4⟩;rw[h3,List.drop_drop];congr 2;rw[dm];omega
theorem sG{zc:Array Value}{z:List Value}{sz n:Nat}(hz:zc.toList=z)(hl:z.length=sz)(hpos:0<sz):
  ((kZ n).map (fun i=>zc[i %zc.size]!)).toList=(bh n).map fun i=>z.getD (i %sz) undef:=by
 simp only[Array.toList_map,Array.toList_range];apply List.map_congr_left;intro i _;have e1:zc.size=sz:=by rw[<-hl,<-hz];simp
 have hlt:i %sz<zc.size:=by rw[e1];exact Nat.mod_lt _ hpos
 rw[e1,<-hz];have:i %sz<zc.toList.length:=by simpa using hlt
 simp[hlt]
theorem xV{t el:TypeId}{len n:Nat}{parts:Array (Nat×Operand)}{z:List Value}(ho:o.op=.buildSlice t len parts)(hu:P.underlying t=some (.slice el))
  (hs:ew P el=some (n+1)) (hz:f_ P el=some z) (hlim:len*(n+1)<=4096/\z.length=n+1)
  (hI:Inv S K w0 Kn φ (av H) w) (hn0:nxt<n'->¬Kn nxt) (hρ:∀x tv,jq e x=some tv->eU S w Kn φ tv (ρ x))
  (h:cm call (.buildSlice (n+1) len ((bh (len*(n+1))).map fun i=>z.getD (i %(n+1)) undef) (parts.toList.map (·.1))) ((parts.toList.map (·.2)).map (jq e)) H nxt=some (v,u,aw,n')):
  cW P o ρ S K w0 w Kn φ (av H) nxt n' v u:=by
 generalize hzs:((bh (len*(n+1))).map fun i=>z.getD (i %(n+1)) undef)=zs at h
 change (match dX ((parts.toList.map (·.2)).map (jq e))with
  |some xs=>
   (match lx (eJ zs) (((parts.toList.map fun(p:Nat×Operand)=>p.1).map fun i=>(i*(n+1),n+1)).zip xs)with
   |some cs=>
    (match du H cs with
    |some (ds,aw)=>(match de H aw aw with|some u=>some (TV.c (.dz (n+1) nxt 0 len),(nxt,some (Ob.aJ (n+1) (kL (n+1) len ds)))::u,aw,nxt+1)|none=>none)
    |none=>none)
   |none=>none)
  |none=>none)=_ at h
 split at h
 .rename_i xs hxs;split at h
  .rename_i cs hcs;split at h
   .rename_i ds ids' hv;split at h
    .rename_i u' hfz;obtain⟨rfl,rfl,rfl,rfl⟩:TV.c (.dz (n+1) nxt 0 len)=v/\(nxt,some (Ob.aJ (n+1) (kL (n+1) len ds)))::u'=u/\ids'=aw/\nxt+1=n':=by simpa using h
     have hn:=hn0 (aT _);obtain⟨hl,hr⟩:=tD hρ hxs;obtain⟨zv,hzr,hzl,hzp⟩:=kr hz w
     have hzp':∀x∈zs,dP x=true:=by
      intro x hx;rw[<-hzs]at hx;obtain⟨i,_,rfl⟩:=cz.1 hx;have hlt:i %(n+1)<z.length:=by rw[hlim.2];exact Nat.mod_lt _ (cY _)
      have:z.getD (i %(n+1)) undef=z[i %(n+1)]:=by simp[jl,hlt]
      rw[this];exact hzp _ (List.getElem_mem hlt)
     have hzero:∃zc:Array Value,(len*(n+1)=0->zc= #[])/\(¬len*(n+1)=0->zc=zv.cells)/\
       ((kZ (len*(n+1))).map (fun i=>zc[i %zc.size]!)).toList=zs:=by
      by_cases hc:len*(n+1)=0
      .refine ⟨#[],fun _=>rfl,fun h=>absurd hc h,?_⟩;rw[<-hzs,hc];simp
      .refine ⟨zv.cells,fun h=>absurd h hc,fun _=>rfl,?_⟩;rw[sG hzl hlim.2 (cY _),hzs]
     obtain⟨zc,hzc,hzc1,hzc2⟩:=hzero
     obtain⟨arr',h3,h4⟩:=wX (S:=S) (w:=w) (Kn:=Kn) (φ:=φ) (ρ:=ρ) (fun i=>some (i*(n+1),n+1)) parts.toList _ xs (eJ zs) cs ((kZ (len*(n+1))).map (fun i=>zc[i %zc.size]!))
      (by simp) (fun i p q hp hq=>by simp only[aD,hp,bB]at hq;exact hq) (by simpa using hl)
      (fun i p x hp hx=>hr i p.2 x (by simp only[aD,hp,bB]) hx) (by rw[hzc2];exact E5 hzp') hcs
     obtain⟨h5,h6⟩:=Ag h4
     have hcl:cs.length=len*(n+1):=by
      have:∀(l:List ((Nat×Nat)×TV))(a b:List C),lx a l=some b->b.length=a.length:=by
       intro l;induction l with
       |nil=>
        intro a b h;obtain rfl:a=b:=by simpa[lx]using h
        rfl
       |cons p l ih=>
        intro a b h;obtain⟨⟨off,m⟩,x⟩:=p;simp only[lx]at h;split at h
        .split at h
         .rename_i hb;rw[ih _ _ h,eg _ _ _ (by omega)]
         .simp at h
        .simp at h
      rw[this _ _ _ hcs,<-hzs];simp[eJ]
     obtain⟨h7,h8⟩:=pE hI cs ds ids' hv (fun i=>arr'[i]?) (fun i c hi=>by
      have hlt:i<arr'.size:=by rw[<-h5];exact(ai.1 hi).1
      exact⟨arr'.getD i undef,by simp[hlt],h6 i c hi⟩)
     obtain⟨h9,h10⟩:=Ec (n+1) len ds (by omega);have hI1:=hI.DW hfz
     have hrows:cD (SB S w φ (av H) ids') w (n+1) (fun i=>arr'[i]?) 0 (kL (n+1) len ds):=by
      refine⟨fun i r hi=>(h10 i r hi).2,fun i r hi j x hj=>?_⟩;rw[(h10 i r hi).1,dY]at hj;split at hj
      .rw [bJ]at hj;obtain⟨y,hy,hd⟩:=h8 _ x hj;exact⟨y,by rw[<-hy];simp,hd⟩
      .simp at hj
     have hD:=jz.aJ (K:=K) (w0:=w0) hI1 hn (cap:=len) (aJ:=arr') (sz:=n+1) el (cY n) (by omega) (by omega) hrows;rw[h9]at hD;refine⟨.value _,_,_,?_,.inl rfl,jz.from (u1:=u') (SB.r_ _) rfl hD⟩;have h3':Instr.fill (fun i=>some (i*(n+1),n+1)) ((kZ (len*(n+1))).map (fun i=>zc[i %zc.size]!)) (parts.map fun p=>(p.1,ρ p.2)).toList=some arr':=by rw[<-h3];simp
     have hlim':¬len*(n+1)>2^24:=by have:=hlim.1;omega
     simp only[execOp,ho,Sem.run_bind,Instr.buildSlice,bE hu,Result.andThen_ok,fq hs,if_neg hlim'];by_cases hc:len*(n+1)=0
     .rw [hzc hc]at h3';simp only[if_pos hc,Sem.run_bind,Sem.run_pure,Result.andThen_ok,h3',newRow,run_newObj]
     .rw [hzc1 hc]at h3';simp only[if_neg hc,Sem.run_bind,hzr,Sem.run_pure,Result.andThen_ok,h3',newRow,run_newObj]
    .simp at h
   .simp at h
  .simp at h
 .simp at h
end
section
variable{P:Program}{S K:Nat->Prop}{w0 w:World}{Kn:Nat->Prop}{φ:Nat->fE}{H:bz}{e:iE}{ρ:Operand->Value}{o:Oper}{call:Call}
 {nxt n':Nat} {v:TV} {u:eG} {aw:List Nat}
theorem mC{el:TypeId}(h:ju P el=true):∃i,P.info? el=some i/\0<i.bytes/\i.bytes<=16384:=by
 unfold ju at h;split at h
 .rename_i i hi;simp only[Bool.and_eq_true,decide_eq_true_eq]at h;exact⟨i,hi,h.1,h.2⟩
 .simp at h
theorem sT{t el:TypeId}{n:Nat}{l c:Operand}{z:List Value}(ho:o.op=.makeSlice t l c)(hu:P.underlying t=some (.slice el))
  (hs:ew P el=some (n+1)) (hz:f_ P el=some z) (hzl:z.length=n+1) (hb:ju P el=true)
  (hI:Inv S K w0 Kn φ (av H) w) (hn0:nxt<n'->¬Kn nxt) {tl tc:Option TV} (hl:∀y,tl=some y->eU S w Kn φ y (ρ l)) (hc:∀y,tc=some y->eU S w Kn φ y (ρ c))
  (h:cm call (.makeSlice z) [tl,tc] H nxt=some (v,u,aw,n')):cW P o ρ S K w0 w Kn φ (av H) nxt n' v u:=by
 change (match b_ tl,b_ tc with
  |some l,some c=>if 0<=l/\l<=c/\c<=xF then some (TV.c (.dz z.length nxt 0 l.toNat),[(nxt,some (Ob.aJ z.length (az l.toNat (ce z))))],([]:List Nat),nxt+1)else none
  |_,_=>none)=_ at h
 split at h
 .rename_i a b ha hb';split at h
  .rename_i hle;obtain⟨h0,h1,h2⟩:=hle;obtain⟨rfl,rfl,rfl,rfl⟩:TV.c (.dz z.length nxt 0 a.toNat)=v/\[(nxt,some (Ob.aJ z.length (az a.toNat (ce z))))]=u/\[]=aw/\nxt+1=n':=by simpa using h
   have hn:=hn0 (aT _);obtain⟨k1,hk1⟩:=ig ha hl;obtain⟨k2,hk2⟩:=ig hb' hc;obtain⟨i,hi,hby0,hby⟩:=mC hb;obtain⟨zv,hzr,hzv,hzp⟩:=kr hz w;simp only[xF]at h2;have hwa:IntKind.i64.wrap a=a:=rU h0 (by omega);have hwb:IntKind.i64.wrap b=b:=rU (by omega) (by omega);have hmul:(i.bytes:Int)*b<=16384*2147483648:=Int.mul_le_mul (by omega) (by omega) (by omega) (by omega);have hsz:(z.length)=zv.cells.size:=by rw[<-hzv];simp
   let aJ:Array Value:=(kZ (b.toNat*(n+1))).map (fun i=>zv.cells[i %zv.cells.size]!);have harr:aJ.toList=(bh (b.toNat*(n+1))).map fun i=>z.getD (i %(n+1)) undef:=sG hzv hzl (cY _);have hsize:aJ.size=b.toNat*(n+1):=by simp[aJ]
   have hrows:cD S w (n+1) (fun i=>aJ[i]?) 0 (az a.toNat (ce z)):=by
    refine⟨fun i r hi=>?_,fun i r hi j x hj=>?_⟩
    .obtain ⟨_,rfl⟩:i<a.toNat/\ce z=r:=by
      rw[c9]at hi;split at hi
      .rename_i hlt;exact⟨hlt,aa hi⟩
      .simp at hi
     simp[ce,hzl]
    .obtain ⟨hlt,rfl⟩:i<a.toNat/\ce z=r:=by
      rw[c9]at hi;split at hi
      .rename_i hlt;exact⟨hlt,aa hi⟩
      .simp at hi
     simp only[ce,aD]at hj;obtain⟨y,hy,rfl⟩:=aB.1 hj;have hjl:j<n+1:=by rw[<-hzl];exact(ai.1 hy).1
     refine⟨y,?_,.lit (hzp y (aQ hy))⟩;have hidx:i*(n+1)+j<b.toNat*(n+1):=by have:(i+1)*(n+1)<=b.toNat*(n+1):=aH _ (by omega);rw[dm]at this;omega
     show aJ[0+i*(n+1)+j]?=some y;rw[<-aY,harr,bG,aD,gA hidx];have e1:(i*(n+1)+j) %(n+1)=j:=by rw[Nat.add_comm,Nat.add_mul_mod_self_right];exact Nat.mod_eq_of_lt hjl
     simp[e1,jl,hy]
   have hD:=jz.aJ (K:=K) (w0:=w0) hI hn (cap:=b.toNat) (aJ:=aJ) el (cY n) (by simp;omega) (by rw[hsize];exact ao _) hrows;rw[cP]at hD;rw[hzl];refine⟨.value (.slice (some ⟨w.heap.size,0,none⟩) a.toNat b.toNat),_,_,?_,.inl rfl,hD⟩;have hinfo:∀w:World,(typeInfo el).run P w=.ok i w:=fun w=>by simp[typeInfo,hi]
   have harr0:∀zc:Array Value,(b.toNat*(n+1)=0->zc= #[])->(¬b.toNat*(n+1)=0->zc=zv.cells)->((kZ (b.toNat*(n+1))).map (fun i=>zc[i %zc.size]!))=aJ:=by
    intro zc h1 h2;by_cases hc0:b.toNat*(n+1)=0
    .apply Array.ext';rw[harr,hc0];simp
    .rw [h2 hc0]
   have hnl:¬(decide (b<0)||decide ((i.bytes:Int)*b>2^48))=true:=by simp only[bY,decide_eq_true_eq,not_or];constructor<;>omega
   simp only[execOp,ho,Sem.run_bind,Instr.makeSlice,bE hu,Result.andThen_ok,t6 hk1,t6 hk2,hinfo,hwa,hwb];rw[Sem.run_ite,if_neg (by simp only[bY,decide_eq_true_eq];simp only[bY,decide_eq_true_eq]at hnl;omega)];simp only[Sem.run_pure,Result.andThen_ok,Sem.run_bind,run_askRoom,fq hs];by_cases hc0:b.toNat*(n+1)=0
   .have:=harr0 #[] (fun _=>rfl) (fun h=>absurd hc0 h);simp only[if_pos hc0,Sem.run_bind,Sem.run_pure,Result.andThen_ok,newRow,run_newObj,this]
   .have:=harr0 zv.cells (fun h=>absurd h hc0) (fun _=>rfl);simp only[if_neg hc0,Sem.run_bind,hzr,Sem.run_pure,Result.andThen_ok,newRow,run_newObj,this]
  .simp at h
 .simp at h
theorem It{t el:TypeId}{n m:Nat}{l c:Operand}{z:List Value}(ho:o.op=.makeSlice t l c)(hu:P.underlying t=some (.slice el))
  (hs:ew P el=some (n+1)) (hz:f_ P el=some z) (hzl:z.length=n+1) (hb:ju P el=true) (hz1:zS z=true) (hm:0<m)
  (hI:Inv S K w0 Kn φ (av H) w) (hn0:nxt<n'->¬Kn nxt) {tl tc:Option TV} (hl:∀y,tl=some y->eU S w Kn φ y (ρ l)) (hc:∀y,tc=some y->eU S w Kn φ y (ρ c))
  (h:cm call (.yF m) [tl,tc] H nxt=some (v,u,aw,n')):cW P o ρ S K w0 w Kn φ (av H) nxt n' v u:=by
 obtain rfl:z=[.slice none 0 0]:=by
  unfold zS at hz1;split at hz1
  .rfl
  .simp at hz1
 change (match b_ tl,b_ tc with
  |some l,some c=>if 0<=l/\l<=c/\c<=xF then some (TV.c (.dz 1 nxt 0 l.toNat),[(nxt,some (Ob.nst m (az l.toNat .nil)))],([]:List Nat),nxt+1)else none
  |_,_=>none)=_ at h
 split at h
 .rename_i a b ha hb';split at h
  .rename_i hle;obtain⟨rfl,rfl,rfl,rfl⟩:TV.c (.dz 1 nxt 0 a.toNat)=v/\[(nxt,some (Ob.nst m (az a.toNat .nil)))]=u/\[]=aw/\nxt+1=n':=by simpa using h
   have hev:cm call (.makeSlice [.slice none 0 0]) [tl,tc] H nxt=some (TV.c (.dz 1 nxt 0 a.toNat),[(nxt,some (Ob.aJ 1 (az a.toNat (ce [.slice none 0 0]))))],[],nxt+1):=by
    show(match b_ tl,b_ tc with
     |some l,some c=>if 0<=l/\l<=c/\c<=xF then some (TV.c (.dz ([.slice none 0 0]:List Value).length nxt 0 l.toNat),[(nxt,some (Ob.aJ ([.slice none 0 0]:List Value).length (az l.toNat (ce [.slice none 0 0]))))],([]:List Nat),nxt+1)else none
     |_,_=>none)=_
    rw[ha,hb'];show(if 0<=a/\a<=b/\b<=xF then _ else _)=_;rw[if_pos hle];rfl
   obtain⟨nx,val,w',h1,h2,h3,S',φ',h4,h5,h6,h7⟩:=sT ho hu hs hz hzl hb hI hn0 hl hc hev;refine⟨nx,val,w',h1,h2,h3,S',φ',h4,h5,h6,?_⟩;have e1:bg [(nxt,some (Ob.aJ 1 (az a.toNat (ce [.slice none 0 0]))))] (av H) nxt=some (.aJ 1 (az a.toNat (ce [.slice none 0 0]))):=by rw[bC,if_pos rfl]
   obtain⟨_,hro⟩:=h7.gg nxt _ e1
   have h8:=h7.Qj (o':=.nst m (az a.toNat .nil)) e1 rfl (fun sz sl k aj e hk=>by
    cases e;rw[c9]at hk;split at hk<;>cases hk) (by
    cases hro with
    |aJ hsz hl hS hK hown hext hfit hrr hv=>
     rw[cP]at hv hfit;refine .nst hm hl hS hK hown hext (by rw[cP];omega) (fun i s hi=>?_) (by rw[cP];exact hv);rw[c9]at hi;split at hi
     .rename_i hlt;obtain rfl:=aa hi;obtain⟨v,q1,q2⟩:=hrr.2 i (ce [.slice none 0 0]) (by rw[c9,if_pos hlt]) 0 _ rfl;cases q2 with|lit _=>exact⟨_,by rw[<-q1];simp,.nil⟩
     .cases hi)
   have e2:bg [(nxt,some (Ob.nst m (az a.toNat .nil)))] (bg [(nxt,some (Ob.aJ 1 (az a.toNat (ce [.slice none 0 0]))))] (av H))=bg [(nxt,some (Ob.nst m (az a.toNat .nil)))] (av H):=by
    funext j;simp only[bC,dN];by_cases e:nxt=j
    .rw [if_pos e,if_pos e]
    .rw [if_neg e,if_neg e,if_neg e]
   rw[e2]at h8;exact h8
  .simp at h
 .simp at h
theorem CR.mono{S':Nat->Prop}{w':World}{Kn':Nat->Prop}{φ':Nat->fE}(hs:fw S w S' w')(hr:Ren Kn φ Kn' φ'){cs:List C}{vs:List Value}(h:CR S w Kn φ cs vs):CR S' w' Kn' φ' cs vs:=⟨h.1,fun i x y hx hy=>(h.2 i x y hx hy).mono hs hr⟩
theorem OU{cs:List C}{aJ:Array Value}(h1:cs.length=aJ.size)(h2:∀(i:Nat)(x:C),cs[i]?=some x->RC S w Kn φ x (aJ.getD i undef)):CR S w Kn φ cs aJ.toList:=by
 refine⟨by simpa using h1,fun i x y hx hy=>?_⟩;have:=h2 i x hx;rw[aY]at hy;have e1:aJ.getD i undef=y:=by simp[hy]
 rwa[e1]at this
theorem kU{b o n:Nat}{aJ:Array Value}{vs:List Value}(ho:kP w b aJ)(hn:vs.length=n):
  kP (w.setRow b (aJ.toList.take o++vs++aJ.toList.drop (o+n)).toArray) b (aX aJ.toList o vs).toArray/\
  (∀c,c≠b->(w.setRow b (aJ.toList.take o++vs++aJ.toList.drop (o+n)).toArray).heap[c]?=w.heap[c]?)/\
  (w.setRow b (aJ.toList.take o++vs++aJ.toList.drop (o+n)).toArray).heap.size=w.heap.size/\
  (∀a,(w.setRow b (aJ.toList.take o++vs++aJ.toList.drop (o+n)).toArray).frozen? a=w.frozen? a)/\
  (o+n<=aJ.size->∀arr1,kP w b arr1->∃arr',kP (w.setRow b (aJ.toList.take o++vs++aJ.toList.drop (o+n)).toArray) b arr'/\arr'.size=arr1.size):=by
 rw[NF hn];refine⟨ww ho,fun c hc=>setRow_other w b c _ hc,by simp,x5 ho,fun hle arr1 h1=>⟨_,ww ho,?_⟩⟩;obtain⟨t1,h1⟩:=h1;obtain⟨t2,h2⟩:=ho;rw[h1]at h2;obtain rfl:arr1=aJ:=by simp at h2;exact h2.1
 simp only[cj];rw[eg _ _ _ (by simp;omega)];simp
theorem Inv.Ay{hf hf':Nat->Option Ob}{S':Nat->Prop}{w':World}(_:Inv S K w0 Kn φ hf w)(hs:fw S w S' w')(hI:Inv S' K w0 Kn φ hf' w'){u:eG}{n:Nat}(he:hf'=bg u hf):
  jz S K w0 w Kn φ hf n n (.gR []) u undef w':=
 ⟨ao _,S',φ,hs,ol _ _,.gR rfl (fun i x hi=>by simp at hi),he▸hI.kn fun _ h=>.inl h⟩
theorem A5{sz aL cC off:Nat}{aj:List (List D)}{r ds:List D}{aJ:Array Value}{vs:List Value}(h:cD S w sz (fun i=>aJ[i]?) aL aj)(hrow:aj[cC]?=some r)
  (hfit:off+ds.length<=r.length) (hl:ds.length=vs.length) (hd:∀(i:Nat)(x:D),ds[i]?=some x->∃y,vs[i]?=some y/\RD S w x y) (hsz:aL+aj.length*sz<=aJ.size):
  cD S w sz (fun i=>(aX aJ.toList (aL+cC*sz+off) vs).toArray[i]?) aL (aj.set cC (aX r off ds)):=by
 have hrl:=h.1 cC r hrow;have hlt:cC<aj.length:=(ai.1 hrow).1;have hmul:(cC+1)*sz<=aj.length*sz:=aH _ (by omega);rw[dm]at hmul;have hget:∀k,(aX aJ.toList (aL+cC*sz+off) vs).toArray[k]?=if k<aL+cC*sz+off then aJ[k]?else if k<aL+cC*sz+off+vs.length then vs[k-(aL+cC*sz+off)]?else aJ[k]?:=by intro k;rw[<-aY];show(aX aJ.toList _ vs)[k]?=_;rw[iw _ _ _ (by simp;omega)];simp only[aY]
 have hsetr:∀i q,(aj.set cC (aX r off ds))[i]?=some q->(i=cC/\q=aX r off ds)\/(i≠cC/\aj[i]?=some q):=by
  intro i q hi;by_cases e1:i=cC
  .subst e1;rw[gI hlt]at hi;exact .inl ⟨rfl,(aa hi).symm⟩
  .rw [List.getElem?_set_ne (fun e=>e1 e.symm)]at hi;exact .inr ⟨e1,hi⟩
 refine⟨fun i q hi=>?_,fun i q hi j z hj=>?_⟩
 .rcases hsetr i q hi with⟨rfl,rfl⟩|⟨_,h1⟩
  .rw [eg _ _ _ hfit];exact hrl
  .exact h.1 i q h1
 .simp only[hget];rcases hsetr i q hi with⟨rfl,rfl⟩|⟨hne,h1⟩
  .rw [iw _ _ _ hfit]at hj;by_cases c1:j<off
   .rw [if_pos c1]at hj;rw[if_pos (by omega)];exact h.2 i r hrow j z hj
   .rw [if_neg c1]at hj;by_cases c2:j<off+ds.length
    .rw [if_pos c2]at hj;obtain⟨y,hy,hr⟩:=hd _ z hj;rw[if_neg (by omega),if_pos (by omega)];refine⟨y,?_,hr⟩;rw[<-hy];congr 1;omega
    .rw [if_neg c2]at hj;rw[if_neg (by omega),if_neg (by omega)];exact h.2 i r hrow j z hj
  .have hjl:j<sz:=by rw[<-h.1 i q h1];exact(ai.1 hj).1
   have hout:aL+i*sz+j<aL+cC*sz+off\/aL+cC*sz+off+vs.length<=aL+i*sz+j:=by
    rcases Nat.lt_or_gt_of_ne hne with hlt2|hgt
    .have:(i+1)*sz<=cC*sz:=aH _ (by omega);rw[dm]at this;omega
    .have:(cC+1)*sz<=i*sz:=aH _ (by omega);rw[dm]at this;omega
   rcases hout with c|c
   .rw [if_pos c];exact h.2 i q h1 j z hj
   .rw [if_neg (by omega),if_neg (by omega)];exact h.2 i q h1 j z hj
theorem EG{α:Type}{l:List α}{o:Nat}{v:α}(h:o<l.length):aX l o [v]=l.set o v:=by rw[List.set_eq_take_append_cons_drop,if_pos h];simp[aX]
theorem Lu{id cC sz:Nat}{slots:List jf}{cs:List C}{vs:List Value}{u:eG}{aw:List Nat}{aJ:Array Value}(hI:Inv S K w0 Kn φ (av H) w)(hob:av H id=some (.nst sz slots))(hrow:cC<slots.length)
  (hcr:CR S w Kn φ cs vs) (hlen:cs.length=1) (hown:kP w (φ id).bA aJ) (hfit:(φ id).aL+cC<aJ.size) (h:p_ id cC sz slots cs H=some (u,aw)):
  fw S w S (w.setRow (φ id).bA (aJ.toList.take ((φ id).aL+cC)++vs++aJ.toList.drop ((φ id).aL+cC+1)).toArray)/\
   Inv S K w0 Kn φ (bg u (av H)) (w.setRow (φ id).bA (aJ.toList.take ((φ id).aL+cC)++vs++aJ.toList.drop ((φ id).aL+cC+1)).toArray):=by
 have hvl:vs.length=1:=by rw[<-hcr.1];exact hlen
 obtain⟨p1,p2,p3,p4,_⟩:=kU (w:=w) (b:=(φ id).bA) (o:=(φ id).aL+cC) (n:=1) (vs:=vs) hown hvl;have hio:Io w (w.setRow (φ id).bA (aJ.toList.take ((φ id).aL+cC)++vs++aJ.toList.drop ((φ id).aL+cC+1)).toArray):=⟨rfl,rfl,rfl,ao _⟩
 generalize w.setRow (φ id).bA (aJ.toList.take ((φ id).aL+cC)++vs++aJ.toList.drop ((φ id).aL+cC+1)).toArray=w' at*
 obtain⟨x,rfl⟩:∃x,vs=[x]:=by
  match vs,hvl with|[x],_=>exact⟨x,rfl⟩
 rw[EG (by simpa using hfit)]at p1
 have key:∀s',(fw S w S w'->xy S K w' Kn φ sz s' x)->(∀aj,s'≠.bn aj)->fw S w S w'/\Inv S K w0 Kn φ (bg [(id,some (.nst sz (slots.set cC s')))] (av H)) w':=fun s' h1 h2=>
  hI.QS hob hown p1 (by simp) p2 p3 p4 hio (fun i hi=>by
   rw[br,List.getElem?_set_ne (by omega),aY]) (fun _=>by
   rw[br,gI (by simpa using hfit)]) h1 h2
 unfold p_ at h;split at h
 .obtain ⟨rfl,rfl⟩:[(id,some (Ob.nst sz (slots.set cC .nil)))]=u/\[id]=aw:=by simpa using h
  have hx:=hcr.2 0 _ x rfl rfl;cases hx with
  |d hd=>cases hd with|lit _=>exact key .nil (fun _=>.nil) (fun _ e=>by cases e)
 .rename_i sz' id2 len;split at h
  .rename_i sz2 aj h2;split at h
   .rename_i hc;obtain⟨rfl,rfl,hne⟩:=hc;obtain⟨rfl,rfl⟩:[(id,some (Ob.nst sz' (slots.set cC (.bn aj)))),(id2,none)]=u/\[id,id2]=aw:=by simpa using h
    obtain⟨q1,q2⟩:=key (.jZ id2 aj.length) (fun hs=>.jZ ((hcr.2 0 _ x rfl rfl).mono hs (Ren.refl _ _))) (fun _ e=>by cases e);refine⟨q1,?_⟩;have e1:bg [(id,some (Ob.nst sz' (slots.set cC (.jZ id2 aj.length))))] (av H) id=some (.nst sz' (slots.set cC (.jZ id2 aj.length))):=by rw[bC,if_pos rfl]
    have e2:bg [(id,some (Ob.nst sz' (slots.set cC (.jZ id2 aj.length))))] (av H) id2=some (.aJ sz2 aj):=by rw[bC,if_neg (fun e=>hne e.symm),dN,h2]
    have q3:=q2.KD e1 (gI hrow) e2;rw[List.set_set]at q3
    have e3:bg [(id,some (Ob.nst sz' (slots.set cC (.bn aj)))),(id2,none)] (bg [(id,some (Ob.nst sz' (slots.set cC (.jZ id2 aj.length))))] (av H))=bg [(id,some (Ob.nst sz' (slots.set cC (.bn aj)))),(id2,none)] (av H):=by
     funext j;simp only[bC,dN];by_cases e:id=j
     .rw [if_pos e,if_pos e]
     .rw [if_neg e,if_neg e,if_neg e]
    rw[e3]at q3;exact q3
   .simp at h
  .simp at h
 .simp at h
theorem Is{t:TypeId}{n:Nat}{a x:Operand}(ho:o.op=.store t a x)(hs:ew P t=some n)(hI:Inv S K w0 Kn φ (av H) w)
  {ta tx:Option TV} (ha:∀y,ta=some y->eU S w Kn φ y (ρ a)) (hx:∀y,tx=some y->eU S w Kn φ y (ρ x))
  (h:cm call (.store n) [ta,tx] H nxt=some (v,u,aw,n')):cW P o ρ S K w0 w Kn φ (av H) nxt n' v u:=by
 match ta,tx,h,ha,hx with
 |some (.c p),some tv,h,ha,hx=>
  change (match kF n p tv H with|some (u,aw)=>some (TV.gR [],u,aw,nxt)|none=>none)=_ at h;split at h
  .rename_i u' ids' dA;obtain⟨rfl,rfl,rfl,rfl⟩:TV.gR []=v/\u'=u/\ids'=aw/\nxt=n':=by simpa using h
   unfold kF at dA;split at dA
   .simp at dA
   .rename_i cs hcs;split at dA
    .rename_i hlen;have hcr:=(hx _ rfl).cr hcs;obtain⟨_,_,hone⟩:=(hx _ rfl).cells hcs;have hvl:(ρ x).cells.size=n:=by have:=hcr.1;simp at this;omega
     have hr:=ha _ rfl;generalize hv0:ρ a=val at hr
     have run:∀b off aJ,val=.pointer (some ⟨b,off,none⟩)->kP w b aJ->off+n<=aJ.size->
       (execOp ρ o).run P w=.ok .skip (w.setRow b (aJ.toList.take off++(ρ x).cells.toList++aJ.toList.drop (off+n)).toArray):=by
      intro b off aJ hv hown hfit;simp[execOp,ho,hv0,hv,Instr.storeAt,Instr.sureAddr,Lj hs hown hvl hfit hone]
     cases hr with
     |c hr=>
     split at dA
     .rename_i id cC off;split at dA
      .rename_i sz aj hob;split at dA
       .rename_i r ds ids1 hrow hvw;split at dA
        .rename_i u1 hfz;split at dA
         .rename_i hb;obtain⟨hb1,hb2⟩:=hb;obtain⟨rfl,rfl⟩:(id,some (Ob.aJ sz (aj.set cC (aX r off ds))))::u1=u'/\id::ids1=ids':=by simpa using dA
          have hnm:id∉ids1:=by simpa using hb2
          obtain⟨hdl,hds⟩:=pE hI cs ds ids1 hvw (fun i=>(ρ x).cells.toList[i]?) (fun i c hi=>by
           have hlt:i<(ρ x).cells.toList.length:=by rw[<-hcr.1];exact(ai.1 hi).1
           exact⟨_,au hlt,hcr.2 i c _ hi (au hlt)⟩)
          have hI1:=hI.DW hfz;have hob1:bg u1 (av H) id=some (.aJ sz aj):=by simp only[bg,(jQ ids1 u1 hfz id).2 hnm,hob]
          obtain⟨hk,h0⟩:=hI1.gg _ _ hob1;generalize hphi:φ id=l at*;cases h0 with
          |@aJ _ _ aJ hsz hl hS hK hown hext hfit hrr hvis=>
           cases hr with
           |ep hk'=>
            rw[hphi]at run;subst hl;have hrl:=hrr.1 cC r hrow;have hrowlt:cC<aj.length:=(ai.1 hrow).1;have hmul:(cC+1)*l.sz<=aj.length*l.sz:=aH _ (by omega);rw[dm]at hmul;have hfit2:l.aL+cC*l.sz+off+n<=aJ.size:=by rw[hext];omega
            obtain⟨p1,p2,p3,p4,p5⟩:=kU (w:=w) (b:=l.bA) (o:=l.aL+cC*l.sz+off) (n:=n) (vs:=(ρ x).cells.toList) hown (by simpa using hvl);have hset:=hI1.set (o':=.aJ l.sz (aj.set cC (aX r off ds))) hob1 rfl (by rw[hphi];exact p2) p3 p4 (by rw[hphi];exact p5 hfit2) ⟨rfl,rfl,rfl,ao _⟩ (fun dA=>by rw[hphi];have h5:=(A5 (off:=off) (vs:=(ρ x).cells.toList) hrr hrow (by omega) (by rw[hdl];exact hcr.1) hds (by omega)).mono dA;exact .aJ hsz rfl hS hK p1 (by simp only[cj];rw[eg _ _ _ (by simp;omega)];simpa using hext) (by simpa using hfit) h5 (by simpa using hvis));refine⟨.skip,undef,_,run _ _ _ rfl hown hfit2,.inr ⟨rfl,rfl⟩,hI.Ay ((SB.r_ ids1).trans hset.1) hset.2 ?_⟩;rw[<-dO];rfl
         .simp at dA
        .simp at dA
       .simp at dA
      .rename_i sz slots hob;split at dA
       .rename_i hc;obtain⟨rfl,rfl,hrow⟩:=hc;obtain⟨hk,h0⟩:=hI.gg _ _ hob;cases h0 with
        |@nst _ _ aJ hsz hl hS hK hown hext hfit hrr hvis=>cases hr with|ep hk'=>obtain⟨q1,q2⟩:=Lu hI hob hrow hcr hlen hown (by omega) dA;have hrun:=run (φ id).bA ((φ id).aL+cC*(φ id).sz+0) aJ rfl hown (by rw[hl];omega);rw[hl,iV,cu]at hrun;refine⟨.skip,undef,_,hrun,.inr ⟨rfl,rfl⟩,hI.Ay q1 q2 rfl⟩
       .simp at dA
      .simp at dA
     .rename_i id off;split at dA
      .rename_i cells hob;split at dA
       .rename_i hb;obtain⟨rfl,rfl⟩:[(id,some (Ob.box (aX cells off cs)))]=u'/\[id]=ids':=by simpa using dA
        obtain⟨hk,h0⟩:=hI.gg _ _ hob;generalize hphi:φ id=l at*;cases h0 with
        |@box _ aJ hbase hS hK hown hlen2 hrr=>cases hr with|op hk'=>rw[hphi,hbase,bG]at run;obtain⟨p1,p2,p3,p4,p5⟩:=kU (w:=w) (b:=l.bA) (o:=off) (n:=n) (vs:=(ρ x).cells.toList) hown (by simpa using hvl);have hset:=hI.set (o':=.box (aX cells off cs)) hob rfl (by rw[hphi];exact p2) p3 p4 (by rw[hphi];exact p5 (by omega)) ⟨rfl,rfl,rfl,ao _⟩ (fun dA=>by rw[hphi];have h5:=((OU hlen2 hrr).aX hcr off (by omega)).mono dA (Ren.refl _ _);obtain⟨h6,h7⟩:=Ag (aJ:=(aX aJ.toList off (ρ x).cells.toList).toArray) (by rw[List.toList_toArray];exact h5);exact .box hbase hS hK p1 h6 h7);exact⟨.skip,undef,_,run _ _ _ rfl hown (by omega),.inr ⟨rfl,rfl⟩,hI.Ay hset.1 hset.2 rfl⟩
       .simp at dA
      .simp at dA
     .simp at dA
    .simp at dA
  .simp at h
end
section
variable{P:Program}{S K:Nat->Prop}{w0 w:World}{Kn:Nat->Prop}{φ:Nat->fE}{H:bz}{e:iE}{ρ:Operand->Value}{o:Oper}{call:Call}
 {nxt n':Nat} {v:TV} {u:eG} {aw:List Nat}
theorem pf{sz b addr:Nat}{aj:List (List D)}(hsz:0<sz)(h:cD S w sz (fun i=>w.cell? ⟨b,i,none⟩) addr aj):
  ∃aJ,(∀w':World,w'.heap=w.heap->(loadCells ⟨b,addr,none⟩ (aj.length*sz)).run P w'=.ok aJ w')/\aJ.size=aj.length*sz/\cD S w sz (fun i=>aJ[i]?) 0 aj/\∀x∈aJ.toList,one x=true:=by
 have hcell:∀k,k<aj.length*sz->∃y,w.cell? ⟨b,addr+k,none⟩=some y/\one y=true:=by
  intro k hk;have h1:k/sz<aj.length:=Nat.div_lt_of_lt_mul (by rw[ir];exact hk);have h2:=h.1 (k/sz) aj[k/sz] (au h1);have h3:k %sz<aj[k/sz].length:=by rw[h2];exact Nat.mod_lt _ hsz
  obtain⟨y,hy,hr⟩:=h.2 (k/sz) aj[k/sz] (au h1) (k %sz) _ (au h3);refine⟨y,?_,hr.one⟩;rw[<-hy];have:=Nat.div_add_mod k sz;rw[ir]at this;show w.cell? ⟨b,addr+k,none⟩=w.cell? ⟨b,addr+k/sz*sz+k %sz,none⟩;congr 2;omega
 refine⟨((bh (aj.length*sz)).map fun j=>(w.cell? ⟨b,addr+j,none⟩).getD undef).toArray,fun w' hw=>run_loadCells w' ⟨b,addr,none⟩ _ (fun j=>(w.cell? ⟨b,addr+j,none⟩).getD undef) fun j hj=>?_,by simp,
  ⟨h.1,fun i r hi j x hj=>?_⟩,fun x hx=>?_⟩
 .obtain ⟨y,hy,_⟩:=hcell j hj;have:w'.cell? ⟨b,addr+j,none⟩=w.cell? ⟨b,addr+j,none⟩:=by unfold World.cell?;rw[hw]
  rw[kO,this,hy];rfl
 .obtain ⟨y,hy,hr⟩:=h.2 i r hi j x hj;refine⟨y,?_,hr⟩;have hil:i<aj.length:=(ai.1 hi).1;have hjl:j<sz:=by rw[<-h.1 i r hi];exact(ai.1 hj).1
  have hm:(i+1)*sz<=aj.length*sz:=aH _ hil;rw[dm]at hm;simp only at hy;have hlt:0+i*sz+j<aj.length*sz:=by omega
  have e1:addr+(0+i*sz+j)=addr+i*sz+j:=by omega
  show(((bh (aj.length*sz)).map fun j=>(w.cell? ⟨b,addr+j,none⟩).getD undef).toArray)[0+i*sz+j]?=some y;rw[<-aY,aD,gA hlt];simp only[bB,e1,hy,eO]
 .simp only[cz,List.mem_range]at hx;obtain⟨k,hk,rfl⟩:=hx;obtain⟨y,hy,h1⟩:=hcell k hk;rw[hy];exact h1
def KN(P:Program)(S:Nat->Prop)(w:World)(sz:Nat)(xv:Value)(new:List (List D))(aJ:Array Value):Prop:=
 (∀w':World,w'.heap=w.heap->(Builtin.lenOf xv).run P w'=.ok new.length w'/\(Builtin.firstCells sz new.length xv).run P w'=.ok aJ w')/\
 aJ.size=new.length*sz/\cD S w sz (fun i=>aJ[i]?) 0 new/\∀x∈aJ.toList,one x=true
theorem yT{sz b addr len cap:Nat}{new:List (List D)}(hsz:0<sz)(hl:new.length=len)(h:cD S w sz (fun i=>w.cell? ⟨b,i,none⟩) addr new):
  ∃aJ,KN P S w sz (.slice (some ⟨b,addr,none⟩) len cap) new aJ:=by
 subst hl;obtain⟨aJ,h1,h2,h3,h4⟩:=pf (P:=P) hsz h;exact⟨aJ,fun w' hw=>⟨rfl,h1 w' hw⟩,h2,h3,h4⟩
theorem Db{sz:Nat}{x:C}{xv:Value}{new:List (List D)}(hsz:0<sz)(hI:Inv S K w0 Kn φ (av H) w)(hr:RC S w Kn φ x xv)(h:ic sz H x=some (new,aw)):
  ∃aJ,KN P S w sz xv new aJ:=by
 unfold ic at h;split at h
 .obtain ⟨rfl,rfl⟩:[]=new/\[]=aw:=by simpa using h
  cases hr with
  |d hd=>cases hd with|lit hp=>exact⟨#[],fun w' _=>⟨rfl,rfl⟩,by simp,⟨fun i r hi=>by simp at hi,fun i r hi=>by simp at hi⟩,fun x hx=>by simp at hx⟩
 .rename_i sz' aj;split at h
  .rename_i e1;subst e1;obtain⟨rfl,rfl⟩:aj=new/\[]=aw:=by simpa using h
   cases hr with
   |d hd=>cases hd with
    |sl f hb hsz0 hcap hrow hcell hrd=>exact yT hsz rfl ⟨hrow,fun i r hi j x hj=>⟨_,hcell i r hi j x hj,hrd i r hi j x hj⟩⟩
    |q9 hsz0=>exact⟨#[],fun w' _=>⟨rfl,by
      have h0:([]:List (List D)).length*sz'=0:=by simp
      simp only[Builtin.firstCells,h0];rfl⟩,by simp,⟨fun i r hi=>by simp at hi,fun i r hi=>by simp at hi⟩,fun x hx=>by simp at hx⟩
  .simp at h
 .rename_i sz' id off len
  have key:∀szo aj,(av H id=some (.aJ szo aj)\/av H id=some (.nL szo aj))->(if sz'=sz/\off+len<=aj.length then some ((aj.drop off).take len,[id])else none)=some (new,aw)->
    ∃aJ,KN P S w sz xv new aJ:=by
   intro szo aj ho hq;split at hq
   .rename_i hb;obtain⟨e1,hle⟩:=hb;subst e1;obtain⟨rfl,rfl⟩:=ad (aa hq);obtain⟨hsz1,hl,hR⟩:=lQ hI ho;subst hl;cases hr with|dz hk hcap haddr hext=>exact yT hsz1 (by simp;omega) (hR.u6 off len fun h=>haddr (by omega))
   .simp at hq
  split at h
  .exact key _ _ (.inl (by assumption)) h
  .exact key _ _ (.inr (by assumption)) h
  .simp at h
 .simp at h
theorem L4(need:Nat)(c:Nat):Builtin.growBy need 4 c<=3*c+3072:=by
 simp only[Builtin.growBy]
 repeat' split
 all_goals omega
theorem zI{need cap:Nat}(h1:need<=2147483648)(h2:cap<need):Builtin.nextslicecap need cap<=6442454016:=by
 unfold Builtin.nextslicecap;split
 .omega
 .split
  .omega
  .have:=L4 need cap;omega
theorem Inv.MP{hf:Nat->Option Ob}{w':World}{b:Nat}(h:Inv S K w0 Kn φ hf w)(hS:¬S b)(hK:¬K b)(hfree:∀i o,hf i=some o->cq o=true->b∉fX w φ hf i)
  (hother:∀c,c≠b->w'.heap[c]?=w.heap[c]?) (hsize:w'.heap.size=w.heap.size) (hfrz:∀a,w'.frozen? a=w.frozen? a)
  (hsz:∀aJ,kP w b aJ->∃arr',kP w' b arr'/\arr'.size=aJ.size) (hio:Io w w'):fw S w S w'/\Inv S K w0 Kn φ hf w':=by
 have hs:fw S w S w':=⟨fun _ h=>h,fun c hc=>hother c (fun e=>hS (e▸hc))⟩
 refine⟨hs,h.iD hs (Ren.refl _ _) (fun c hc=>hsize▸h.qZ c hc) h.sk ⟨h.lG.DO,fun c hc=>(hother c (fun e=>hK (e▸hc))).trans (h.lG.lr c hc),hsize▸h.lG.grow,fun a ha=>(hfrz a).trans (h.lG.yL a ha),h.lG.wv hother hsz,h.lG.io.trans hio⟩ ?_ h.ei fun id sz sl hi=>⟨hi,hother _ fun e=>hfree id _ hi rfl (e▸iZ id),fun k x hp=>⟨hother x fun e=>hfree id _ hi rfl (dj.2 (.inr ⟨sz,sl,k,hi,e▸hp⟩)),(h.Dr hi hp).1,(h.sq id sz sl k x hi hp).1⟩⟩⟩;intro id o ho;exact .inl ⟨ho,fun hown=>⟨hother _ fun e=>hfree id o ho hown (e▸iZ id),((h.gg id o ho).2.bn hown).1⟩⟩
theorem y_{w':World}{hf:Nat->Option Ob}{i:Nat}(h:w'.heap[(φ i).bA]?=w.heap[(φ i).bA]?):fX w' φ hf i=fX w φ hf i:=by
 have key:∀(l:fE),w'.heap[l.bA]?=w.heap[l.bA]?->∀(sl:List jf)(k:Nat),pU w' l sl k=pU w l sl k:=by
  intro l hl sl;induction sl with
  |nil=>intro k;rfl
  |cons s sl ih=>intro k;cases s with|bn aj=>simp only[pU,ih,kM hl]|_=>exact ih (k+1)
 unfold fX;congr 1;split
 .exact key _ h _ _
 .rfl
theorem og{sz aL:Nat}{a b:List (List D)}{get:Nat->Option Value}(h1:cD S w sz get aL a)(h2:cD S w sz get (aL+a.length*sz) b):cD S w sz get aL (a++b):=by
 have key:∀(i:Nat)(r:List D),(a++b)[i]?=some r->a[i]?=some r\/(a.length<=i/\b[i-a.length]?=some r):=by
  intro i r hi;by_cases hc:i<a.length
  .rw [List.getElem?_append_left hc]at hi;exact .inl hi
  .rw [List.getElem?_append_right (by omega)]at hi;exact .inr ⟨by omega,hi⟩
 refine⟨fun i r hi=>?_,fun i r hi j x hj=>?_⟩
 .rcases key i r hi with h|⟨_,h⟩
  .exact h1.1 i r h
  .exact h2.1 _ r h
 .rcases key i r hi with h|⟨hle,h⟩
  .exact h1.2 i r h j x hj
  .obtain ⟨y,hy,hr⟩:=h2.2 _ r h j x hj;refine⟨y,?_,hr⟩;rw[<-hy];congr 1;have:a.length*sz+(i-a.length)*sz=i*sz:=by rw[<-bI];congr 1;omega
   omega
theorem RC.gE{sz id off len:Nat}{v:Value}(h:RC S w Kn φ (.dz sz id off len) v):∃cap addr,v=.slice (some ⟨(φ id).bA,addr,none⟩) len cap/\(φ id).sz=sz/\Kn id/\len<=cap/\
  (0<cap->addr=(φ id).aL+off*(φ id).sz)/\addr+cap*(φ id).sz<=(φ id).ext/\off+cap=(φ id).cap:=by
 cases h with|dz hk hcap haddr hext hc=>exact⟨_,_,rfl,rfl,hk,hcap,haddr,hext,hc⟩
theorem Gp{c:kf}{s x:Operand}{st xt el el2:TypeId}{n:Nat}{z:List Value}(ho:o.op=.call c)(hcal:c.callee=.builtin .append)(hargs:c.args= #[s,x])(hts:c.argTypes= #[st,xt])
  (hus:P.underlying st=some (.slice el)) (hux:P.underlying xt=some (.slice el2)) (hsz:ew P el=some (n+1)) (hz:f_ P el=some z) (hzl:z.length=n+1) (hby:ju P el=true)
  (hI:Inv S K w0 Kn φ (av H) w) (hn0:nxt<n'->¬Kn nxt) {ta tx:Option TV} (ha:∀y,ta=some y->eU S w Kn φ y (ρ s)) (hx:∀y,tx=some y->eU S w Kn φ y (ρ x))
  (h:cm call (.append (n+1)) [ta,tx] H nxt=some (v,u,aw,n')):cW P o ρ S K w0 w Kn φ (av H) nxt n' v u:=by
 obtain⟨inf,hinf,hb0,hb1⟩:=mC hby;obtain⟨zv,hzr,hzv,_⟩:=kr hz w
 match ta,tx,h,ha,hx with
 |some (.c sc),some (.c xc),h,ha,hx=>
  change mA (n+1) sc xc H nxt=_ at h;unfold mA at h;split at h
  .simp at h
  .rename_i new ids1 hrx;cases hx _ rfl with
   |c hxr=>
   obtain⟨narr,hel,hns,hnR,hnone⟩:=Db (P:=P) (sz:=n+1) (cY n) hI hxr hrx;have hinfo:∀w:World,(typeInfo el).run P w=.ok inf w:=fun w=>by simp[typeInfo,hinf]
   have hzr':∀w:World,(zeroValue el).run P w=.ok zv w:=by intro w';simp only[zeroValue,typeInfo,Sem.run_bind,run_program,Result.andThen_ok,hinf,Sem.run_pure]at hzr|-;cases hzz:inf.zero with|none=>rw[hzz]at hzr;simp at hzr|some q=>rw[hzz]at hzr;simp at hzr|-;exact hzr
   have hunx:∀w:World,(underlying xt).run P w=.ok (.slice el2) w:=bE hux
   -- what the model does where there is no gO
   have grows:∀(aL:Option Addr)(sLen sCap:Nat)(old:Array Value),ρ s=.slice aL sLen sCap->sCap<sLen+new.length->sLen+new.length<=2147483648->
     (∀w':World,w'.heap=w.heap->(Builtin.firstCells (n+1) sLen (.slice aL sLen sCap)).run P w'=.ok old w')->
     ∃newCap,sLen+new.length<=newCap/\(execOp ρ o).run P w=.ok (.value (.slice (some ⟨w.heap.size,0,none⟩) (sLen+new.length) newCap))
      {({w with drawn:=w.drawn+1}:World)with heap:=w.heap.push (.cells (old++narr++Builtin.zeroCells zv.cells (newCap-(sLen+new.length))) el)}:=by
    intro aL sLen sCap old hs hlt hle hold;refine⟨(Question.appendCap (sLen+new.length) sCap el).cut (w.tape w.drawn (.appendCap (sLen+new.length) sCap el)),by simp[Question.cut],?_⟩;have hcap:¬Builtin.nextslicecap (sLen+new.length) sCap*inf.bytes>2^48:=by have h1:=zI hle hlt;have h2:Builtin.nextslicecap (sLen+new.length) sCap*inf.bytes<=6442454016*16384:=Nat.mul_le_mul h1 hb1;omega
    have hbz:¬inf.bytes=0:=by omega
    have hnle:¬sLen+new.length<=sCap:=by omega
    have ho2:=hold {w with drawn:=w.drawn+1} rfl;have hn2:=(hel {w with drawn:=w.drawn+1} rfl).2;have hl2:=(hel w rfl).1
    simp only[execOp,ho,hcal,resolve,hargs,Sem.run_bind,Sem.run_pure,Result.andThen_ok,invoke,builtin,Builtin.append_,hts,cL,aq,aS,hs,br,
     bO,cN,bE hus,fq hsz,hunx,hl2,hnle,if_false,hinfo,hcap,hbz,aN,or_self,and_false,run_choose,Question.forced,run_askRoom,ho2,hn2,hzr',newRow,run_newObj,dG,if_true]
   have room_new:¬Kn nxt->∀(k:Nat)(_:w.drawn<=k)(hf:Nat->Option Ob)(aj:List (List D))(aJ:Array Value)(cap:Nat),Inv S K w0 Kn φ hf w->aj.length<=cap->cap*(n+1)<=aJ.size->cD S w (n+1) (fun i=>aJ[i]?) 0 aj->
     jz S K w0 w Kn φ hf nxt (nxt+1) (.c (.dz (n+1) nxt 0 aj.length)) [(nxt,some (.aJ (n+1) aj))] (.slice (some ⟨w.heap.size,0,none⟩) aj.length cap)
      {({w with drawn:=k}:World)with heap:=w.heap.push (.cells aJ el)}:=by
    intro hn k hk hf aj aJ cap hI1 h1 h2 h3;obtain⟨a1,S',φ',a2,a3,a4,a5⟩:=jz.aJ (hI1.pu k hk) hn el (cY n) h1 h2 (h3.mono (fw.pu S w k));exact⟨a1,S',φ',(fw.pu S w k).trans a2,a3,a4,a5⟩
   have zsize:∀m,(Builtin.zeroCells zv.cells m).size=m*(n+1):=by
    intro m;have:zv.cells.size=n+1:=by rw[<-hzl,<-hzv];simp
    simp[Builtin.zeroCells,this]
   split at h
   .--a nil slice
    split at h
    .rename_i hle;simp only[xF]at hle;obtain⟨hv,_⟩:=(ha _ rfl).lit;cases new with
     |nil=>
      obtain⟨rfl,rfl,rfl,rfl⟩:TV.c (.d (.lit (.slice none 0 0)))=v/\[]=u/\ids1=aw/\nxt=n':=by simpa using h
      refine cW.pure hI ?_ (ha _ rfl);have hl2:=(hel w rfl).1;have hn2:=(hel w rfl).2;simp only[fI]at hl2 hn2
      simp only[execOp,ho,hcal,resolve,hargs,Sem.run_bind,Sem.run_pure,Result.andThen_ok,invoke,builtin,Builtin.append_,hts,cL,aq,aS,hv,br,
       bO,cN,bE hus,fq hsz,hunx,hl2,ao,if_true,dG,hn2,aN,if_false,cu]
     |cons q new=>
      obtain⟨rfl,rfl,rfl,rfl⟩:TV.c (.dz (n+1) nxt 0 (q::new).length)=v/\[(nxt,some (Ob.aJ (n+1) (q::new)))]=u/\ids1=aw/\nxt+1=n':=by simpa using h
      obtain⟨newCap,hnc,hrun⟩:=grows none 0 0 #[] hv (by simp) (by simpa using hle) (fun w' _=>rfl);rw[bG]at hrun hnc;refine⟨.value _,_,_,hrun,.inl rfl,room_new (hn0 (aT _)) _ (bk _) _ _ _ _ hI hnc ?_ ?_⟩
      .simp only[dL,hns,zsize,cj,fI];rw[bG,<-bI];exact aH _ (by omega)
      .refine ⟨hnR.1,fun i r hi j x hj=>?_⟩;obtain⟨y,hy,hr⟩:=hnR.2 i r hi j x hj;refine⟨y,?_,hr⟩;have hlt:=(be.1 hy).1;simp only at hy|-;rw[bw (by simp;omega)];simpa using hy
    .simp at h
   .--a slice of one's bn
    rename_i sz' id off len;split at h
    .rename_i szo aj hob;split at h
     .rename_i hb;obtain⟨e1,hle,hlim⟩:=hb;subst e1;simp only[xF]at hlim;obtain⟨rfl,rfl,rfl,rfl⟩:TV.c (.dz (n+1) nxt 0 (len+new.length))=v/\[(id,none),(nxt,some (Ob.aJ (n+1) ((aj.drop off).take len++new++aj.drop (off+len+new.length))))]=u/\id::ids1=aw/\nxt+1=n':=by simpa using h
      have hn:=hn0 (aT _);have hr:=ha _ rfl;generalize hv0:ρ s=val at hr;cases hr with
      |c hr=>
      have hlen:((aj.drop off).take len).length=len:=by simp;omega
      have hlen2:((aj.drop off).take len++new).length=len+new.length:=by simp;omega
      have hku:∀hf:Nat->Option Ob,bg [(id,none),(nxt,some (Ob.aJ (n+1) ((aj.drop off).take len++new++aj.drop (off+len+new.length))))] hf=bg [(nxt,some (Ob.aJ (n+1) ((aj.drop off).take len++new++aj.drop (off+len+new.length))))] (bg [(id,none)] hf):=by intro hf;have hne:id≠nxt:=fun e=>hn (e▸(hI.gg _ _ hob).1);rw[<-dO];exact kQ (u:=[(id,none)]) fun p hp q hq=>by obtain rfl:=am.1 hp;obtain rfl:=am.1 hq;exact hne
      have hkill:Inv S K w0 Kn φ (bg [(id,none)] (av H)) w:=hI.j5 fun i o ho=>by
       rw[bC]at ho;split at ho
       .simp at ho
       .exact ho
      obtain⟨hk0,h0⟩:=hI.gg _ _ hob;generalize hphi:φ id=l at*;cases h0 with
      |@aJ _ _ aJ hsz0 hl hS hK hown hext hfit hrr hvis=>
      obtain⟨cap,addr,rfl,hszl,hk,hcap,haddr,hextc,hcl⟩:=hr.gE;rw[hphi]at hv0 haddr hextc hszl hcl;have e2:szo=n+1:=by rw[<-hl,hszl]
      subst e2;rw[hl]at haddr hextc;have hR:∀len',len'=len->cD S w (n+1) (fun i=>aJ[i]?) addr ((aj.drop off).take len'):=fun len' e=>by subst e;exact hrr.u6 off len' fun h=>haddr (by omega)
      have hRc:cD S w (n+1) (fun i=>w.cell? ⟨l.bA,i,none⟩) addr ((aj.drop off).take len):=⟨(hR len rfl).1,fun i r hi j x hj=>let⟨y,hy,hd⟩:=(hR len rfl).2 i r hi j x hj;⟨y,(hown.cell _).trans hy,hd⟩⟩
      by_cases hroom:len+new.length<=cap
      .--there is gO
       have hl2:=(hel w rfl).1;have hn2:=(hel w rfl).2;have hcm:(len+new.length)*(n+1)<=cap*(n+1):=aH _ hroom;rw[bI]at hcm;obtain⟨ty,hty⟩:=hown;have dA:=run_storeCells_at P l.bA (addr+len*(n+1)) ty narr.toList 0 aJ w hty (by simp only[bQ,hns];omega) (fun v hv=>by rw[lW];exact hnone v hv);simp only[cu,bQ,hns]at dA;have hown:kP w l.bA aJ:=⟨ty,hty⟩
       obtain⟨p1,p2,p3,p4,p5⟩:=kU (w:=w) (b:=l.bA) (o:=addr+len*(n+1)) (n:=new.length*(n+1)) (vs:=narr.toList) hown (by simpa using hns);have hio:Io w (w.setRow l.bA (aJ.toList.take (addr+len*(n+1))++narr.toList++aJ.toList.drop (addr+len*(n+1)+new.length*(n+1))).toArray):=⟨rfl,rfl,rfl,ao _⟩
       generalize hw':w.setRow l.bA (aJ.toList.take (addr+len*(n+1))++narr.toList++aJ.toList.drop (addr+len*(n+1)+new.length*(n+1))).toArray=w' at*
       have hrun:(execOp ρ o).run P w=.ok (.value (.slice (some ⟨l.bA,addr,none⟩) (len+new.length) cap)) w':=by
        simp only[execOp,ho,hcal,resolve,hargs,Sem.run_bind,Sem.run_pure,Result.andThen_ok,invoke,builtin,Builtin.append_,hts,cL,aq,aS,hv0,br,
         bO,cN,bE hus,fq hsz,hunx,hl2,hroom,if_true,dG,hn2,aN,if_false,kO,dA]
       have hfree:∀i o,bg [(id,none)] (av H) i=some o->cq o=true->l.bA∉fX w φ (bg [(id,none)] (av H)) i:=by
        intro i o hi ho hm;have hi':=hi;rw[bC]at hi';split at hi'
        .simp at hi'
        .rename_i hne;rw[ff rfl (hi.trans hi'.symm)]at hm;exact kN hI hi' hob ho rfl (fun e=>hne e.symm) hm (by rw[<-hphi];exact iZ id)
       obtain⟨hs1,hI1⟩:=hkill.MP hS hK hfree p2 p3 p4 (p5 (by omega)) hio;have hget:∀k,(aX aJ.toList (addr+len*(n+1)) narr.toList).toArray[k]?=if k<addr+len*(n+1)then aJ[k]?else if k<addr+len*(n+1)+narr.size then narr[k-(addr+len*(n+1))]?else aJ[k]?:=by intro k;rw[<-aY];show(aX aJ.toList _ narr.toList)[k]?=_;rw[iw _ _ _ (by simp only[bQ,hns];omega)];simp only[aY,bQ]
       have hrows:cD S w' (n+1) (fun i=>(aX aJ.toList (addr+len*(n+1)) narr.toList).toArray[i]?) addr ((aj.drop off).take len++new):=by
        refine og (cD.mono hs1 ⟨(hR len rfl).1,fun i r hi j x hj=>?_⟩) (cD.mono hs1 ⟨hnR.1,fun i r hi j x hj=>?_⟩)
        .obtain ⟨y,hy,hd⟩:=(hR len rfl).2 i r hi j x hj;refine⟨y,?_,hd⟩;have hil:i<len:=by rw[<-hlen];exact(ai.1 hi).1
         have hjl:j<n+1:=by rw[<-(hR len rfl).1 i r hi];exact(ai.1 hj).1
         have hm:(i+1)*(n+1)<=len*(n+1):=aH _ hil;rw[dm]at hm;show(aX aJ.toList (addr+len*(n+1)) narr.toList).toArray[_]?=_;rw[hget,if_pos (by omega)];exact hy
        .obtain ⟨y,hy,hd⟩:=hnR.2 i r hi j x hj;refine⟨y,?_,hd⟩;have hlt:=(be.1 hy).1;show(aX aJ.toList (addr+len*(n+1)) narr.toList).toArray[_]?=_;rw[hlen,hget,if_neg (by omega),if_pos (by omega)];rw[<-hy];show narr[_]?=narr[_]?;congr 1;omega
       have hsz':(aX aJ.toList (addr+len*(n+1)) narr.toList).toArray.size=l.ext:=by simp only[cj];rw[eg _ _ _ (by simp only[bQ,hns];omega)];simpa using hext
       have hLl:(aj.drop (off+len+new.length)).length=aj.length-(off+len+new.length):=by simp
       have hLR:cD S w (n+1) (fun i=>aJ[i]?) (addr+(len+new.length)*(n+1)) (aj.drop (off+len+new.length)):=by
        have h7:=hrr.u6 (addr:=addr+(len+new.length)*(n+1)) (off+len+new.length) (aj.length-(off+len+new.length)) fun h=>by have:=haddr (by omega);rw[this,ct off len new.length,bI off (len+new.length)];omega
        rwa[List.take_of_length_le (by rw[hLl];omega)]at h7
       have hrows2:cD S w' (n+1) (fun i=>(aX aJ.toList (addr+len*(n+1)) narr.toList).toArray[i]?) addr ((aj.drop off).take len++new++aj.drop (off+len+new.length)):=by refine og hrows ?_;rw[hlen2];refine cD.mono hs1 ⟨hLR.1,fun i r hi j x hj=>?_⟩;obtain⟨y,hy,hd⟩:=hLR.2 i r hi j x hj;refine⟨y,?_,hd⟩;show(aX aJ.toList (addr+len*(n+1)) narr.toList).toArray[_]?=_;rw[hget,if_neg (by rw[bI];omega),if_neg (by rw[hns,bI];omega)];exact hy
       have hlen3:((aj.drop off).take len++new++aj.drop (off+len+new.length)).length<=cap:=by rw[List.length_append,hlen2,hLl];omega
       have hname:=hI1.name hn ⟨l.bA,addr,n+1,l.ext,cap⟩ (.aJ (n+1) ((aj.drop off).take len++new++aj.drop (off+len+new.length))) (fun _ j b hj hb hm=>hfree j b hj hb (by rwa[y_ (p2 _ fun e=>hfree j b hj hb (e▸iZ j))]at hm))
        (.aJ (cY n) rfl hS hK p1 hsz' (by have h8:=aH (n+1) hlen3;simp only;omega) hrows2 hlen3)
       refine⟨.value _,_,_,hrun,.inl rfl,bk _,S,_,hs1,⟨fun _ h=>.inl h,(fW _ hn).dw⟩,.c ?_,(hku (av H)▸hname).rC fun j=>jM j⟩;have e:ext φ nxt ⟨l.bA,addr,n+1,l.ext,cap⟩ nxt=⟨l.bA,addr,n+1,l.ext,cap⟩:=by simp[ext]
       have:=RC.dz (S:=S) (w:=w') (Kn:=mE Kn nxt (nxt+1)) (φ:=ext φ nxt ⟨l.bA,addr,n+1,l.ext,cap⟩) (id:=nxt) (off:=0) (len:=len+new.length) (cap:=cap) (addr:=addr)
        (.inr (by omega)) hroom (by rw[e];simp) (by rw[e];exact hextc) (by rw[e];simp)
       rw[e]at this;exact this
      .--there is none
       obtain⟨old,hold,hos,hoR,hoone⟩:=pf (P:=P) (sz:=n+1) (cY n) hRc;rw[hlen]at hold hos;obtain⟨newCap,hnc,hrun⟩:=grows (some ⟨l.bA,addr,none⟩) len cap old hv0 (by omega) hlim (fun w' hw=>hold w' hw);refine⟨.value _,_,_,hrun,.inl rfl,?_⟩
       have hD:=room_new hn (w.drawn+1) (bk _) (bg [(id,none)] (av H)) ((aj.drop off).take len++new) (old++narr++Builtin.zeroCells zv.cells (newCap-(len+new.length))) newCap hkill (by rw[hlen2];exact hnc)
        (by simp only[dL,hos,hns,zsize];rw[<-bI,<-bI];exact aH _ (by omega))
        (by
         refine og ⟨hoR.1,fun i r hi j x hj=>?_⟩ ⟨hnR.1,fun i r hi j x hj=>?_⟩
         .obtain ⟨y,hy,hd⟩:=hoR.2 i r hi j x hj;refine⟨y,?_,hd⟩;have hlt:=(be.1 hy).1;show(old++narr++_)[_]?=_;rw[bw (by rw[dL];omega),bw hlt];exact hy
         .obtain ⟨y,hy,hd⟩:=hnR.2 i r hi j x hj;refine⟨y,?_,hd⟩;have hlt:=(be.1 hy).1;show(old++narr++_)[_]?=_;rw[hlen,bw (by rw[dL,hos];omega),Array.getElem?_append_right (by rw[hos];omega)];rw[<-hy,hos];show narr[_]?=narr[_]?;congr 1;omega)
       rw[hlen2]at hD;obtain⟨q1,S',φ',q2,q3,q4,q5⟩:=hD;have hL0:aj.drop (off+len+new.length)=[]:=List.drop_eq_nil_of_le (by omega);exact⟨q1,S',φ',q2,q3,q4,by rw[hku,hL0,List.append_nil];exact q5⟩
     .simp at h
    .simp at h
   .simp at h
end
end Go.Ev
