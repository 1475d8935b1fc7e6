/- The model's operations, one by one, against the abstract machine's. Conditions: the relation of XEvC. -/
import Derived.Test.YtjjajcecekocdaaGreatEvF
open Array renaming getElem?_append_left->bM,getElem?_eq_some_iff->aY,getElem?_toList->aW,length_toList->ei,range->js,size_append->eD
open Bool renaming false_eq_true->aE,not_false->lh,or_eq_true->fM
open Go renaming Call->kO
open Ieee.Format renaming read->lD
open List renaming all_eq_true->aV,getElem?_cons_succ->bR,getElem?_cons_zero->bz,getElem?_drop->bL,getElem?_eq_getElem->az,getElem?_eq_some_iff->aj,getElem?_map->aL,getElem?_range->ik,getElem?_replicate->dp,getElem?_set_self->iz,getElem?_take->eK,getElem?_toArray->bc,length_cons->dJ,length_nil->gw,length_replicate->dm,map_cons->ap,map_nil->aN,map_toArray->cj,mem_map->eh,mem_of_getElem?->bd,mem_singleton->aq,range->eJ,replicate->aB,size_toArray->g_
open Nat renaming add_assoc->cS,add_mul->bK,add_zero->cY,le_refl->am,le_succ->a_,lt_succ_self->aQ,mul_le_mul_right->aI,mul_one->ld,succ_mul->dT,succ_pos->cQ,zero_add->bk
open Option renaming getD_some->cm,map_eq_some_iff->aM,map_some->bn
open Option.some renaming inj->aa
open Prod.mk renaming inj->ad
namespace Go.Ev
abbrev uX:=FuncId->Bool×List Bool
def qU(P:Program)(fields:Array Field):List Nat->Option (List (Nat×Nat))
 |[]=>some []
 |i::r=>
  match fields[i]?,qU P fields r with
  |some f,some l=>match eM P f.type with|some n=>some ((f.offset,n)::l)|none=>none
  |_,_=>none
def nX:Nat->Value
 |0=>.slice none 0 0
 |1=>.pointer none
 |_=>.nilFunc
def wi:Nat->Operand->Bool
 |0,.const (.slice none 0 0)|1,.const (.pointer none)|2,.const .nilFunc=>true
 |_,_=>false
def Mu(P:Program)(g:TypeId->Option (List Kd)):List Field->Nat->Option (List Kd)
 |[],_=>some []
 |f::r,o=>
  if f.offset=o/\f.name≠ "_" then
   match g f.type with|some ks=>if eM P f.type=some ks.length then(match Mu P g r (o+ks.length)with|some l=>some (ks++l)|none=>none)else none|none=>none
  else none
def zm(P:Program):Nat->TypeId->Option (List Kd)
 |0,_=>none
 |d+1,t=>
  match P.underlying t with
  |some .bool=>if eM P t=some 1 then some [.b]else none
  |some (.int q)=>if eM P t=some 1 then some [.i q]else none
  |some .string=>if eM P t=some 1 then some [.s]else none
  |some (.array n e)=>match zm P d e with|some ks=>if eM P e=some ks.length/\eM P t=some (n*ks.length)then some (aB n ks).flatten else none|none=>none
  |some (.struct fs)=>match Mu P (zm P d) fs.toList 0 with|some ks=>if P.stoodInHeld t=false/\eM P t=some ks.length then some ks else none|none=>none
  |_=>none
def Do(P:Program)(t:TypeId):Option Bool:=((P.info? t).bind (·.zero)).map fun|.agg _=>true|_=>false
def qX(P:Program)(k e:TypeId):Option (Bool×List Kd×Bool×List Value):=match fA P k,zm P 8 k,fA P e,gC P e with|some ka,some ks,some va,some z=>if Do P e=some va then some (ka,ks,va,z)else none|_,_,_,_=>none
def qh(kind:Nat)(neg:Bool)(x y:Operand):K×List Operand:=if wi kind y then(.rg kind neg,[x])else if wi kind x then(.rg kind neg,[y])else(.fG,[])
def FJ(P:Program)(op:BinOp)(t:TypeId)(x y:Operand):K×List Operand:=
 match op with
 |.eql|.neq=>
  match P.underlying t with
  |some .bool=>(.uN (op==.neq),[x,y])
  |some (.int _)|some (.float _)|some .string=>(.sy op,[x,y])
  |some (.slice _)=>qh 0 (op==.neq) x y
  |some (.pointer _)=>qh 1 (op==.neq) x y
  |some (.func _ _ _)=>qh 2 (op==.neq) x y
  |some (.struct _)|some (.array _ _)=>match zm P 8 t with|some ks=>if P.eqGuardType P.depth t=false then(.yH (op==.neq) ks,[x,y])else(.fG,[])|none=>(.fG,[])
  |_=>(.fG,[])
 |op=>(.sy op,[x,y])
def kI(P:Program)(e:TypeId):Bool:=match P.info? e with|some i=>decide (0<i.bytes)&&decide (i.bytes<=16384)|none=>false
def sZ(P:Program)(b:Builtin)(args:List Operand)(ts:List TypeId):K×List Operand:=
 match b,ts with
 |.len,[t]=>match P.underlying t with|some .string=>(.len true,args)|some (.slice _)=>(.len false,args)|_=>(.fG,[])
 |.max,_=>(.rK true,args)
 |.min,_=>(.rK false,args)
 |.append,[s,x]=>
  match P.underlying s,P.underlying x with
  |some (.slice e),some (.slice _)=>match eM P e,gC P e with|some (n+1),some z=>if kI P e=true/\z.length=n+1 then(.append (n+1),args)else(.fG,[])|_,_=>(.fG,[])
  |some (.slice e),some (.int _)=>match eM P e,gC P e with|some (n+1),some z=>if kI P e=true/\z.length=n+1 then(.NX z,args)else(.fG,[])|_,_=>(.fG,[])
  |_,_=>(.fG,[])
 |.cap,[t]=>match P.underlying t with|some (.slice _)=>(.EI,args)|_=>(.fG,[])
 |.copy,[d,_]=>
  match P.underlying d with
  |some (.slice e)=>match eM P e with|some (n+1)=>(.copy (n+1),args)|_=>(.fG,[])
  |_=>(.fG,[])
 |.delete,[m,_]=>
  match P.underlying m with
  |some (.map kt e)=>match qX P kt e with|some (ka,ks,_,_)=>(.sR ka ks,args)|none=>(.fG,[])
  |_=>(.fG,[])
 |.clear,[s]=>
  match P.underlying s with
  |some (.slice e)=>match eM P e,gC P e with|some (n+1),some z=>if z.length=n+1 then(.clear z,args)else(.fG,[])|_,_=>(.fG,[])
  |_=>(.fG,[])
 |_,_=>(.fG,[])
def IQ(P:Program)(f:FuncId):Bool:=
 match P.funcs[f]?with
 |some fn=>
  !(fn.name== "runtime.NumGoroutine")&&fn.body.isNone&&(Extern.findNext fn).isNone&&(Extern.allGenericRows.lookup fn.name).isNone&&(Extern.allTypedRows.lookup fn.name).isNone&&(Extern.allRows.lookup fn.name).isNone&&fn.origin== "slices.overlaps" &&
  (match fn.params.toList with
   |t::_=>(match P.underlying t with|some (.slice e)=>(match eM P e with|some (_+1)=>true|_=>false)|_=>false)
   |[]=>false)
 |none=>false
def A1:List Value->Bool
 |[.slice none 0 0]=>true
 |_=>false
def Fm(P:Program)(bq:uX)(e:TypeId)(z:List Value):Option Nat:=if(bq 1000000000).1=true/\A1 z=true then(match P.underlying e with|some (.slice ee)=>(match eM P ee with|some (m+1)=>some (m+1)|_=>none)|_=>none)else none
def FO(P:Program)(bq:uX)(e:TypeId)(z:List Value):Option Nat:=if(bq 1000000001).1=true/\eM P e=some 1/\kI P e=true then Fm P bq e z else none
def FP(P:Program)(bq:uX)(b:Builtin)(args:List Operand)(ts:List TypeId):Option (K×List Operand):=
 match b,args,ts with
 |.append,[s,x],[st,xt]=>
  match P.underlying st,P.underlying xt with
  |some (.slice el),some (.slice _)=>match gC P el with|some z=>(match FO P bq el z with|some m=>some (.Dg m,[s,x])|none=>none)|none=>none
  |_,_=>none
 |_,_,_=>none
def JP(P:Program)(bq:uX)(e:TypeId)(z:List Value)(len:Nat)(parts:List (Nat×Operand)):Option (K×List Operand):=match len,parts with|1,[(0,x)]=>(match FO P bq e z with|some m=>some (.Hi m,[x])|none=>none)|_,_=>none
def Cz(P:Program)(t:TypeId):Bool:=match P.underlying t with|some (.slice _)=>true|_=>false
def wU(P:Program)(bq:uX):Op->K×List Operand
 |.move x|.assign x=>(.mv,[x])
 |.pick c a b=>(.pick,[c,a,b])
 |.alloc e=>match gC P e with|some z=>(.alloc z,[])|none=>(.fG,[])
 |.box _ x=>(.box,[x])
 |.build t parts=>
  match P.underlying t,gC P t with
  |some (.struct fields),some z=>match qU P fields (parts.toList.map (·.1))with|some pl=>if fields.toList.all (fun f=>(eM P f.type).isSome)then(.build z pl,parts.toList.map (·.2))else(.fG,[])|none=>(.fG,[])
  |some (.array _ e),some z=>match eM P e with|some n=>(.build z (parts.toList.map fun p=>(p.1*n,n)),parts.toList.map (·.2))|none=>(.fG,[])
  |_,_=>(.fG,[])
 |.buildSlice t len parts=>
  match P.underlying t with
  |some (.slice e)=>
   match eM P e,gC P e with
   |some (n+1),some z=>match JP P bq e z len parts.toList with|some r=>r|none=>if len*(n+1)<=4096/\z.length=n+1/\(bq 1000000002).1=true then(.NP (n+1) len ((eJ (len*(n+1))).map fun i=>z.getD (i %(n+1)) undef) (parts.toList.map (·.1)),parts.toList.map (·.2))else if len*(n+1)<=4096/\z.length=n+1 then(.buildSlice (n+1) len ((eJ (len*(n+1))).map fun i=>z.getD (i %(n+1)) undef) (parts.toList.map (·.1)),parts.toList.map (·.2))else(.fG,[])
   |_,_=>(.fG,[])
  |_=>(.fG,[])
 |.load t a=>match fA P t,eM P t with|some g,some n=>(if(bq 1000000000).1=true/\Cz P t=true/\g=false/\n=1 then .uj else .load g n,[a])|_,_=>(.fG,[])
 |.store t a x=>match eM P t with|some n=>(.store n,[a,x])|none=>(.fG,[])
 |.nilCheck x=>(.nilCheck,[x])
 |.binOp op t x y _=>FJ P op t x y
 |.unOp op _ x=>(.un op,[x])
 |.convert s d x=>match P.underlying s,P.underlying d with|some (.int _),some (.int k)=>(.vC k,[x])|some (.int _),some (.float k)=>(.C3 k,[x])|some .string,some .string=>(.sY,[x])|_,_=>(.fG,[])
 |.makeFunc (.func f) first captured=>if first.isEmpty then(.GA f,captured.toList)else(.fG,[])
 |.makeSlice t l c=>
  match P.underlying t with
  |some (.slice e)=>match eM P e,gC P e with|some (n+1),some z=>if z.length=n+1/\kI P e=true then(match Fm P bq e z with|some m=>.Aa m|none=>.makeSlice z,[l,c])else(.fG,[])|_,_=>(.fG,[])
  |_=>(.fG,[])
 |.slice t x lo hi none=>
  match P.underlying t with
  |some .string=>(.slice true 1 lo.isSome hi.isSome,x::lo.toList++hi.toList)
  |some (.slice e)=>match eM P e with|some n=>(.slice false n lo.isSome hi.isSome,x::lo.toList++hi.toList)|none=>(.fG,[])
  |_=>(.fG,[])
 |.slice t x (some l) (some u) (some m)=>
  match P.underlying t with
  |some (.slice e)=>match eM P e with|some n=>(.vT n,[x,l,u,m])|none=>(.fG,[])
  |_=>(.fG,[])
 |.fieldAddr s x f=>
  match P.underlying s with
  |some (.struct fields)=>match fields[f]?with|some fl=>(match eM P fl.type with|some (m+1)=>(.fieldAddr fl.offset (m+1),[x])|_=>(.fG,[]))|none=>(.fG,[])
  |_=>(.fG,[])
 |.field s x f=>
  match P.underlying s with
  |some (.struct fields)=>match fields[f]?with|some fl=>(match fA P fl.type,eM P fl.type with|some g,some n=>(.field g fl.offset n,[x])|_,_=>(.fG,[]))|none=>(.fG,[])
  |_=>(.fG,[])
 |.indexAddr t x i=>
  match P.underlying t with
  |some (.slice e)=>match eM P e with|some n=>if(bq 1000000002).1=true then(.SM n,[x,i])else(.indexAddr none n,[x,i])|none=>(.fG,[])
  |some (.array len e)=>match eM P e with|some n=>(.indexAddr (some len) n,[x,i])|none=>(.fG,[])
  |_=>(.fG,[])
 |.index t x i=>
  match P.underlying t with
  |some .string=>(.pC,[x,i])
  |some (.array len e)=>match fA P e,eM P e with|some g,some n=>(.index g len n,[x,i])|_,_=>(.fG,[])
  |_=>(.fG,[])
 |.extract x i=>(.extract i,[x])
 |.makeMap t none=>
  match P.underlying t with
  |some (.map k e)=>match fA P k,fA P e with|some ka,some va=>(.makeMap ka va,[])|_,_=>(.fG,[])
  |_=>(.fG,[])
 |.lookup t x ix ok=>
  match P.underlying t with
  |some (.map k e)=>match qX P k e with|some (ka,ks,va,z)=>(.lookup ka ks va z ok,[x,ix])|none=>(.fG,[])
  |_=>(.fG,[])
 |.mapEntry t m k=>
  match P.underlying t with
  |some (.map kt e)=>match qX P kt e with|some (ka,ks,va,z)=>(.mapEntry ka ks va z,[m,k])|none=>(.fG,[])
  |_=>(.fG,[])
 |.mapUpdate t m k x=>
  match P.underlying t with
  |some (.map kt e)=>match qX P kt e with|some (ka,ks,va,z)=>(.sQ ka ks va z.length,[m,k,x])|none=>(.fG,[])
  |_=>(.fG,[])
 |.entryStore t m s x=>
  match P.underlying t with
  |some (.map kt e)=>match qX P kt e with|some (_,_,va,z)=>(.entryStore va z.length,[m,s,x])|none=>(.fG,[])
  |_=>(.fG,[])
 |.call c=>match c.callee with|.builtin b=>(match FP P bq b c.args.toList c.argTypes.toList with|some r=>r|none=>sZ P b c.args.toList c.argTypes.toList)|.value (.func f)=>if(bq f).2.length=9 then(if IQ P f=true then(.MH,c.args.toList)else(.fG,[]))else(.call (bq f).1 (bq f).2,.func f::c.args.toList)|.value f=>(.call false [],f::c.args.toList)|.invoke _ _=>(.fG,[])
 |_=>(.fG,[])
section
variable{P:Program}{S K:Nat->Prop}{w0 w:World}{Kn:Nat->Prop}{φ:Nat->gi}{hf:Nat->Option Ob}
def kp(S K:Nat->Prop)(w0 w:World)(Kn:Nat->Prop)(φ:Nat->gi)(hf:Nat->Option Ob)(nxt n':Nat)(v:TV)(u:eg)(val:Value)(w':World):Prop:=nxt<=n'/\∃S' φ',fX S w S' w'/\ry Kn φ (nz Kn nxt n') φ'/\e_ S' w' (nz Kn nxt n') φ' v val/\Inv S' K w0 (nz Kn nxt n') φ' (aZ u hf) w'
theorem e_.kn{Kn':Nat->Prop}{c:TV}{v:Value}(h:e_ S w Kn φ c v)(hs:∀i,Kn i->Kn' i):e_ S w Kn' φ c v:=h.mono (fX.refl _ _) ⟨hs,fun _ _=>rfl⟩
theorem kp.pure{n:Nat}{v:TV}{val:Value}(hI:Inv S K w0 Kn φ hf w)(h:e_ S w Kn φ v val):kp S K w0 w Kn φ hf n n v [] val w:=⟨am _,S,φ,fX.refl _ _,p9 _ _,h.kn fun _ hi=>.inl hi,hI.kn fun _ hi=>.inl hi⟩
def cU(P:Program)(o:Oper)(ρ:Operand->Value)(S K:Nat->Prop)(w0 w:World)(Kn:Nat->Prop)(φ:Nat->gi)(hf:Nat->Option Ob)(nxt n':Nat)(v:TV)(u:eg):Prop:=∃nx val w',(execOp ρ o).run P w=.ok nx w'/\(nx=.value val\/(nx=.skip/\val=undef))/\kp S K w0 w Kn φ hf nxt n' v u val w'
theorem Jn{v:Value}{tv:TV}(h:cv v=some tv):e_ S w Kn φ tv v:=by
 unfold cv at h;split at h
 .rename_i cs;split at h
  .rename_i hp;obtain rfl:=aa h;refine .agg (by simp) fun i x hi=>?_;rw[aL]at hi;obtain⟨y,hy,rfl⟩:=aM.1 hi;have hlt:i<cs.size:=by simpa using(aj.1 hy).1
   have e:cs.getD i undef=y:=by rw[aW]at hy;simp[hy]
   rw[e];exact .d (.lit (aV.1 hp y (bd hy)))
  .simp at h
 .split at h
  .rename_i hp;obtain rfl:=aa h;exact .c (.d (.lit hp))
  .simp at h
def hZ.ok(S:Nat->Prop)(w:World)(Kn:Nat->Prop)(φ:Nat->gi)(e:hZ)(tmps:Array Value):Prop:=∀t x,bQ e t=some x->e_ S w Kn φ x (tmps.getD t undef)
theorem tO{e:hZ}{a:Act}(hg:Bx S w)(hE:hZ.ok S w Kn φ e a.tmps){x:Operand}{tv:TV}(h:jB e x=some tv):e_ S w Kn φ tv (a.eval x):=by
 cases x with
 |tmp t=>exact hE t tv h
 |const v=>exact Jn h
 |global g=>obtain⟨d,hd,rfl⟩:=aM.1 (show(Ps g).map (fun d=>TV.c (.d d))=some tv from h);exact .c (.d (hg g d hd))
 |func f=>
  obtain rfl:TV.c (.d (.fn f []))=tv:=by simpa[jB]using h
  exact .c (.d (.fn rfl fun j x hj=>by simp at hj))
inductive su:Value->Value->Prop
 |lit {v:Value} (h:eR v=true):su v v
 |nan {k:FloatKind} {n m:Nat} (hn:w_ k n) (hm:w_ k m):su (.float k n) (.float k m)
 |ex {k:FloatKind} {n:Nat}:su (.complex k n 0) (.float k n)
theorem e_.Gu{v val:Value}(h:e_ S w Kn φ (.c (.d (.lit v))) val):su v val:=by
 cases h with
 |c h=>cases h with
  |d h=>cases h with|lit h=>exact .lit h|nan hn hm=>exact .nan hn hm|ex=>exact .ex
def M_:Value->Bool
 |.float _ _|.complex _ _ _=>true
 |_=>false
theorem e_.lit{v val:Value}(h:e_ S w Kn φ (.c (.d (.lit v))) val)(hf:M_ v=false:=by rfl):val=v/\eR v=true:=by cases h.Gu with|lit hp=>exact⟨rfl,hp⟩|nan=>cases hf|ex=>cases hf
theorem e_.D6{v val:Value}(h:su v val):e_ S w Kn φ (lv v) val:=by cases h with|lit h=>exact .c (.d (.lit h))|nan hn hm=>exact .c (.d (.nan hn hm))|ex=>exact .c (.d .ex)
theorem w_.eq{k:FloatKind}{n:Nat}(h:w_ k n):∃s t,k.format.read n=.nan s t:=by
 unfold w_ Ieee.Datum.isNaN at h;split at h
 .exact ⟨_,_,by assumption⟩
 .cases h
theorem Fq{k:FloatKind}{n:Nat}(h:w_ k n)(y:Nat):k.format.add n y=none/\k.format.sub n y=none/\k.format.mul n y=none/\k.format.div n y=none/\k.format.order n y=none:=by obtain⟨s,t,h⟩:=h.eq;simp[Ieee.Format.add,Ieee.Format.sub,Ieee.Format.mul,Ieee.Format.div,Ieee.Format.order,h,Ieee.Datum.sum,Ieee.Datum.product,Ieee.Datum.quotient,Ieee.Datum.order]
theorem Fp{k:FloatKind}{n:Nat}(h:w_ k n)(y:Nat):k.format.add y n=none/\k.format.sub y n=none/\k.format.mul y n=none/\k.format.div y n=none/\k.format.order y n=none:=by obtain⟨s,t,h⟩:=h.eq;cases hy:k.format.read y<;>simp[Ieee.Format.add,Ieee.Format.sub,Ieee.Format.mul,Ieee.Format.div,Ieee.Format.order,h,hy,Ieee.Datum.opposite,Ieee.Datum.sum,Ieee.Datum.product,Ieee.Datum.quotient,Ieee.Datum.order]
theorem JF{op:BinOp}{k:FloatKind}{n m:Nat}(hn:w_ k n)(hm:w_ k m)(y:Value):nJ op (.float k n) y=nJ op (.float k m) y:=by cases y with|float k' y=>unfold nJ oH AU;obtain⟨a1,a2,a3,a4,a5⟩:=Fq hn y;obtain⟨b1,b2,b3,b4,b5⟩:=Fq hm y;simp only[a1,a2,a3,a4,a5,b1,b2,b3,b4,b5]|_=>rfl
theorem JE{op:BinOp}{k:FloatKind}{n m:Nat}(hn:w_ k n)(hm:w_ k m)(y:Value):nJ op y (.float k n)=nJ op y (.float k m):=by
 cases y with
 |float k' y=>
  by_cases hk:k'=k
  .subst hk;unfold nJ oH AU;obtain⟨a1,a2,a3,a4,a5⟩:=Fp hn y;obtain⟨b1,b2,b3,b4,b5⟩:=Fp hm y;simp only[a1,a2,a3,a4,a5,b1,b2,b3,b4,b5]
  .unfold nJ oH AU;simp only[if_neg hk]
 |_=>rfl
theorem EO{op:BinOp}{a b va vb v:Value}(ha:su a va)(hb:su b vb)(h:nJ op a b=some v):nJ op va vb=some v:=by
 cases ha with
 |ex=>cases hb<;>(unfold nJ oH AU at h;cases h)
 |lit _=>cases hb with|lit _=>exact h|nan hn hm=>rw[<-JE hn hm];exact h|ex=>exfalso;unfold nJ oH AU at h;cases a<;>cases h
 |nan hn hm=>cases hb with|lit _=>rw[<-JF hn hm];exact h|nan hn' hm'=>rw[<-JF hn hm,<-JE hn' hm'];exact h|ex=>unfold nJ oH AU at h;cases h
theorem Fz(k:FloatKind)(x y t:Nat):w_ k ((Question.nanBits k x y).cut t):=by
 cases k with
 |f32=>
  show((lD Ieee.single) ((t %2)*2^31+0x7f800000+1+(t/2) %(2^23-1))).isNaN=true;have h1:((t %2)*2^31+0x7f800000+1+(t/2) %(2^23-1)) %2147483648=0x7f800001+(t/2) %8388607:=by omega
  unfold lD;show(Ieee.Datum.isNaN (if((t %2)*2^31+0x7f800000+1+(t/2) %(2^23-1)) %2147483648<8388608 then _ else if((t %2)*2^31+0x7f800000+1+(t/2) %(2^23-1)) %2147483648<2139095040 then _ else if((t %2)*2^31+0x7f800000+1+(t/2) %(2^23-1)) %2147483648=2139095040 then _ else _))=true;rw[h1,if_neg (by omega),if_neg (by omega),if_neg (by omega)];rfl
 |f64=>
  show((lD Ieee.double) ((t %2)*2^63+0x7ff0000000000000+1+(t/2) %(2^52-1))).isNaN=true;have h1:((t %2)*2^63+0x7ff0000000000000+1+(t/2) %(2^52-1)) %9223372036854775808=0x7ff0000000000001+(t/2) %4503599627370495:=by omega
  unfold lD;show(Ieee.Datum.isNaN (if((t %2)*2^63+0x7ff0000000000000+1+(t/2) %(2^52-1)) %9223372036854775808<4503599627370496 then _ else if((t %2)*2^63+0x7ff0000000000000+1+(t/2) %(2^52-1)) %9223372036854775808<9218868437227405312 then _ else if((t %2)*2^63+0x7ff0000000000000+1+(t/2) %(2^52-1)) %9223372036854775808=9218868437227405312 then _ else _))=true;rw[h1,if_neg (by omega),if_neg (by omega),if_neg (by omega)];rfl
theorem CA(k:FloatKind):w_ k (t_ k):=by cases k<;>(unfold w_;decide)
theorem e_.qx{v:Value}(h:eR v=true):e_ S w Kn φ (lv v) v:=.c (.d (.lit h))
theorem HV{op:BinOp}{t:TypeId}{x y v:Value}(h:oH op x y=some v):(binOp op t x y).run P w=.ok v w/\eR v=true/\(∀a b,(eqGuard op t a b x y).run P w=.ok () w):=by
 have hg:∀a b,(match x,y with|.nilIface,.nilIface=>False|.agg _,.agg _=>False|_,_=>True)->(eqGuard op t a b x y).run P w=.ok () w:=by intro a b hxy;unfold eqGuard;cases op<;>simp<;>(cases x<;>cases y<;>simp_all)
 unfold oH at h;split at h
 .rename_i k a k' b;refine(fun⟨h1,h2⟩=>⟨h1,h2,fun a b=>hg a b trivial⟩:(_/\_)->_) ?_;split at h
  .split at h
   .simp at h
   .rename_i hb;obtain rfl:=aa h;simp[binOp,Op.shift,hb,eR]
  .split at h
   .simp at h
   .rename_i hb;obtain rfl:=aa h;simp[binOp,Op.shift,hb,eR]
  .rename_i op hshl hshr;split at h
   .rename_i hk;subst hk
    split at h<;>first
     |(simp at h;done)
     |(split at h
       .simp at h
       .rename_i hb;obtain rfl:=aa h;simp[binOp,Op.intDiv,hb,eR])
     |(obtain rfl:=aa h
       simp[binOp,Op.intArith,Op.intBits,Op.intCmp,eR])
   .simp at h
 .rename_i k a k' b;refine(fun⟨h1,h2⟩=>⟨h1,h2,fun a b=>hg a b trivial⟩:(_/\_)->_) ?_;split at h
  .rename_i hk;subst hk
   split at h<;>first
    |(simp at h;done)
    |(obtain⟨r,hr,rfl⟩:=aM.1 h
      simp[binOp,Op.floatArith,hr,eR])
    |(obtain rfl:=aa h
      simp[binOp,Op.floatCmp,eR])
  .simp at h
 .rename_i x y;refine(fun⟨h1,h2⟩=>⟨h1,h2,fun a b=>hg a b trivial⟩:(_/\_)->_) ?_
  split at h<;>first
   |(simp at h;done)
   |(split at h
     .simp at h
     .rename_i hb;obtain rfl:=aa h;refine⟨?_,rfl⟩;simp only[binOp,Op.stringOp,if_neg hb,Sem.run_pure])
   |(obtain rfl:=aa h
     simp[binOp,Op.stringOp,eR])
 .simp at h
theorem HW{op:BinOp}{t:TypeId}{x y v:Value}(h:nJ op x y=some v):∃v' n,(binOp op t x y).run P w=.ok v' {w with drawn:=n}/\w.drawn<=n/\su v v'/\(∀a b,(eqGuard op t a b x y).run P w=.ok () w):=by
 unfold nJ at h;split at h
 .rename_i z hz;obtain rfl:=aa h;obtain⟨h1,h2,h3⟩:=HV (P:=P) (w:=w) (t:=t) hz;exact⟨_,w.drawn,h1,am _,.lit h2,h3⟩
 .rename_i hz;clear hz;unfold AU at h;split at h
  .rename_i k a k' b;split at h
   .rename_i hk;subst hk
    have key:∀op',(op'=.add\/op'=.sub\/op'=.mul\/op'=.quo)->op=op'->(Op.floatArith op k a b=(do pure (.float k (<-choose (.nanBits k a b)))))->some (Value.float k (t_ k))=some v->
      ∃v' n,(binOp op t (.float k a) (.float k b)).run P w=.ok v' {w with drawn:=n}/\w.drawn<=n/\su v v'/\(∀x y,(eqGuard op t x y (.float k a) (.float k b)).run P w=.ok () w):=by
     intro op' ho he hf hv;obtain rfl:=aa hv;refine⟨.float k ((Question.nanBits k a b).cut (w.tape w.drawn (.nanBits k a b))),w.drawn+1,?_,a_ _,.nan (CA k) (Fz _ _ _ _),?_⟩
     .have e:binOp op t (.float k a) (.float k b)=Op.floatArith op k a b:=by subst he;rcases ho with rfl|rfl|rfl|rfl<;>simp[binOp]
      rw[e,hf];simp[run_choose,Question.forced]
     .intro x y;subst he;rcases ho with rfl|rfl|rfl|rfl<;>simp[eqGuard]
    split at h
    .split at h
     .rename_i e;exact key .add (by simp) rfl (by unfold Op.floatArith;simp[e]) h
     .cases h
    .split at h
     .rename_i e;exact key .sub (by simp) rfl (by unfold Op.floatArith;simp[e]) h
     .cases h
    .split at h
     .rename_i e;exact key .mul (by simp) rfl (by unfold Op.floatArith;simp[e]) h
     .cases h
    .split at h
     .rename_i e;exact key .quo (by simp) rfl (by unfold Op.floatArith;simp[e]) h
     .cases h
    .cases h
   .cases h
  .cases h
theorem E8{op:UnOp}{x v:Value}(h:Ms op x=some v):(Op.unary op x).run P w=.ok v w/\eR v=true:=by
 unfold Ms at h;split at h
 .split at h
  .obtain rfl:=aa h;simp[Op.unary,eR]
  .simp at h
 .split at h
  .obtain rfl:=aa h;simp[Op.unary,Op.intArith,eR]
  .obtain rfl:=aa h;simp[Op.unary,Op.intBits,eR]
  .simp at h
 .split at h
  .obtain rfl:=aa h;simp[Op.unary,eR]
  .simp at h
 .simp at h
end
section
variable{P:Program}{S K:Nat->Prop}{w0 w:World}{Kn:Nat->Prop}{φ:Nat->gi}{H:bh}{e:hZ}{ρ:Operand->Value}{o:Oper}{call:Call}
 {nxt n':Nat} {v:TV} {u:eg} {au:List Nat}
theorem km(j:Nat):(Kn j\/j=nxt)<->nz Kn nxt (nxt+1) j:=by
 unfold nz;constructor
 .rintro (h|rfl)
  .exact .inl h
  .exact .inr (by omega)
 .rintro (h|h)
  .exact .inl h
  .exact .inr (by omega)
theorem tP(hI:Inv S K w0 Kn φ (ao H) w):¬S w.heap.size/\¬K w.heap.size:=⟨fun h=>Nat.lt_irrefl _ (hI.sJ _ h),fun h=>by have:=hI.nh.Ed _ h;have:=hI.nh.sx;omega⟩
theorem kp.box{hf:Nat->Option Ob}(hI:Inv S K w0 Kn φ (ao H) w)(hh:hf=ao H)(hn:¬Kn nxt){cs:List C}{aF:Array Value}(t:TypeId)(hlen:cs.length=aF.size)
  (h:∀(i:Nat)(x:C),cs[i]?=some x->RC S w Kn φ x (aF.getD i undef)):
  kp S K w0 w Kn φ hf nxt (nxt+1) (.c (.op nxt 0)) [(nxt,some (.box cs))] (.pointer (some ⟨w.heap.size,0,none⟩)) {w with heap:=w.heap.push (.cells aF t)}:=by
 subst hh;obtain⟨nS,nK⟩:=tP hI;have hs:=fX.push (w:=w) hI.sJ (.cells aF t);refine⟨a_ _,S,_,hs,⟨fun _ h=>.inl h,(ga _ hn).dW⟩,.c ?_,(hI.alloc hn aF t 1 0 (.box cs) (.box rfl nS nK (qW w aF t) hlen fun i x hi=>(h i x hi).mono hs (ga _ hn))).sv fun j=>km j⟩;have:=RC.op (S:=S) (w:={w with heap:=w.heap.push (.cells aF t)}) (Kn:=nz Kn nxt (nxt+1)) (φ:=ext φ nxt ⟨w.heap.size,0,1,aF.size,0⟩) (id:=nxt) (off:=0) (.inr (by omega));simpa[ext]using this
theorem kp.aF{hf:Nat->Option Ob}(hI:Inv S K w0 Kn φ hf w)(hn:¬Kn nxt){sz cap:Nat}{rows:List (List D)}{aF:Array Value}(t:TypeId)(hsz:0<sz)
  (hcap:rows.length<=cap) (hfit:cap*sz<=aF.size) (h:cK S w sz (fun i=>aF[i]?) 0 rows):
  kp S K w0 w Kn φ hf nxt (nxt+1) (.c (.bP sz nxt 0 rows.length)) [(nxt,some (.aF sz rows))] (.slice (some ⟨w.heap.size,0,none⟩) rows.length cap) {w with heap:=w.heap.push (.cells aF t)}:=by
 have nS:¬S w.heap.size:=fun h=>Nat.lt_irrefl _ (hI.sJ _ h);have nK:¬K w.heap.size:=fun h=>by have:=hI.nh.Ed _ h;have:=hI.nh.sx;omega
 have hs:=fX.push (w:=w) hI.sJ (.cells aF t);have hrl:rows.length*sz<=cap*sz:=aI _ hcap;refine⟨a_ _,S,_,hs,⟨fun _ h=>.inl h,(ga _ hn).dW⟩,.c ?_,(hI.alloc hn aF t sz cap (.aF sz rows) (.aF hsz rfl nS nK (qW w aF t) rfl (by simp only;omega) (h.mono hs) hcap)).sv fun j=>km j⟩;have e:ext φ nxt ⟨w.heap.size,0,sz,aF.size,cap⟩ nxt=⟨w.heap.size,0,sz,aF.size,cap⟩:=by simp[ext]
 have:=RC.bP (S:=S) (w:={w with heap:=w.heap.push (.cells aF t)}) (Kn:=nz Kn nxt (nxt+1)) (φ:=ext φ nxt ⟨w.heap.size,0,sz,aF.size,cap⟩) (id:=nxt) (off:=0) (len:=rows.length) (cap:=cap) (addr:=0)
  (.inr (by omega)) hcap (by rw[e];simp) (by rw[e];simpa using hfit) (by rw[e];simp)
 rw[e]at this;simpa using this
theorem xX(t:TypeId)(val:Value):(newVar t val).run P w=.ok ⟨w.heap.size,0,none⟩ {w with heap:=w.heap.push (.cells val.cells t)}:=by simp[newVar,newRow,newObj,Sem.run]
theorem IC{z:List Value}{aF:Array Value}(hz:aF.toList=z)(hp:∀x∈z,eR x=true):(eQ z).length=aF.size/\∀(i:Nat)(x:C),(eQ z)[i]?=some x->RC S w Kn φ x (aF.getD i undef):=by
 subst hz;refine⟨by simp[eQ],fun i x hi=>?_⟩;simp only[eQ,aL]at hi;obtain⟨y,hy,rfl⟩:=aM.1 hi;have e:aF.getD i undef=y:=by rw[aW]at hy;simp[hy]
 rw[e];exact .d (.lit (hp y (bd hy)))
theorem Il{t:TypeId}{z:List Value}(ho:o.op=.alloc t)(hz:gC P t=some z)(hI:Inv S K w0 Kn φ (ao H) w)(hn0:nxt<n'->¬Kn nxt)
  (h:bX call (.alloc z) [] H nxt=some (v,u,au,n')):cU P o ρ S K w0 w Kn φ (ao H) nxt n' v u:=by
 obtain⟨rfl,rfl,rfl,rfl⟩:TV.c (.op nxt 0)=v/\[(nxt,some (.box (eQ z)))]=u/\[]=au/\nxt+1=n':=by simpa[bX]using h
 have hn:=hn0 (aQ _);obtain⟨val,hv,hc,hp⟩:=kT hz w;obtain⟨h1,h2⟩:=IC (S:=S) (w:=w) (Kn:=Kn) (φ:=φ) hc hp;refine⟨.value _,_,_,?_,.inl rfl,kp.box hI rfl hn t h1 h2⟩;simp[execOp,ho,Instr.alloc,hv,xX]
theorem MP{t:TypeId}{x:Operand}(ho:o.op=.box t x)(hI:Inv S K w0 Kn φ (ao H) w)(hn0:nxt<n'->¬Kn nxt){tv:Option TV}(hx:∀y,tv=some y->e_ S w Kn φ y (ρ x))
  (h:bX call .box [tv] H nxt=some (v,u,au,n')):cU P o ρ S K w0 w Kn φ (ao H) nxt n' v u:=by
 cases tv with
 |none=>simp[bX]at h
 |some y=>
  simp only[bX]at h;split at h
  .rename_i cs hcs;obtain⟨rfl,rfl,rfl,rfl⟩:TV.c (.op nxt 0)=v/\[(nxt,some (.box cs))]=u/\[]=au/\nxt+1=n':=by simpa using h
   have hn:=hn0 (aQ _);obtain⟨h1,h2,_⟩:=(hx y rfl).cells hcs;refine⟨.value _,_,_,?_,.inl rfl,kp.box hI rfl hn t h1 h2⟩;simp[execOp,ho,Instr.box,xX]
  .simp at h
theorem F9{t:TypeId}{agg:Bool}{n:Nat}(ha:fA P t=some agg)(hs:eM P t=some n)(hI:Inv S K w0 Kn φ (ao H) w){p:C}{pv:Value}(hp:RC S w Kn φ p pv)(hn0:nxt<n'->¬Kn nxt)
  (h:lp agg n p H nxt=some (v,u,au,n')):∃val,(Instr.loadAt t pv).run P w=.ok val w/\kp S K w0 w Kn φ (ao H) nxt n' v u val w:=by
 unfold lp at h;split at h
 case h_2=>simp at h
 rename_i id eU;split at h
 case h_2=>simp at h
 rename_i sz slots ho;split at h
 case isFalse=>simp at h
 rename_i hag;obtain⟨rfl,rfl⟩:=hag;obtain⟨hk,hro⟩:=hI.gF id _ ho;have hl:(φ id).sz=1:=by cases hro with|nst hsz hl=>exact hl
 cases hp with
 |ep hk'=>
  have ea:(⟨(φ id).bT,(φ id).aK+eU*(φ id).sz+0,none⟩:Addr)=⟨(φ id).bT,(φ id).aK+eU,none⟩:=by rw[hl,ld,cY]
  rw[ea];split at h
  .rename_i hsl;obtain⟨rfl,rfl,rfl,rfl⟩:TV.c (.d (.lit (.slice none 0 0)))=v/\[]=u/\[id]=au/\nxt=n':=by simpa using h
   cases hro with
   |nst hsz hl hS hK hown hext hfit hr hv=>
    obtain⟨x,h1,h2⟩:=hr eU _ hsl;cases h2
    obtain⟨val,q1,q2⟩:=vY (S:=S) (Kn:=Kn) (φ:=φ) ha hs (cells:=[.d (.lit (.slice none 0 0))]) (b:=(φ id).bT) (o:=(φ id).aK+eU) (fun j x hj=>by
     cases j with
     |succ j=>simp at hj
     |zero=>
      obtain rfl:C.d (.lit (.slice none 0 0))=x:=by simpa using hj
      exact⟨_,(hown.cell _).trans h1,.d (.lit rfl)⟩) (v:=TV.c (.d (.lit (.slice none 0 0)))) rfl
    exact⟨val,by simp[Instr.loadAt,Instr.sureAddr,q1],kp.pure hI q2⟩
  .rename_i rows hsl;obtain⟨rfl,rfl,rfl,rfl⟩:TV.c (.bP sz nxt 0 rows.length)=v/\[(nxt,some (Ob.aF sz rows)),(id,some (Ob.nst sz (slots.set eU (.kU nxt rows.length))))]=u/\[id]=au/\nxt+1=n':=by simpa using h
   have hn:=hn0 (aQ _);obtain⟨l,x,h1,h2,h3⟩:=hI.split ho hsl hn
   obtain⟨val,q1,q2⟩:=vY (S:=S) (Kn:=fun j=>Kn j\/j=nxt) (φ:=ext φ nxt l) ha hs (cells:=[.bP sz nxt 0 rows.length]) (b:=(φ id).bT) (o:=(φ id).aK+eU) (fun j x' hj=>by
     cases j with
     |succ j=>simp at hj
     |zero=>
      obtain rfl:C.bP sz nxt 0 rows.length=x':=by simpa using hj
      exact⟨x,h1,h2⟩) (v:=TV.c (.bP sz nxt 0 rows.length)) rfl
   refine⟨val,by simp[Instr.loadAt,Instr.sureAddr,q1],a_ _,S,ext φ nxt l,fX.refl _ _,⟨fun i hi=>.inl hi,(ga l hn).dW⟩,q2.kn fun i=>(km i).1,h3.sv fun i=>km i⟩
  .simp at h
theorem Ff{t:TypeId}{x:Operand}{agg:Bool}{n:Nat}(ho:o.op=.load t x)(ha:fA P t=some agg)(hs:eM P t=some n)(hI:Inv S K w0 Kn φ (ao H) w)
  {tv:Option TV} (hx:∀y,tv=some y->e_ S w Kn φ y (ρ x)) (h:bX call (.load agg n) [tv] H nxt=some (v,u,au,n')):cU P o ρ S K w0 w Kn φ (ao H) nxt n' v u:=by
 cases tv with
 |none=>simp[bX]at h
 |some y=>
  cases y with
  |c p=>
   change (match gT agg n p H with|some (v,au)=>some (v,[],au,nxt)|none=>none)=_ at h;split at h
   .rename_i v' ids' hl;obtain⟨rfl,rfl,rfl,rfl⟩:v'=v/\[]=u/\ids'=au/\nxt=n':=by simpa using h
    cases hx _ rfl with|c hp=>obtain⟨val,h1,h2⟩:=xZ ha hs hI hp hl;refine⟨.value _,_,_,?_,.inl rfl,kp.pure hI h2⟩;simp[execOp,ho,h1]
   .simp at h
  |_=>simp[bX]at h
theorem Ia{t:TypeId}{x:Operand}(ho:o.op=.load t x)(ha:fA P t=some false)(hs:eM P t=some 1)(hI:Inv S K w0 Kn φ (ao H) w)(hn0:nxt<n'->¬Kn nxt)
  {tv:Option TV} (hx:∀y,tv=some y->e_ S w Kn φ y (ρ x)) (h:bX call .uj [tv] H nxt=some (v,u,au,n')):cU P o ρ S K w0 w Kn φ (ao H) nxt n' v u:=by
 cases tv with
 |none=>simp[bX]at h
 |some y=>
  cases y with
  |c p=>
   change (match gT false 1 p H with|some (v,au)=>some (v,[],au,nxt)|none=>lp false 1 p H nxt)=_ at h;split at h
   .rename_i v' ids' hl;exact Ff (call:=call) ho ha hs hI (tv:=some (.c p)) hx (by show(match gT false 1 p H with|some (v,au)=>some (v,[],au,nxt)|none=>none)=_;rw[hl];exact h)
   .cases hx _ rfl with|c hp=>obtain⟨val,h1,h2⟩:=F9 ha hs hI hp hn0 h;refine⟨.value _,_,_,?_,.inl rfl,h2⟩;simp[execOp,ho,h1]
  |_=>simp[bX]at h
theorem cU.pure{val:Value}(hI:Inv S K w0 Kn φ (ao H) w)(hr:(execOp ρ o).run P w=.ok (.value val) w)(h:e_ S w Kn φ v val):cU P o ρ S K w0 w Kn φ (ao H) nxt nxt v []:=⟨.value val,val,w,hr,.inl rfl,kp.pure hI h⟩
theorem L4{x:Operand}(ho:o.op=.move x\/o.op=.assign x)(hI:Inv S K w0 Kn φ (ao H) w){tv:Option TV}(hx:∀y,tv=some y->e_ S w Kn φ y (ρ x))
  (h:bX call .mv [tv] H nxt=some (v,u,au,n')):cU P o ρ S K w0 w Kn φ (ao H) nxt n' v u:=by
 cases tv with
 |none=>simp[bX]at h
 |some y=>
  obtain⟨rfl,rfl,rfl,rfl⟩:y=v/\[]=u/\[]=au/\nxt=n':=by simpa[bX]using h
  refine cU.pure hI ?_ (hx _ rfl);rcases ho with ho|ho<;>simp[execOp,ho]
theorem KI{c x y:Operand}(ho:o.op=.pick c x y)(hI:Inv S K w0 Kn φ (ao H) w){tc tx ty:Option TV}(hc:∀z,tc=some z->e_ S w Kn φ z (ρ c))
  (hx:∀z,tx=some z->e_ S w Kn φ z (ρ x)) (hy:∀z,ty=some z->e_ S w Kn φ z (ρ y))
  (h:bX call .pick [tc,tx,ty] H nxt=some (v,u,au,n')):cU P o ρ S K w0 w Kn φ (ao H) nxt n' v u:=by
 match tc,h,hc with
 |some (.c (.d (.lit (.bool b)))),h,hc=>
  change (match(if b then tx else ty)with|some v=>some (v,[],[],nxt)|none=>none)=_ at h;obtain⟨hb,_⟩:=(hc _ rfl).lit;cases b
  .simp only[aE,if_false]at h;cases ty with
   |none=>simp at h
   |some z=>
    obtain⟨rfl,rfl,rfl,rfl⟩:z=v/\[]=u/\[]=au/\nxt=n':=by simpa using h
    exact cU.pure hI (by simp[execOp,ho,hb,asBool]) (hy _ rfl)
  .simp only[if_true]at h;cases tx with
   |none=>simp at h
   |some z=>
    obtain⟨rfl,rfl,rfl,rfl⟩:z=v/\[]=u/\[]=au/\nxt=n':=by simpa using h
    exact cU.pure hI (by simp[execOp,ho,hb,asBool]) (hx _ rfl)
theorem Cc{x:Operand}(ho:o.op=.nilCheck x)(hI:Inv S K w0 Kn φ (ao H) w){tv:Option TV}(hx:∀y,tv=some y->e_ S w Kn φ y (ρ x))
  (h:bX call .nilCheck [tv] H nxt=some (v,u,au,n')):cU P o ρ S K w0 w Kn φ (ao H) nxt n' v u:=by
 match tv,h,hx with
 |some (.c c),h,hx=>
  have key:(∃a,ρ x=.pointer (some a))\/(∃g vs,ρ x=.func (.func g) #[] vs)->some (TV.c c,([]:eg),([]:List Nat),nxt)=some (v,u,au,n')->cU P o ρ S K w0 w Kn φ (ao H) nxt n' v u:=by
   intro hc h;obtain⟨rfl,rfl,rfl,rfl⟩:TV.c c=v/\[]=u/\[]=au/\nxt=n':=by simpa using h
   refine cU.pure hI ?_ (hx _ rfl);rcases hc with⟨a,hc⟩|⟨g,vs,hc⟩<;>simp[execOp,ho,hc]
  have hr:=hx _ rfl;generalize hv0:ρ x=val at hr;cases hr with
  |c hr=>
   cases hr with
   |d hd=>cases hd with|lit hp=>simp[bX]at h|nan=>simp[bX]at h|ex=>simp[bX]at h|sl=>simp[bX]at h|tL=>simp[bX]at h|pt f hb=>exact key (.inl ⟨_,hv0⟩) h|fn hl hr=>exact key (.inr ⟨_,_,hv0⟩) h
   |bP=>simp[bX]at h
   |ep hk=>exact key (.inl ⟨_,hv0⟩) h
   |op hk=>exact key (.inl ⟨_,hv0⟩) h
   |oL hl hr=>exact key (.inr ⟨_,_,hv0⟩) h
   |om hk=>simp[bX]at h
theorem IS{k:FloatKind}{n m:Nat}(h:n %k.format.signWeight=m %k.format.signWeight)(hn:w_ k n):w_ k m:=by
 unfold w_ lD at*;rw[h]at hn;dsimp only at hn|-;split at hn
 .cases hn
 .rw [if_neg (by assumption)];split at hn
  .cases hn
  .rw [if_neg (by assumption)];split at hn
   .cases hn
   .rw [if_neg (by assumption)];rfl
theorem Cl{k:FloatKind}{n:Nat}(h:w_ k n):w_ k (Op.negFloat k n):=by refine IS ?_ h;unfold Op.negFloat Ieee.Format.signWeight;rw[Nat.xor_mod_two_pow,Nat.mod_self,Nat.xor_zero]
theorem FV{op:UnOp}{a va v:Value}(ha:su a va)(h:Ms op a=some v):∃v',Ms op va=some v'/\su v v':=by
 cases ha with
 |lit _=>exact⟨v,h,.lit (E8 (P:=default) (w:=default) h).2⟩
 |ex=>cases h
 |nan hn hm=>unfold Ms at h|-;cases op with|neg=>obtain rfl:=aa h;exact⟨_,rfl,.nan (Cl hn) (Cl hm)⟩|_=>cases h
theorem OI{t:TypeId}{op:UnOp}{x:Operand}(ho:o.op=.unOp op t x)(hI:Inv S K w0 Kn φ (ao H) w){tv:Option TV}(hx:∀y,tv=some y->e_ S w Kn φ y (ρ x))
  (h:bX call (.un op) [tv] H nxt=some (v,u,au,n')):cU P o ρ S K w0 w Kn φ (ao H) nxt n' v u:=by
 match tv,h,hx with
 |some (.c (.d (.lit z))),h,hx=>
  change (match Ms op z with|some v=>some (lv v,[],[],nxt)|none=>none)=_ at h;split at h
  .rename_i r hr;obtain⟨rfl,rfl,rfl,rfl⟩:lv r=v/\[]=u/\[]=au/\nxt=n':=by simpa using h
   obtain⟨r',h3,h4⟩:=FV (hx _ rfl).Gu hr;obtain⟨h1,h2⟩:=E8 (P:=P) (w:=w) h3;exact cU.pure hI (by simp[execOp,ho,h1]) (.D6 h4)
  .simp at h
theorem MQ{t ty:TypeId}{op:BinOp}{x y:Operand}(ho:o.op=.binOp op t x y ty)(hI:Inv S K w0 Kn φ (ao H) w){tx tz:Option TV}(hx:∀z,tx=some z->e_ S w Kn φ z (ρ x))
  (hy:∀z,tz=some z->e_ S w Kn φ z (ρ y)) (h:bX call (.sy op) [tx,tz] H nxt=some (v,u,au,n')):cU P o ρ S K w0 w Kn φ (ao H) nxt n' v u:=by
 match tx,tz,h,hx,hy with
 |some (.c (.d (.lit a))),some (.c (.d (.lit b))),h,hx,hy=>
  change (match nJ op a b with|some v=>some (lv v,[],[],nxt)|none=>none)=_ at h;split at h
  .rename_i r hr;obtain⟨rfl,rfl,rfl,rfl⟩:lv r=v/\[]=u/\[]=au/\nxt=n':=by simpa using h
   have hr:=EO (hx _ rfl).Gu (hy _ rfl).Gu hr;obtain⟨r',n,h1,hle,h4,h3⟩:=HW (P:=P) (w:=w) (t:=t) hr;exact⟨.value r',r',_,by simp[execOp,ho,h1,h3],.inl rfl,am _,S,φ,fX.rj _ _ _,p9 _ _,.D6 h4,(hI.rj n hle).kn fun _ hi=>.inl hi⟩
  .simp at h
theorem x5{t:TypeId}(hu:P.underlying t=some .bool)(a b:Bool):(Op.equal t (.bool a) (.bool b)).run P w=.ok (a==b) w:=by show(Op.equalIn (9999+1) t (.bool a) (.bool b)).run P w=_;unfold Op.equalIn;rw[Sem.run_bind,bv hu];rfl
theorem Gp{t ty:TypeId}{op:BinOp}{x y:Operand}(ho:o.op=.binOp op t x y ty)(hop:op=.eql\/op=.neq)(hu:P.underlying t=some .bool)(hI:Inv S K w0 Kn φ (ao H) w)
  {tx tz:Option TV} (hx:∀z,tx=some z->e_ S w Kn φ z (ρ x)) (hy:∀z,tz=some z->e_ S w Kn φ z (ρ y))
  (h:bX call (.uN (op==.neq)) [tx,tz] H nxt=some (v,u,au,n')):cU P o ρ S K w0 w Kn φ (ao H) nxt n' v u:=by
 match tx,tz,h,hx,hy with
 |some (.c (.d (.lit (.bool a)))),some (.c (.d (.lit (.bool b)))),h,hx,hy=>
  obtain⟨ha,_⟩:=(hx _ rfl).lit;obtain⟨hb,_⟩:=(hy _ rfl).lit;change some (lv (.bool (if(op==.neq)then !(a==b)else a==b)),([]:eg),([]:List Nat),nxt)=_ at h;obtain⟨rfl,rfl,rfl,rfl⟩:lv (.bool (if(op==.neq)then !(a==b)else a==b))=v/\[]=u/\[]=au/\nxt=n':=by simpa using h
  refine cU.pure hI ?_ (.qx rfl);rcases hop with rfl|rfl
  .simp [execOp,ho,ha,hb,eqGuard,binOp,x5 hu]
  .simp [execOp,ho,ha,hb,eqGuard,binOp,x5 hu]
theorem D4{s d:TypeId}{k k':IntKind}{x:Operand}(ho:o.op=.convert s d x)(hs:P.underlying s=some (.int k'))(hd:P.underlying d=some (.int k))(hI:Inv S K w0 Kn φ (ao H) w)
  {tv:Option TV} (hx:∀y,tv=some y->e_ S w Kn φ y (ρ x)) (h:bX call (.vC k) [tv] H nxt=some (v,u,au,n')):cU P o ρ S K w0 w Kn φ (ao H) nxt n' v u:=by
 match tv,h,hx with
 |some (.c (.d (.lit (.int k0 n)))),h,hx=>
  obtain⟨ha,_⟩:=(hx _ rfl).lit;obtain⟨rfl,rfl,rfl,rfl⟩:lv (.int k (k.wrap n))=v/\[]=u/\[]=au/\nxt=n':=by simpa[bX]using h
  exact cU.pure hI (by simp[execOp,ho,ha,convert,bv hs,bv hd,Conv.intToInt]) (.qx rfl)
theorem Ig{s d:TypeId}{k':IntKind}{k:FloatKind}{x:Operand}(ho:o.op=.convert s d x)(hs:P.underlying s=some (.int k'))(hd:P.underlying d=some (.float k))(hI:Inv S K w0 Kn φ (ao H) w)
  {tv:Option TV} (hx:∀y,tv=some y->e_ S w Kn φ y (ρ x)) (h:bX call (.C3 k) [tv] H nxt=some (v,u,au,n')):cU P o ρ S K w0 w Kn φ (ao H) nxt n' v u:=by
 match tv,h,hx with
 |some (.c (.d (.lit (.int k0 n)))),h,hx=>
  obtain⟨ha,_⟩:=(hx _ rfl).lit;obtain⟨rfl,rfl,rfl,rfl⟩:lv (.float k (k.nearest n))=v/\[]=u/\[]=au/\nxt=n':=by simpa[bX]using h
  exact cU.pure hI (by simp[execOp,ho,ha,convert,bv hs,bv hd,Conv.intToFloat]) (.qx rfl)
theorem Ch{s d:TypeId}{x:Operand}(ho:o.op=.convert s d x)(hs:P.underlying s=some .string)(hd:P.underlying d=some .string)(hI:Inv S K w0 Kn φ (ao H) w)
  {tv:Option TV} (hx:∀y,tv=some y->e_ S w Kn φ y (ρ x)) (h:bX call .sY [tv] H nxt=some (v,u,au,n')):cU P o ρ S K w0 w Kn φ (ao H) nxt n' v u:=by
 match tv,h,hx with
 |some (.c (.d (.lit (.string s0)))),h,hx=>
  obtain⟨ha,_⟩:=(hx _ rfl).lit;obtain⟨rfl,rfl,rfl,rfl⟩:lv (.string s0)=v/\[]=u/\[]=au/\nxt=n':=by simpa[bX]using h
  exact cU.pure hI (by simp[execOp,ho,ha,convert,bv hs,bv hd]) (.qx rfl)
theorem D3{x:Operand}{i:Nat}(ho:o.op=.extract x i)(hI:Inv S K w0 Kn φ (ao H) w){tv:Option TV}(hx:∀y,tv=some y->e_ S w Kn φ y (ρ x))
  (h:bX call (.extract i) [tv] H nxt=some (v,u,au,n')):cU P o ρ S K w0 w Kn φ (ao H) nxt n' v u:=by
 match tv,h,hx with
 |some (.gB xs),h,hx=>
  change (match xs[i]?with|some v=>some (v,[],[],nxt)|none=>none)=_ at h;split at h
  .rename_i y hy;obtain⟨rfl,rfl,rfl,rfl⟩:y=v/\[]=u/\[]=au/\nxt=n':=by simpa using h
   have hr:=hx _ rfl;generalize hv0:ρ x=val at hr;cases hr with
   |@gB _ aF hlen hr=>
    have hlt:i<aF.size:=by rw[<-hlen];exact(aj.1 hy).1
    refine cU.pure (val:=aF.getD i undef) hI ?_ (hr i y hy);simp[execOp,ho,hv0,Instr.extract,hlt]
  .simp at h
theorem AR{s:TypeId}{f n:Nat}{fields:Array Field}{fl:Field}{x:Operand}(ho:o.op=.fieldAddr s x f)(hu:P.underlying s=some (.struct fields))(hf:fields[f]?=some fl)
  (hs:eM P fl.type=some (n+1)) (hI:Inv S K w0 Kn φ (ao H) w) {tv:Option TV} (hx:∀y,tv=some y->e_ S w Kn φ y (ρ x))
  (h:bX call (.fieldAddr fl.offset (n+1)) [tv] H nxt=some (v,u,au,n')):cU P o ρ S K w0 w Kn φ (ao H) nxt n' v u:=by
 match tv,h,hx with
 |some (.c c),h,hx=>
  change (match jV fl.offset (n+1) c with|some y=>some (TV.c y,[],[],nxt)|none=>none)=_ at h;split at h
  .rename_i y hy;obtain⟨rfl,rfl,rfl,rfl⟩:TV.c y=v/\[]=u/\[]=au/\nxt=n':=by simpa using h
   have run:∀b off,ρ x=.pointer (some ⟨b,off,none⟩)->(execOp ρ o).run P w=.ok (.value (.pointer (some ⟨b,off+fl.offset,none⟩))) w:=by intro b off hv;simp[execOp,ho,hv,Instr.fieldAt,bv hu,hf,Instr.sureAddr,fieldPlace,fE hs,lM]
   have hr:=hx _ rfl;generalize hv0:ρ x=val at hr;cases hr with
   |c hr=>
    cases hr with
    |d hd=>
     cases hd with
     |@pt cells b off g hb hcell hrd=>
      simp only[jV]at hy;split at hy
      .obtain rfl:=aa hy;refine cU.pure hI (run _ _ hv0) (.c (.d (.ye hb fun j z hj=>?_)));rw[eK]at hj;split at hj
       .rw [bL]at hj;exact⟨_,by rw[cS];exact hcell _ _ hj,hrd _ _ hj⟩
       .simp at hj
      .simp at hy
     |_=>simp[jV]at hy
    |@op id off hk=>
     obtain rfl:C.op id (off+fl.offset)=y:=by simpa[jV]using hy
     refine cU.pure hI (run _ _ hv0) (.c ?_);rw[cS];exact .op hk
    |@ep id eU off hk=>
     obtain rfl:C.ep id eU (off+fl.offset)=y:=by simpa[jV]using hy
     refine cU.pure hI (run _ _ hv0) (.c ?_);rw[cS];exact .ep hk
    |_=>simp[jV]at hy
  .simp at h
theorem Ib{str:Bool}{t:TypeId}{x:Operand}{c:kO}(ho:o.op=.call c)(hcal:c.callee=.builtin .len)(hargs:c.args= #[x])(hts:c.argTypes= #[t])
  (hu:if str then P.underlying t=some .string else∃b,P.underlying t=some (.slice b)) (hI:Inv S K w0 Kn φ (ao H) w) {tv:Option TV} (hx:∀y,tv=some y->e_ S w Kn φ y (ρ x))
  (h:bX call (.len str) [tv] H nxt=some (v,u,au,n')):cU P o ρ S K w0 w Kn φ (ao H) nxt n' v u:=by
 match tv,h,hx with
 |some (.c y),h,hx=>
  change (match uo str y with|some n=>some (lv (.int .i64 n),[],[],nxt)|none=>none)=_ at h;split at h
  .rename_i n hn;obtain⟨rfl,rfl,rfl,rfl⟩:lv (.int .i64 n)=v/\[]=u/\[]=au/\nxt=n':=by simpa using h
   refine cU.pure hI ?_ (.qx rfl);have hr:=hx _ rfl;generalize hv0:ρ x=val at hr;cases str with
   |true=>
    simp only[if_true]at hu
    match y,hn,hr with
    |.d (.lit (.string s)),hn,hr=>
     obtain⟨rfl,_⟩:=hr.lit;obtain rfl:(s.size:Int)=n:=by simpa[uo]using hn
     simp[execOp,ho,hcal,hargs,hts,resolve,invoke,builtin,hv0,Builtin.len_,bv hu,goInt]
   |false=>
    simp only[aE,if_false]at hu;obtain⟨b,hu⟩:=hu;have hsl:∀a l k,val=.slice a l k->n=(l:Int)->(execOp ρ o).run P w=.ok (.value (.int .i64 n)) w:=by intro a l k e1 e2;simp[execOp,ho,hcal,hargs,hts,resolve,invoke,builtin,hv0,e1,e2,Builtin.len_,bv hu,goInt]
    match y,hn,hr with
    |.d (.lit (.slice none 0 0)),hn,hr=>obtain⟨rfl,_⟩:=hr.lit;exact hsl _ _ _ rfl (by simpa[uo]using hn.symm)
    |.d (.sl sz rows),hn,hr=>
     cases hr with
     |c hr=>cases hr with
      |d hd=>cases hd with|sl=>exact hsl _ _ _ rfl (by simpa[uo]using hn.symm)|tL=>exact hsl _ _ _ rfl (by simpa[uo]using hn.symm)
    |.bP sz id off len,hn,hr=>
     cases hr with
     |c hr=>cases hr with|bP=>exact hsl _ _ _ rfl (by simpa[uo]using hn.symm)
  .simp at h
theorem rD{op:BinOp}(hop:op=.eql\/op=.neq){t:TypeId}{x y:Value}{b:Bool}(a c:Operand)
  (h1:binOp .eql t x y=(do pure (.bool (<-Op.equal t x y)))) (h2:binOp .neq t x y=(do pure (.bool (!(<-Op.equal t x y)))))
  (hg:(eqGuard op t a c x y).run P w=.ok () w) (he:(Op.equal t x y).run P w=.ok b w):
  ((do eqGuard op t a c x y;binOp op t x y):Sem Value).run P w=.ok (.bool (if op==.neq then !b else b)) w:=by
 rcases hop with rfl|rfl
 .rw [Sem.run_bind,hg,Result.andThen_ok,h1,Sem.run_bind,he];rfl
 .rw [Sem.run_bind,hg,Result.andThen_ok,h2,Sem.run_bind,he];rfl
theorem q_{op:BinOp}{t:TypeId}(a c:Operand){x y:Value}(h:match x,y with|.nilIface,.nilIface=>False|.agg _,.agg _=>False|_,_=>True):
  (eqGuard op t a c x y).run P w=.ok () w:=by
 unfold eqGuard;cases op<;>simp<;>(cases x<;>cases y<;>simp_all)
theorem rf(t:TypeId)(x y:Value):Op.equal t x y=Op.equalIn (9999+1) t x y:=rfl
def Ir(P:Program)(t:TypeId):Nat->Prop
 |0=>∃x,P.underlying t=some (.slice x)
 |1=>∃x,P.underlying t=some (.pointer x)
 |2=>∃a b c,P.underlying t=some (.func a b c)
 |_=>False
theorem F_{op:BinOp}(hop:op=.eql\/op=.neq){kind:Nat}{t:TypeId}{y:C}{val:Value}{b:Bool}(a c:Operand)(hu:Ir P t kind)
  (hr:e_ S w Kn φ (.c y) val) (hn:qg kind y=some b):
  ((do eqGuard op t a c val (nX kind);binOp op t val (nX kind)):Sem Value).run P w=.ok (.bool (if op==.neq then !b else b)) w/\
  ((do eqGuard op t a c (nX kind) val;binOp op t (nX kind) val):Sem Value).run P w=.ok (.bool (if op==.neq then !b else b)) w:=by
 have hsl:(∃x,P.underlying t=some (.slice x))->∀q l k,kind=0->val=.slice q l k->b=q.isNone->
   ((do eqGuard op t a c val (nX kind);binOp op t val (nX kind)):Sem Value).run P w=.ok (.bool (if op==.neq then !b else b)) w/\
   ((do eqGuard op t a c (nX kind) val;binOp op t (nX kind) val):Sem Value).run P w=.ok (.bool (if op==.neq then !b else b)) w:=by
  rintro⟨x,hu'⟩ q l k rfl rfl rfl;refine⟨rD hop a c rfl rfl (q_ a c trivial) ?_,rD hop a c rfl rfl (q_ a c trivial) ?_⟩
  all_goals
   rw[rf];unfold Op.equalIn;rw[Sem.run_bind,bv hu'];cases q<;>rfl
 have hpt:(∃x,P.underlying t=some (.pointer x))->∀q,kind=1->val=.pointer q->b=q.isNone->
   ((do eqGuard op t a c val (nX kind);binOp op t val (nX kind)):Sem Value).run P w=.ok (.bool (if op==.neq then !b else b)) w/\
   ((do eqGuard op t a c (nX kind) val;binOp op t (nX kind) val):Sem Value).run P w=.ok (.bool (if op==.neq then !b else b)) w:=by
  rintro⟨x,hu'⟩ q rfl rfl rfl;refine⟨rD hop a c ?_ ?_ (q_ a c trivial) ?_,rD hop a c ?_ ?_ (q_ a c trivial) ?_⟩
  .cases q<;>rfl
  .cases q<;>rfl
  .rw [rf];unfold Op.equalIn;rw[Sem.run_bind,bv hu'];cases q<;>rfl
  .cases q<;>rfl
  .cases q<;>rfl
  .rw [rf];unfold Op.equalIn;rw[Sem.run_bind,bv hu'];cases q<;>rfl
 have hfn:(∃x y z,P.underlying t=some (.func x y z))->kind=2->((val=.nilFunc/\b=true)\/((∃f p q,val=.func f p q)/\b=false))->
   ((do eqGuard op t a c val (nX kind);binOp op t val (nX kind)):Sem Value).run P w=.ok (.bool (if op==.neq then !b else b)) w/\
   ((do eqGuard op t a c (nX kind) val;binOp op t (nX kind) val):Sem Value).run P w=.ok (.bool (if op==.neq then !b else b)) w:=by
  rintro⟨x,y,z,hu'⟩ rfl (⟨rfl,rfl⟩|⟨⟨f,p,q,rfl⟩,rfl⟩)
  all_goals
   refine⟨rD hop a c rfl rfl (q_ a c trivial) ?_,rD hop a c rfl rfl (q_ a c trivial) ?_⟩
   all_goals
    rw[rf];unfold Op.equalIn;rw[Sem.run_bind,bv hu'];rfl
 cases hr with
 |c hr=>
  match kind,y,hn,hr,hu with
  |0,.d (.lit (.slice none 0 0)),hn,hr,hu=>cases hr with|d hd=>cases hd with|lit hp=>exact hsl hu _ _ _ rfl rfl (by simpa[qg]using hn.symm)
  |0,.d (.sl _ _),hn,hr,hu=>cases hr with|d hd=>cases hd with|sl=>exact hsl hu _ _ _ rfl rfl (by simpa[qg]using hn.symm)|tL=>exact hsl hu _ _ _ rfl rfl (by simpa[qg]using hn.symm)
  |0,.bP _ _ _ _,hn,hr,hu=>cases hr with|bP=>exact hsl hu _ _ _ rfl rfl (by simpa[qg]using hn.symm)
  |1,.d (.lit (.pointer none)),hn,hr,hu=>cases hr with|d hd=>cases hd with|lit hp=>exact hpt hu _ rfl rfl (by simpa[qg]using hn.symm)
  |1,.d (.pt _),hn,hr,hu=>cases hr with|d hd=>cases hd with|pt=>exact hpt hu _ rfl rfl (by simpa[qg]using hn.symm)
  |1,.ep _ _ _,hn,hr,hu=>cases hr with|ep=>exact hpt hu _ rfl rfl (by simpa[qg]using hn.symm)
  |1,.op _ _,hn,hr,hu=>cases hr with|op=>exact hpt hu _ rfl rfl (by simpa[qg]using hn.symm)
  |2,.d (.lit .nilFunc),hn,hr,hu=>cases hr with|d hd=>cases hd with|lit hp=>exact hfn hu rfl (.inl ⟨rfl,by simpa[qg]using hn.symm⟩)
  |2,.d (.fn _ _),hn,hr,hu=>cases hr with|d hd=>cases hd with|fn=>exact hfn hu rfl (.inr ⟨⟨_,_,_,rfl⟩,by simpa[qg]using hn.symm⟩)
  |2,.oL _ _,hn,hr,hu=>cases hr with|oL=>exact hfn hu rfl (.inr ⟨⟨_,_,_,rfl⟩,by simpa[qg]using hn.symm⟩)
theorem wN{kind:Nat}{x:Operand}(h:wi kind x=true):x=.const (nX kind):=by unfold wi at h;split at h<;>first|rfl|simp at h
theorem Cf{t ty:TypeId}{op:BinOp}{x y z:Operand}{kind:Nat}(ho:o.op=.binOp op t x y ty)(hop:op=.eql\/op=.neq)(hu:Ir P t kind)(hI:Inv S K w0 Kn φ (ao H) w)
  (hc:∀v,ρ (.const v)=v) (hz:(z=x/\wi kind y=true)\/(z=y/\wi kind x=true)) {tv:Option TV} (hx:∀y,tv=some y->e_ S w Kn φ y (ρ z))
  (h:bX call (.rg kind (op==.neq)) [tv] H nxt=some (v,u,au,n')):cU P o ρ S K w0 w Kn φ (ao H) nxt n' v u:=by
 match tv,h,hx with
 |some (.c c),h,hx=>
  change (match qg kind c with|some b=>some (lv (.bool (if(op==BinOp.neq)then !b else b)),([]:eg),([]:List Nat),nxt)|none=>none)=_ at h;split at h
  .rename_i b hb;obtain⟨rfl,rfl,rfl,rfl⟩:lv (.bool (if(op==BinOp.neq)then !b else b))=v/\[]=u/\[]=au/\nxt=n':=by simpa using h
   refine cU.pure hI ?_ (.qx rfl);obtain⟨h1,h2⟩:=F_ (P:=P) hop x y hu (hx _ rfl) hb;rcases hz with⟨rfl,hn⟩|⟨rfl,hn⟩
   .have e:=wN hn;simp only[execOp,ho,Sem.run_bind];rw[Sem.run_bind]at h1;rw[e]at h1|-;rw[hc,h1];rfl
   .have e:=wN hn;simp only[execOp,ho,Sem.run_bind];rw[Sem.run_bind]at h2;rw[e]at h2|-;rw[hc,h2];rfl
  .simp at h
end
section
variable{P:Program}{S K:Nat->Prop}{w0 w:World}{Kn:Nat->Prop}{φ:Nat->gi}{H:bh}{e:hZ}{ρ:Operand->Value}{o:Oper}{call:Call}
 {nxt n':Nat} {v:TV} {u:eg} {au:List Nat}
theorem wV{α:Type}:∀{l:List (Option α)}{xs:List α},dz l=some xs->l=xs.map some:=by
 intro l;induction l with
 |nil=>
  intro xs h;obtain rfl:[]=xs:=by simpa[dz]using h
  rfl
 |cons a l ih=>
  intro xs h;cases a with
  |none=>simp[dz]at h
  |some x=>
   simp only[dz]at h;split at h
   .rename_i ys hy;obtain rfl:=aa h;simp[ih hy]
   .simp at h
theorem tf{args:List Operand}{xs:List TV}(hρ:∀x tv,jB e x=some tv->e_ S w Kn φ tv (ρ x))(h:dz (args.map (jB e))=some xs):
  xs.length=args.length/\∀(i:Nat)(x:Operand)(tv:TV),args[i]?=some x->xs[i]?=some tv->e_ S w Kn φ tv (ρ x):=by
 have h1:=wV h;have hl:xs.length=args.length:=by have:=congrArg List.length h1;simpa using this.symm
 refine⟨hl,fun i x tv hx htv=>hρ x tv ?_⟩;have h2:=congrArg (fun l=>l[i]?) h1;simp only[aL,hx,htv,bn]at h2;exact aa h2
theorem KJ{f:FuncId}{first captured:Array Operand}(ho:o.op=.makeFunc (.func f) first captured)(hf:first.isEmpty=true)(hI:Inv S K w0 Kn φ (ao H) w)
  (hρ:∀x tv,jB e x=some tv->e_ S w Kn φ tv (ρ x)) (h:bX call (.GA f) (captured.toList.map (jB e)) H nxt=some (v,u,au,n')):cU P o ρ S K w0 w Kn φ (ao H) nxt n' v u:=by
 change (match dz (captured.toList.map (jB e))with
  |some xs=>(match dz (xs.map fun(x:TV)=>match x with|.c c=>some c|_=>none)with|some cs=>some (TV.c (.oL f cs),([]:eg),([]:List Nat),nxt)|none=>none)
  |none=>none)=_ at h
 split at h
 .rename_i xs hxs;split at h
  .rename_i cs hcs;obtain⟨rfl,rfl,rfl,rfl⟩:TV.c (.oL f cs)=v/\[]=u/\[]=au/\nxt=n':=by simpa using h
   obtain⟨hl,hr⟩:=tf hρ hxs;have h2:=wV hcs;have hl2:cs.length=xs.length:=by have:=congrArg List.length h2;simpa using this.symm
   have hf':first= #[]:=by simpa using hf
   refine cU.pure (val:=.func (.func f) #[] (captured.map ρ)) hI (by simp[execOp,ho,Instr.makeFunc,hf']) (.c (.oL (by simp[hl2,hl]) fun j c hj=>?_));have hj':j<xs.length:=by rw[<-hl2];exact(aj.1 hj).1
   have h3:=congrArg (fun l=>l[j]?) h2;simp only[aL,hj,bn,az hj']at h3;have h4:=aa h3;have hcap:j<captured.size:=by rw[hl]at hj';simpa using hj'
   have hx:=hr j captured[j] xs[j] (by simp[hcap]) (az hj');have e1:(captured.map ρ).getD j undef=ρ captured[j]:=by simp[hcap]
   rw[e1];cases hy:xs[j]with
   |c y=>
    rw[hy]at h4 hx;obtain rfl:y=c:=by simpa using h4
    cases hx with|c hx=>exact hx
   |_=>rw[hy]at h4;simp at h4
  .simp at h
 .simp at h
theorem jZ{n:Int}(h0:0<=n)(h1:n<=2147483648):IntKind.i64.wrap n=n:=by unfold IntKind.wrap IntKind.bits IntKind.signed;simp only[Bool.true_and,decide_eq_true_eq];have:n %(2^64:Int)=n:=Int.emod_eq_of_lt h0 (by omega);rw[this];split<;>omega
theorem vZ{v:Value}{k:IntKind}{n:Int}(h:v=.int k n):(asInt v).run P w=.ok n w:=by subst h;simp[asInt,asIntOf]
theorem mx{v:Value}{k:IntKind}{n:Int}(h:v=.int k n):(asIntOf v).run P w=.ok (k,n) w:=by subst h;simp[asIntOf]
theorem iE{tv:Option TV}{val:Value}{n:Int}(h:ci tv=some n)(hr:∀y,tv=some y->e_ S w Kn φ y val):∃k,val=.int k n:=by
 unfold ci at h;split at h
 .obtain rfl:=aa h;obtain⟨hv,_⟩:=(hr _ rfl).lit;exact⟨_,hv⟩
 .simp at h
theorem jK{v:Value}{k:IntKind}{n:Int}{y:Nat}{code:BoundsCode}(h:v=.int k n)(h0:0<=n)(h1:n<=y):(Instr.sliceBound v y code).run P w=.ok n.toNat w:=by simp only[Instr.sliceBound,Sem.run_bind,mx h,Result.andThen_ok,h0,h1,and_self,if_true,Sem.run_pure]
theorem rE{Cz:Bool}{len cap:Nat}{lo hi:Option Value}{l h:Option Int}(hlo':lo.isSome=l.isSome)(hl1:∀x,lo=some x->∃k n,x=.int k n/\l=some n)
  (hhi':hi.isSome=h.isSome) (hhi:∀x,hi=some x->∃k n,x=.int k n/\h=some n)
  (h0:0<=l.getD 0) (h1:l.getD 0<=h.getD len) (h2:h.getD len<=cap):
  (Instr.sliceBounds Cz len cap lo hi none).run P w=.ok ((l.getD 0).toNat,(h.getD len).toNat,cap) w:=by
 unfold Instr.sliceBounds;cases hi with
 |none=>
  cases h with
  |some _=>simp at hhi'
  |none=>
   cases lo with
   |none=>cases l with|some _=>simp at hlo'|none=>simp
   |some x=>obtain⟨k,n,rfl,rfl⟩:=hl1 x rfl;simp only[cm,Option.getD_none]at h0 h1;have:=jK (P:=P) (w:=w) (v:=.int k n) (y:=len) (code:=.sliceB) rfl h0 h1;simp[this]
 |some y=>
  obtain⟨k,n,rfl,rfl⟩:=hhi y rfl;simp only[cm]at h1 h2;have hb:=jK (P:=P) (w:=w) (v:=.int k n) (y:=cap) (code:=if Cz then .sliceAcap else .sliceAlen) rfl (by omega) h2;cases lo with
  |none=>cases l with|some _=>simp at hlo'|none=>simp[hb]
  |some x=>obtain⟨k',n',rfl,rfl⟩:=hl1 x rfl;simp only[cm]at h0 h1;have:=jK (P:=P) (w:=w) (v:=.int k' n') (y:=n.toNat) (code:=.sliceB) rfl h0 (by omega);simp[hb,this]
theorem BU{str:Bool}{sz:Nat}{t:TypeId}{x y:C}{val:Value}{lo hi:Option Value}{l h:Option Int}
  (hu:if str then P.underlying t=some .string else∃el,P.underlying t=some (.slice el)/\eM P el=some sz) (hr:RC S w Kn φ x val)
  (hlo':lo.isSome=l.isSome) (hl1:∀x,lo=some x->∃k n,x=.int k n/\l=some n) (hhi':hi.isSome=h.isSome) (hhi:∀x,hi=some x->∃k n,x=.int k n/\h=some n)
  (hs:cD str sz x l h=some y):∃val',(Instr.sliceAt t val lo hi none).run P w=.ok val' w/\RC S w Kn φ y val':=by
 unfold cD at hs;cases str with
 |true=>
  simp only[if_true]at hs hu;split at hs
  .rename_i s;split at hs
   .rename_i hb;obtain⟨hb1,hb2,hb3⟩:=hb;obtain rfl:=aa hs;cases hr with
    |d hd=>cases hd with|lit hp=>have:=rE (P:=P) (w:=w) (Cz:=false) (len:=s.size) (cap:=s.size) hlo' hl1 hhi' hhi hb1 hb2 hb3;exact⟨.string (s.extract (l.getD 0).toNat (h.getD s.size).toNat),by simp[Instr.sliceAt,Instr.slice,bv hu,this],.d (.lit rfl)⟩
   .simp at hs
  .simp at hs
 |false=>
  simp only[aE,if_false]at hs hu;obtain⟨el,hu,hsz⟩:=hu
  have run:∀(a:Addr)(len cap:Nat),val=.slice (some a) len cap->0<=l.getD 0->l.getD 0<=h.getD len->h.getD len<=cap->(cap≠(l.getD 0).toNat->a.spot=none)->
    (Instr.sliceAt t val lo hi none).run P w=.ok (.slice (some (if cap=(l.getD 0).toNat then a else⟨a.block,a.off+(l.getD 0).toNat*sz,none⟩))
     ((h.getD len).toNat-(l.getD 0).toNat) (cap-(l.getD 0).toNat)) w:=by
   intro a len cap hv h0 h1 h2 hsp;have hb:=rE (P:=P) (w:=w) (Cz:=true) (len:=len) (cap:=cap) hlo' hl1 hhi' hhi h0 h1 h2;simp only[Instr.sliceAt,Instr.slice,Sem.run_bind,bv hu,Result.andThen_ok,hv,hb,fE hsz,Sem.run_pure];congr 2;split
   .rfl
   .rename_i hne;obtain⟨b,off,spot⟩:=a;obtain rfl:spot=none:=hsp hne;simp[lM]
  split at hs
  .split at hs
   .rename_i hb;obtain⟨hb1,hb2,hb3⟩:=hb;obtain rfl:=aa hs;cases hr with
    |d hd=>cases hd with
     |lit hp=>
      have e1:l.getD 0=0:=by omega
      have e2:h.getD 0=0:=by omega
      have hb:=rE (P:=P) (w:=w) (Cz:=true) (len:=0) (cap:=0) hlo' hl1 hhi' hhi hb1 (by simpa using hb2) (by simpa using hb3);refine⟨.slice none 0 0,?_,.d (.lit rfl)⟩;have e3:h.getD (((0:Nat):Int))=0:=e2;rw[e1,e3]at hb;simp only[Instr.sliceAt,Instr.slice,Sem.run_bind,bv hu,Result.andThen_ok,hb,fE hsz,Sem.run_pure];rfl
   .simp at hs
  .rename_i sz' id off len;split at hs
   .rename_i hb;obtain⟨hb0,hb1,hb2,hb3⟩:=hb;obtain rfl:=aa hs;cases hr with
    |@bP _ _ _ cap addr hk hcap haddr hext hcl=>
     subst hb0;refine⟨_,run _ len cap rfl hb1 hb2 (by omega) (fun _=>rfl),?_⟩;have hle:(l.getD 0).toNat<=cap:=by omega
     by_cases e:cap=(l.getD 0).toNat
     .rw [if_pos e];exact .bP hk (by omega) (fun h=>by omega) (by rw[<-e,Nat.sub_self];omega) (by omega)
     .rw [if_neg e];have ha:=haddr (by omega);refine .bP hk (by omega) (fun _=>?_) ?_ (by omega)
      .show addr+_=_;rw[ha,bK];omega
      .have:(l.getD 0).toNat*(φ id).sz+(cap-(l.getD 0).toNat)*(φ id).sz=cap*(φ id).sz:=by rw[<-bK];congr 1;omega
       show addr+_+_<=_;omega
   .simp at hs
  .rename_i sz' rows;split at hs
   .rename_i hb;obtain⟨hb0,hb1,hb2,hb3⟩:=hb;obtain rfl:=aa hs;cases hr with
    |d hd=>
     cases hd with
     |@sl _ _ b off cap g hb hsz0 hcap hrow hcell hrd=>
      subst hb0;refine⟨_,run _ rows.length cap rfl hb1 hb2 (by omega) (fun _=>rfl),?_⟩;have hR:cK S w sz' (fun i=>w.cell? ⟨b,i,none⟩) off rows:=⟨hrow,fun i r hi j x hj=>⟨_,hcell i r hi j x hj,hrd i r hi j x hj⟩⟩
      have hlen:((rows.drop (l.getD 0).toNat).take ((h.getD rows.length).toNat-(l.getD 0).toNat)).length=(h.getD rows.length).toNat-(l.getD 0).toNat:=by simp;omega
      by_cases e:cap=(l.getD 0).toNat
      .rw [if_pos e];exact .d (.zS hb hsz0 hlen (by omega) (hR.w8 _ _ fun h=>by omega))
      .rw [if_neg e];exact .d (.zS hb hsz0 hlen (by omega) (hR.w8 _ _ fun _=>rfl))
     |@tL _ a hsz0=>
      subst hb0;simp only[gw]at hb1 hb2 hb3;have e1:l.getD 0=0:=by have h2:l.getD 0<=h.getD 0:=hb2;have h3:h.getD 0<=0:=hb3;omega
      refine⟨_,run _ 0 0 rfl hb1 hb2 (by simpa using hb3) (fun hne=>absurd (by rw[e1];rfl) hne),?_⟩;rw[if_pos (by rw[e1];rfl)];have e2:(([]:List (List D)).drop (l.getD 0).toNat).take ((h.getD ([]:List (List D)).length).toNat-(l.getD 0).toNat)=[]:=by simp
      rw[e2];have e3:(h.getD ((0:Nat):Int)).toNat-(l.getD 0).toNat=0:=by have h3:h.getD 0<=0:=hb3;have h4:h.getD ((0:Nat):Int)=h.getD 0:=rfl;rw[h4];omega
      have e4:(0:Nat)-(l.getD 0).toNat=0:=by omega
      first
       |(rw[e3,e4];exact .d (.tL hsz0))
       |(simp[e1]at hb3|-;exact .d (.tL hsz0))
   .simp at hs
  .simp at hs
theorem xY{str:Bool}{sz:Nat}{t:TypeId}{x y:C}{val:Value}{lo:Option Value}{hi:Value}{k2:IntKind}{l:Option Int}{h:Int}{au:List Nat}(hI:Inv S K w0 Kn φ (ao H) w)
  (hu:if str then P.underlying t=some .string else∃el,P.underlying t=some (.slice el)/\eM P el=some sz) (hr:RC S w Kn φ x val)
  (hlo':lo.isSome=l.isSome) (hl1:∀x,lo=some x->∃k n,x=.int k n/\l=some n) (hhi:hi=.int k2 h) (hs:jw str sz x (l.getD 0) h H=some (y,au)):∃val',(Instr.sliceAt t val lo (some hi) none).run P w=.ok val' w/\RC S w Kn φ y val':=by
 unfold jw at hs;split at hs
 case h_2=>simp at hs
 rename_i sz' id off len;simp only[aE,if_false]at hu;obtain⟨el,hu,hsz⟩:=hu
 have key:sz'=sz/\0<=l.getD 0/\l.getD 0<=h/\off+h.toNat<=(φ id).cap/\y=.bP sz id (off+(l.getD 0).toNat) (h.toNat-(l.getD 0).toNat):=by
  split at hs
  .rename_i szo rows hob;split at hs
   case isFalse=>simp at hs
   rename_i hb;obtain⟨hb0,hb1,hb2,hb3⟩:=hb;obtain⟨rfl,_⟩:=ad (aa hs);obtain⟨_,h0⟩:=hI.gF _ _ hob;have hvis:rows.length<=(φ id).cap:=by cases h0 with|aF hsz0 hl hS hK hown hext hfit hrr hvis=>exact hvis
   exact⟨hb0,hb1,hb2,by omega,rfl⟩
  .rename_i szo rows cp hob;split at hs
   case isFalse=>simp at hs
   rename_i hb;obtain⟨hb0,hb1,hb2,hb3⟩:=hb;obtain⟨rfl,_⟩:=ad (aa hs);obtain⟨_,h0⟩:=hI.gF _ _ hob;have hvis:(φ id).cap=cp:=by cases h0 with|cap hsz0 hl hS hK hown hext hfit hrr hvis hc=>exact hc
   exact⟨hb0,hb1,hb2,by omega,rfl⟩
  .simp at hs
 obtain⟨hb0,hb1,hb2,hvis,rfl⟩:=key;cases hr with
 |@bP _ _ _ cap addr hk hcap haddr hext hcl=>
  subst hb0;have hc:h<=cap:=by omega
  have hbd:=rE (P:=P) (w:=w) (Cz:=true) (len:=len) (cap:=cap) (lo:=lo) (hi:=some hi) (l:=l) (h:=some h) hlo' hl1 rfl (fun x hx=>⟨k2,h,by rw[<-aa hx,hhi],rfl⟩) hb1 hb2 hc;simp only[cm]at hbd;generalize l.getD 0=l at*;refine⟨.slice (some (if cap=l.toNat then⟨(φ id).bT,addr,none⟩else⟨(φ id).bT,addr+l.toNat*(φ id).sz,none⟩)) (h.toNat-l.toNat) (cap-l.toNat),?_,?_⟩
  .simp only[Instr.sliceAt,Instr.slice,Sem.run_bind,bv hu,Result.andThen_ok,hbd,fE hsz,Sem.run_pure];congr 2;split
   .rfl
   .simp [lM]
  .have hle:l.toNat<=cap:=by omega
   by_cases e:cap=l.toNat
   .rw [if_pos e];exact .bP hk (by omega) (fun h=>by omega) (by rw[<-e,Nat.sub_self];omega) (by omega)
   .rw [if_neg e];have ha:=haddr (by omega);refine .bP hk (by omega) (fun _=>?_) ?_ (by omega)
    .rw [ha,bK];omega
    .have:l.toNat*(φ id).sz+(cap-l.toNat)*(φ id).sz=cap*(φ id).sz:=by rw[<-bK];congr 1;omega
     omega
theorem Gk{sz:Nat}{t:TypeId}{el:TypeId}{x a b c:Operand}(ho:o.op=.slice t x (some a) (some b) (some c))
  (hu:P.underlying t=some (.slice el)) (hsz:eM P el=some sz) (hI:Inv S K w0 Kn φ (ao H) w) (hn0:nxt<n'->¬Kn nxt)
  (hρ:∀x tv,jB e x=some tv->e_ S w Kn φ tv (ρ x))
  (h:bX call (.vT sz) ([x,a,b,c].map (jB e)) H nxt=some (v,u,au,n')):cU P o ρ S K w0 w Kn φ (ao H) nxt n' v u:=by
 simp only[ap,aN]at h;cases hx:jB e x with
 |none=>rw[hx]at h;simp[bX]at h
 |some tv=>
  rw[hx]at h;cases tv with
  |agg cs=>simp[bX]at h
  |gB xs=>simp[bX]at h
  |c xc=>
   have hr:=hρ x _ hx;cases hr with
   |c hr=>
   change (match ci (jB e a),ci (jB e b),ci (jB e c)with
    |some l,some u,some m=>(match Ah sz xc l u m nxt with|some y=>some (TV.c y,([]:eg),([]:List Nat),nxt+1)|none=>none)
    |_,_,_=>none)=_ at h
   split at h
   .rename_i l hh m hl hhh hm;obtain⟨k1,e1⟩:=iE hl (hρ a);obtain⟨k2,e2⟩:=iE hhh (hρ b);obtain⟨k3,e3⟩:=iE hm (hρ c);split at h
    .rename_i y hy;obtain⟨rfl,rfl,rfl,rfl⟩:TV.c y=v/\[]=u/\[]=au/\nxt+1=n':=by simpa using h
     unfold Ah at hy;split at hy
     .rename_i sz' id off len;split at hy
      .rename_i hb;obtain⟨hb0,hb1,hb2,hb3,hb4⟩:=hb;obtain rfl:=aa hy;have hn:=hn0 (aQ _);generalize hv0:ρ x=val at hr;cases hr with
       |@bP _ _ _ cap addr hk hcap haddr hext hcl=>
        subst hb0;have s1:=jK (P:=P) (w:=w) (v:=.int k3 m) (y:=cap) (code:=.slice3Acap) rfl (by omega) (by omega);have s2:=jK (P:=P) (w:=w) (v:=.int k2 hh) (y:=m.toNat) (code:=.slice3B) rfl (by omega) (by omega);have s3:=jK (P:=P) (w:=w) (v:=.int k1 l) (y:=hh.toNat) (code:=.slice3C) rfl (by omega) (by omega);have hbd:(Instr.sliceBounds true len cap (some (.int k1 l)) (some (.int k2 hh)) (some (.int k3 m))).run P w=.ok (l.toNat,hh.toNat,m.toNat) w:=by unfold Instr.sliceBounds;simp[s1,s2,s3]
        let loc:gi:=⟨(φ id).bT,if m.toNat=l.toNat then addr else addr+l.toNat*(φ id).sz,(φ id).sz,(φ id).ext,m.toNat-l.toNat⟩
        have hlt:l.toNat*(φ id).sz+(m.toNat-l.toNat)*(φ id).sz<=cap*(φ id).sz:=by rw[<-bK];exact aI _ (by omega)
        refine⟨.value (.slice (some (if m.toNat=l.toNat then⟨(φ id).bT,addr,none⟩else⟨(φ id).bT,addr+l.toNat*(φ id).sz,none⟩)) (hh.toNat-l.toNat) (m.toNat-l.toNat)),_,w,?_,.inl rfl,a_ _,S,ext φ nxt loc,fX.refl _ _,⟨fun _ h=>.inl h,(ga _ hn).dW⟩,.c ?_,?_⟩
        .simp only[execOp,ho,bn,hv0,e1,e2,e3,Instr.sliceAt,Instr.slice,Sem.run_bind,bv hu,Result.andThen_ok,hbd,fE hsz,Sem.run_pure];congr 3;split
         .rfl
         .simp [lM]
        .have e:ext φ nxt loc nxt=loc:=by simp[ext]
         have:=RC.bP (S:=S) (w:=w) (Kn:=nz Kn nxt (nxt+1)) (φ:=ext φ nxt loc) (id:=nxt) (off:=0) (len:=hh.toNat-l.toNat) (cap:=m.toNat-l.toNat) (addr:=loc.aK)
          (.inr (by omega)) (by omega) (by rw[e];simp) (by
           rw[e];show(if m.toNat=l.toNat then addr else addr+l.toNat*(φ id).sz)+(m.toNat-l.toNat)*(φ id).sz<=(φ id).ext;split
           .rename_i q;rw[q,Nat.sub_self];omega
           .omega) (by rw[e];exact bk _)
         rw[e]at this;have e4:(if m.toNat=l.toNat then(⟨(φ id).bT,addr,none⟩:Addr)else⟨(φ id).bT,addr+l.toNat*(φ id).sz,none⟩)=⟨(φ id).bT,if m.toNat=l.toNat then addr else addr+l.toNat*(φ id).sz,none⟩:=by split<;>rfl
         rw[e4];exact this
        .have hren:=ga (Kn:=Kn) (φ:=φ) loc hn;have:=hI.oV (fX.refl _ _) hren hI.sJ hI.sk hI.nh (hf':=ao H) (fun i o ho=>.inl ⟨ho,fun hown=>⟨rfl,((hI.gF i o ho).2.bi hown).1⟩⟩) (fun i j a b hi hj oa ob hne=>by rw[hren.dW _ (hI.gF i a hi).1,hren.dW _ (hI.gF j b hj).1];exact hI.nm i j a b hi hj oa ob hne) (hI.x_ hren fun _ _=>rfl);exact this.sv fun j=>km j
      .simp at hy
     .simp at hy
    .simp at h
   .simp at h
theorem Cb{str:Bool}{sz:Nat}{t:TypeId}{x:Operand}{lo hi:Option Operand}(ho:o.op=.slice t x lo hi none)
  (hu:if str then P.underlying t=some .string else∃el,P.underlying t=some (.slice el)/\eM P el=some sz) (hI:Inv S K w0 Kn φ (ao H) w)
  (hρ:∀x tv,jB e x=some tv->e_ S w Kn φ tv (ρ x))
  (h:bX call (.slice str sz lo.isSome hi.isSome) ((x::lo.toList++hi.toList).map (jB e)) H nxt=some (v,u,au,n')):cU P o ρ S K w0 w Kn φ (ao H) nxt n' v u:=by
 simp only[List.cons_append,ap,List.map_append]at h;cases hx:jB e x with
 |none=>rw[hx]at h;cases lo<;>cases hi<;>simp[bX]at h
 |some tv=>
  rw[hx]at h;cases tv with
  |agg cs=>cases lo<;>cases hi<;>simp[bX]at h
  |gB xs=>cases lo<;>cases hi<;>simp[bX]at h
  |c c=>
   have hr:=hρ x _ hx;cases hr with
   |c hr=>
   have fin:∀l h',lo.isSome=l.isSome->(∀y,lo=some y->ci (jB e y)=l)->hi.isSome=h'.isSome->(∀y,hi=some y->ci (jB e y)=h')->
     (match cD str sz c l h' with|some y=>some (TV.c y,([]:eg),([]:List Nat),nxt)|none=>none)=some (v,u,au,n')->cU P o ρ S K w0 w Kn φ (ao H) nxt n' v u:=by
    intro l h' e1 e2 e3 e4 hm;split at hm
    .rename_i y hy;obtain⟨rfl,rfl,rfl,rfl⟩:TV.c y=v/\[]=u/\[]=au/\nxt=n':=by simpa using hm
     have conv:∀(q:Option Operand)(l:Option Int),q.isSome=l.isSome->(∀y,q=some y->ci (jB e y)=l)->∀x,q.map ρ=some x->∃k n,x=.int k n/\l=some n:=by
      intro q l e1 e2 x hq;cases q with
      |none=>simp at hq
      |some y=>
       obtain rfl:ρ y=x:=by simpa using hq
       cases l with|none=>simp at e1|some n=>obtain⟨k,hk⟩:=iE (e2 y rfl) (hρ y);exact⟨k,n,hk,rfl⟩
     obtain⟨val',h1,h2⟩:=BU (P:=P) (lo:=lo.map ρ) (hi:=hi.map ρ) hu hr (by simpa using e1) (conv lo l e1 e2) (by simpa using e3) (conv hi h' e3 e4) hy;exact cU.pure hI (by simp[execOp,ho,h1]) (.c h2)
    .simp at hm
   cases lo with
   |none=>
    cases hi with
    |none=>exact fin none none rfl (fun y hy=>by simp at hy) rfl (fun y hy=>by simp at hy) h
    |some z=>
     change (match ci (jB e z)with|some u=>(match cD str sz c none (some u)with|some y=>some (TV.c y,([]:eg),([]:List Nat),nxt)|none=>(match jw str sz c 0 u H with|some (y,au)=>some (TV.c y,([]:eg),au,nxt)|none=>none))|none=>none)=_ at h;split at h
     .rename_i n hn;split at h
      .rename_i y hy;exact fin none (some n) rfl (fun y hy=>by simp at hy) rfl (fun y hy=>aa hy▸hn) (by rw[hy];exact h)
      .split at h
       .rename_i y ids1 hy;obtain⟨rfl,rfl,_,rfl⟩:TV.c y=v/\[]=u/\ids1=au/\nxt=n':=by simpa using h
        obtain⟨k2,e2⟩:=iE hn (hρ z);obtain⟨val',h1,h2⟩:=xY (P:=P) (t:=t) (lo:=none) (l:=none) hI hu hr rfl (fun x hx=>by simp at hx) e2 hy;exact cU.pure hI (by simp[execOp,ho,h1]) (.c h2)
       .simp at h
     .simp at h
   |some q=>
    cases hi with
    |none=>
     change (match ci (jB e q)with|some l=>(match cD str sz c (some l) none with|some y=>some (TV.c y,([]:eg),([]:List Nat),nxt)|none=>none)|none=>none)=_ at h;split at h
     .rename_i n hn;exact fin (some n) none rfl (fun y hy=>aa hy▸hn) rfl (fun y hy=>by simp at hy) h
     .simp at h
    |some z=>
     change (match ci (jB e q),ci (jB e z)with
      |some l,some u=>(match cD str sz c (some l) (some u)with
       |some y=>some (TV.c y,([]:eg),([]:List Nat),nxt)
       |none=>(match jw str sz c l u H with|some (y,au)=>some (TV.c y,([]:eg),au,nxt)|none=>none))
      |_,_=>none)=_ at h
     split at h
     .rename_i m n hm hn;split at h
      .rename_i y hy;exact fin (some m) (some n) rfl (fun y hy=>aa hy▸hm) rfl (fun y hy=>aa hy▸hn) (by rw[hy];exact h)
      .split at h
       .rename_i y ids1 hy;obtain⟨rfl,rfl,_,rfl⟩:TV.c y=v/\[]=u/\ids1=au/\nxt=n':=by simpa using h
        obtain⟨k1,e1⟩:=iE hm (hρ q);obtain⟨k2,e2⟩:=iE hn (hρ z);obtain⟨val',h1,h2⟩:=xY (P:=P) (t:=t) (lo:=some (ρ q)) (l:=some m) hI hu hr rfl (fun x hx=>⟨k1,m,by rw[<-aa hx,e1],rfl⟩) e2 hy;exact cU.pure hI (by simp[execOp,ho,h1]) (.c h2)
       .simp at h
     .simp at h
theorem vk{t:TypeId}{x i:Operand}{aF:Option Nat}{sz:Nat}(ho:o.op=.indexAddr t x i)
  (hu:match aF with|none=>∃el,P.underlying t=some (.slice el)/\eM P el=some sz|some len=>∃el,P.underlying t=some (.array len el)/\eM P el=some sz)
  (hI:Inv S K w0 Kn φ (ao H) w) {tx ti:Option TV} (hx:∀y,tx=some y->e_ S w Kn φ y (ρ x)) (hi:∀y,ti=some y->e_ S w Kn φ y (ρ i))
  (h:bX call (.indexAddr aF sz) [tx,ti] H nxt=some (v,u,au,n')):cU P o ρ S K w0 w Kn φ (ao H) nxt n' v u:=by
 match tx,h,hx with
 |some (.c c),h,hx=>
  change (match ci ti with|some i=>(match iC aF sz c i with|some y=>some (TV.c y,([]:eg),([]:List Nat),nxt)|none=>none)|none=>none)=_ at h;split at h
  .rename_i n hn;obtain⟨k,hk⟩:=iE hn hi;split at h
   .rename_i y hy;obtain⟨rfl,rfl,rfl,rfl⟩:TV.c y=v/\[]=u/\[]=au/\nxt=n':=by simpa using h
    have hr:=hx _ rfl;generalize hv0:ρ x=val at hr;cases hr with
    |c hr=>
    cases aF with
    |none=>
     obtain⟨el,hu,hsz⟩:=hu;simp only[iC]at hy;have run:∀b off len cap,val=.slice (some ⟨b,off,none⟩) len cap->0<=n->n<len->(execOp ρ o).run P w=.ok (.value (.pointer (some ⟨b,off+n.toNat*sz,none⟩))) w:=by intro b off len cap hv h0 h1;simp[execOp,ho,hv0,hv,Instr.indexAt,mx hk,bv hu,h0,h1,fE hsz,lM]
     split at hy
     .rename_i sz' id off len;split at hy
      .rename_i hb;obtain⟨h0,h1,rfl⟩:=hb;obtain rfl:=aa hy;cases hr with
       |@bP _ _ _ cap addr hkn hcap haddr hext=>
        refine cU.pure hI (run _ _ _ _ rfl h0 h1) (.c ?_);have ha:=haddr (by omega);have e1:addr+n.toNat*(φ id).sz=(φ id).aK+(off+n.toNat)*(φ id).sz+0:=by rw[ha,bK];omega
        rw[e1];exact .ep hkn
      .simp at hy
     .rename_i sz' rows;split at hy
      .rename_i hb;obtain⟨h0,rfl⟩:=hb;split at hy
       .rename_i r hr';obtain rfl:=aa hy;cases hr with
        |d hd=>cases hd with|@sl _ _ b off cap g hb hsz0 hcap hrow hcell hrd=>have hlt:n.toNat<rows.length:=(aj.1 hr').1;refine cU.pure hI (run _ _ _ _ rfl h0 (by omega)) (.c (.d (.ye hb fun j z hj=>⟨_,hcell _ _ hr' j z hj,hrd _ _ hr' j z hj⟩)))|tL=>simp at hr'
       .simp at hy
      .simp at hy
     .simp at hy
    |some len=>
     obtain⟨el,hu,hsz⟩:=hu;simp only[iC]at hy;split at hy
     .rename_i hb;obtain⟨h0,h1⟩:=hb;have run:∀b off,val=.pointer (some ⟨b,off,none⟩)->(execOp ρ o).run P w=.ok (.value (.pointer (some ⟨b,off+n.toNat*sz,none⟩))) w:=by intro b off hv;have hu':∀w,(underlying t).run P w=.ok (.array len el) w:=bv hu;simp only[execOp,ho,hv0,hv,Instr.indexAt,Sem.run_bind,mx hk,Result.andThen_ok,hu',Instr.sureAddr,Sem.run_pure,h0,h1,and_self,if_true,fE hsz,lM]
      split at hy
      .rename_i id off;obtain rfl:=aa hy;cases hr with|op hkn=>refine cU.pure hI (run _ _ rfl) (.c ?_);rw[cS];exact .op hkn
      .rename_i id eU off;obtain rfl:=aa hy;cases hr with|ep hkn=>refine cU.pure hI (run _ _ rfl) (.c ?_);rw[cS];exact .ep hkn
      .rename_i cells;split at hy
       .obtain rfl:=aa hy;cases hr with
        |d hd=>
         cases hd with
         |@pt _ b off g hb hcell hrd=>
          refine cU.pure hI (run _ _ rfl) (.c (.d (.ye hb fun j z hj=>?_)));rw[eK]at hj;split at hj
          .rw [bL]at hj;exact⟨_,by rw[cS];exact hcell _ _ hj,hrd _ _ hj⟩
          .simp at hj
       .simp at hy
      .simp at hy
     .simp at hy
   .simp at h
  .simp at h
theorem Ce{t:TypeId}{x i:Operand}(ho:o.op=.index t x i)(hu:P.underlying t=some .string)(hI:Inv S K w0 Kn φ (ao H) w)
  {tx ti:Option TV} (hx:∀y,tx=some y->e_ S w Kn φ y (ρ x)) (hi:∀y,ti=some y->e_ S w Kn φ y (ρ i))
  (h:bX call .pC [tx,ti] H nxt=some (v,u,au,n')):cU P o ρ S K w0 w Kn φ (ao H) nxt n' v u:=by
 match tx,h,hx with
 |some (.c (.d (.lit (.string s)))),h,hx=>
  change (match ci ti with|some i=>(match(if 0<=i then s[i.toNat]?else none)with|some b=>some (lv (.int .u8 b.toNat),([]:eg),([]:List Nat),nxt)|none=>none)|none=>none)=_ at h;split at h
  .rename_i n hn;obtain⟨k,hk⟩:=iE hn hi;split at h
   .rename_i b hb;obtain⟨rfl,rfl,rfl,rfl⟩:lv (.int .u8 b.toNat)=v/\[]=u/\[]=au/\nxt=n':=by simpa using h
    obtain⟨hv,_⟩:=(hx _ rfl).lit;exact cU.pure hI (by simp[execOp,ho,hv,Instr.index,mx hk,bv hu,hb]) (.qx rfl)
   .simp at h
  .simp at h
theorem BT{t:TypeId}{agg:Bool}{n off:Nat}(ha:fA P t=some agg)(hn:eM P t=some n){cs:List C}{aF:Array Value}{v:TV}(hlen:cs.length=aF.size)
  (hc:∀(i:Nat)(x:C),cs[i]?=some x->RC S w Kn φ x (aF.getD i undef)) (h:Cu agg n (cs.drop off)=some v):∃val,(part t aF off).run P w=.ok val w/\e_ S w Kn φ v val:=by
 unfold Cu at h;cases agg with
 |true=>
  simp only[if_true]at h;split at h
  .rename_i hle;obtain rfl:=aa h;simp only[List.length_drop]at hle;refine⟨.agg (aF.extract off (off+n)),by simp[part,tN ha,fE hn],.agg ?_ fun i x hi=>?_⟩
   .simp;omega
   .rw [eK]at hi;split at hi
    .rename_i hin;rw[bL]at hi;have hlt:off+i<aF.size:=by rw[<-hlen];exact(aj.1 hi).1
     have e1:(aF.extract off (off+n)).getD i undef=aF.getD (off+i) undef:=by
      have h1:(aF.extract off (off+n))[i]?=aF[off+i]?:=by rw[Array.getElem?_extract,if_pos (by omega)]
      simp only[Array.getD_eq_getD_getElem?,h1]
     rw[e1];exact hc _ _ hi
    .simp at hi
  .simp at h
 |false=>
  simp only[aE,if_false]at h;split at h
  .rename_i x r hd;obtain rfl:=aa h;have hx:cs[off]?=some x:=by have:=congrArg (fun l=>l[0]?) hd;simpa using this
   have hlt:off<aF.size:=by rw[<-hlen];exact(aj.1 hx).1
   refine⟨aF.getD off undef,?_,.c (hc _ _ hx)⟩;simp[part,tN ha,hlt]
  .simp at h
theorem Ie{s:TypeId}{f n:Nat}{agg:Bool}{fields:Array Field}{fl:Field}{x:Operand}(ho:o.op=.field s x f)(hu:P.underlying s=some (.struct fields))(hf:fields[f]?=some fl)
  (ha:fA P fl.type=some agg) (hs:eM P fl.type=some n) (hI:Inv S K w0 Kn φ (ao H) w) {tv:Option TV} (hx:∀y,tv=some y->e_ S w Kn φ y (ρ x))
  (h:bX call (.field agg fl.offset n) [tv] H nxt=some (v,u,au,n')):cU P o ρ S K w0 w Kn φ (ao H) nxt n' v u:=by
 match tv,h,hx with
 |some (.agg cs),h,hx=>
  change (match Cu agg n (cs.drop fl.offset)with|some v=>some (v,([]:eg),([]:List Nat),nxt)|none=>none)=_ at h;split at h
  .rename_i y hy;obtain⟨rfl,rfl,rfl,rfl⟩:y=v/\[]=u/\[]=au/\nxt=n':=by simpa using h
   have hr:=hx _ rfl;generalize hv0:ρ x=val at hr;cases hr with|agg hlen hc=>obtain⟨val,h1,h2⟩:=BT ha hs hlen hc hy;exact cU.pure hI (by simp[execOp,ho,hv0,Instr.field,bv hu,hf,asAgg,h1]) h2
  .simp at h
theorem Ic{t el:TypeId}{len n:Nat}{agg:Bool}{x i:Operand}(ho:o.op=.index t x i)(hu:P.underlying t=some (.array len el))
  (ha:fA P el=some agg) (hs:eM P el=some n) (hI:Inv S K w0 Kn φ (ao H) w) {tx ti:Option TV} (hx:∀y,tx=some y->e_ S w Kn φ y (ρ x)) (hi:∀y,ti=some y->e_ S w Kn φ y (ρ i))
  (h:bX call (.index agg len n) [tx,ti] H nxt=some (v,u,au,n')):cU P o ρ S K w0 w Kn φ (ao H) nxt n' v u:=by
 match tx,h,hx with
 |some (.agg cs),h,hx=>
  change (match ci ti with|some i=>(if 0<=i/\i<len then(match Cu agg n (cs.drop (i.toNat*n))with|some v=>some (v,([]:eg),([]:List Nat),nxt)|none=>none)else none)|none=>none)=_ at h;split at h
  .rename_i m hm;obtain⟨k,hk⟩:=iE hm hi;split at h
   .rename_i hb;split at h
    .rename_i y hy;obtain⟨rfl,rfl,rfl,rfl⟩:y=v/\[]=u/\[]=au/\nxt=n':=by simpa using h
     have hr:=hx _ rfl;generalize hv0:ρ x=val at hr;cases hr with|agg hlen hc=>obtain⟨val,h1,h2⟩:=BT ha hs hlen hc hy;exact cU.pure hI (by simp[execOp,ho,hv0,Instr.index,mx hk,bv hu,hb.1,hb.2,fE hs,h1]) h2
    .simp at h
   .simp at h
  .simp at h
end
section
variable{P:Program}{S K:Nat->Prop}{w0 w:World}{Kn:Nat->Prop}{φ:Nat->gi}{H:bh}{e:hZ}{ρ:Operand->Value}{o:Oper}{call:Call}
 {nxt n':Nat} {v:TV} {u:eg} {au:List Nat}
def KX(m:Bool):Value->Value->Sem Value:=if m then Builtin.max2 else Builtin.min2
theorem L8{m:Bool}{k:FloatKind}{a b:Nat}(hn:w_ k a)(hm:w_ k b)(y:Value):Bz m (.float k a) y=Bz m (.float k b) y:=by cases y with|float k' y=>unfold Bz;obtain⟨_,_,_,_,a5⟩:=Fq hn y;obtain⟨_,_,_,_,b5⟩:=Fq hm y;simp only[a5,b5]|_=>rfl
theorem L7{m:Bool}{k:FloatKind}{a b:Nat}(hn:w_ k a)(hm:w_ k b)(y:Value):Bz m y (.float k a)=Bz m y (.float k b):=by
 cases y with
 |float k' y=>
  by_cases hk:k'=k
  .subst hk;unfold Bz;obtain⟨_,_,_,_,a5⟩:=Fp hn y;obtain⟨_,_,_,_,b5⟩:=Fp hm y;simp only[a5,b5]
  .unfold Bz;simp only[if_neg hk]
 |_=>rfl
theorem Gy{m:Bool}{a b va vb v:Value}(ha:su a va)(hb:su b vb)(h:Bz m a b=some v):Bz m va vb=some v:=by
 cases ha with
 |ex=>cases hb<;>(unfold Bz at h;cases h)
 |lit _=>cases hb with|lit _=>exact h|nan hn hm=>rw[<-L7 hn hm];exact h|ex=>exfalso;unfold Bz at h;cases a<;>cases h
 |nan hn hm=>cases hb with|lit _=>rw[<-L8 hn hm];exact h|nan hn' hm'=>rw[<-L8 hn hm,<-L7 hn' hm'];exact h|ex=>unfold Bz at h;cases h
theorem Kr{m:Bool}{x y z:Value}(h:Bz m x y=some z):∃z' n,(KX m x y).run P w=.ok z' {w with drawn:=n}/\w.drawn<=n/\su z z':=by
 have key:(KX m x y).run P w=.ok z w/\eR z=true->∃z' n,(KX m x y).run P w=.ok z' {w with drawn:=n}/\w.drawn<=n/\su z z':=fun h=>⟨z,w.drawn,h.1,am _,.lit h.2⟩;unfold Bz at h;split at h
 .rename_i k a k' b;split at h
  .obtain rfl:=aa h;refine key ?_;cases m<;>simp[KX,Builtin.max2,Builtin.min2,eR]
  .simp at h
 .rename_i k a k' b;split at h
  .rename_i hk;subst hk;split at h
   .rename_i ho;obtain rfl:=aa h;refine⟨.float k ((Question.nanMinMax k m a b).cut (w.tape w.drawn (.nanMinMax k m a b))),w.drawn+1,?_,a_ _,.nan (CA k) ?_⟩
    .cases m<;>simp[KX,Builtin.max2,Builtin.min2,ho,run_choose,Question.forced]
    .have:∀t,(Question.nanMinMax k m a b).cut t=(Question.nanBits k a b).cut t:=by intro t;cases k<;>rfl
     rw[this];exact Fz _ _ _ _
   .rename_i ho;obtain rfl:=aa h;refine key ?_;cases m<;>simp[KX,Builtin.max2,Builtin.min2,eR,ho]
   .rename_i ho;obtain rfl:=aa h;refine key ?_;cases m<;>simp[KX,Builtin.max2,Builtin.min2,eR,ho]
   .rename_i ho;obtain rfl:=aa h;refine key ?_;cases m<;>simp[KX,Builtin.max2,Builtin.min2,eR,ho]
  .simp at h
 .simp at h
theorem Kq{m:Bool}(hρ:∀x y,jB e x=some (.c (.d (.lit y)))->su y (ρ x)):∀(r:List Operand)(x z vx:Value)(w:World),su x vx->Iu m x (r.map (jB e))=some z->
  ∃z' n,((r.map ρ).foldlM (KX m) vx).run P w=.ok z' {w with drawn:=n}/\w.drawn<=n/\su z z':=by
 intro r;induction r with
 |nil=>
  intro x z vx w hx h;obtain rfl:x=z:=by simpa[Iu]using h
  exact⟨vx,w.drawn,rfl,am _,hx⟩
 |cons a r ih=>
  intro x z vx w hx h;simp only[ap]at h|-
  match ha:jB e a,h with
  |some (.c (.d (.lit y))),h=>
   simp only[Iu]at h;split at h
   .rename_i z' hz;have hz:=Gy hx (hρ a _ ha) hz;obtain⟨z1,n1,h1,l1,e1⟩:=Kr (P:=P) (w:=w) hz;obtain⟨z2,n2,h3,l2,e2⟩:=ih z' z z1 {w with drawn:=n1} e1 h;refine⟨z2,n2,?_,Nat.le_trans l1 l2,e2⟩;simp only[List.foldlM_cons,Sem.run_bind,h1,Result.andThen_ok,h3]
   .simp at h
theorem z4{m:Bool}{c:kO}(ho:o.op=.call c)(hcal:c.callee=.builtin (if m then .max else .min))(hI:Inv S K w0 Kn φ (ao H) w)
  (hρ:∀x tv,jB e x=some tv->e_ S w Kn φ tv (ρ x)) (h:bX call (.rK m) (c.args.toList.map (jB e)) H nxt=some (v,u,au,n')):cU P o ρ S K w0 w Kn φ (ao H) nxt n' v u:=by
 generalize hargs:c.args.toList=args at h;cases args with
 |nil=>simp[bX]at h
 |cons a r=>
  simp only[ap]at h
  match ha:jB e a,h with
  |some (.c (.d (.lit x))),h=>
   change (match Iu m x (r.map (jB e))with|some v=>some (lv v,([]:eg),([]:List Nat),nxt)|none=>none)=_ at h;split at h
   .rename_i z hz;obtain⟨rfl,rfl,rfl,rfl⟩:lv z=v/\[]=u/\[]=au/\nxt=n':=by simpa using h
    obtain⟨z',n,h1,hle,h4⟩:=Kq (P:=P) (fun x y hx=>(hρ x _ hx).Gu) r x z _ w (hρ a _ ha).Gu hz;have e1:List.map ρ c.args.toList=ρ a::r.map ρ:=by rw[hargs,ap]
    refine⟨.value z',z',_,?_,.inl rfl,am _,S,φ,fX.rj _ _ _,p9 _ _,.D6 h4,(hI.rj n hle).kn fun _ hi=>.inl hi⟩;cases m
    .simp only[aE,if_false]at hcal;have h1':((r.map ρ).foldlM Builtin.min2 (ρ a)).run P w=.ok z' {w with drawn:=n}:=h1;simp[execOp,ho,hcal,resolve,invoke,builtin,Builtin.min_,e1,h1']
    .simp only[if_true]at hcal;have h1':((r.map ρ).foldlM Builtin.max2 (ρ a)).run P w=.ok z' {w with drawn:=n}:=h1;simp[execOp,ho,hcal,resolve,invoke,builtin,Builtin.max_,e1,h1']
   .simp at h
def CR(S:Nat->Prop)(w:World)(Kn:Nat->Prop)(φ:Nat->gi)(cs:List C)(vs:List Value):Prop:=cs.length=vs.length/\∀(i:Nat)(x:C)(y:Value),cs[i]?=some x->vs[i]?=some y->RC S w Kn φ x y
theorem CR.aU{cs ds:List C}{vs us:List Value}(h1:CR S w Kn φ cs vs)(h2:CR S w Kn φ ds us)(off:Nat)(hfit:off+ds.length<=cs.length):
  CR S w Kn φ (aU cs off ds) (aU vs off us):=by
 have hl1:=h1.1;have hl2:=h2.1;refine⟨by rw[eA _ _ _ hfit,eA _ _ _ (by omega)];exact h1.1,fun i x y hx hy=>?_⟩;rw[jt _ _ _ hfit]at hx;rw[jt _ _ _ (by omega)]at hy;by_cases c1:i<off
 .rw [if_pos c1]at hx hy;exact h1.2 i x y hx hy
 .rw [if_neg c1]at hx hy;by_cases c2:i<off+ds.length
  .rw [if_pos c2]at hx;rw[if_pos (by omega)]at hy;exact h2.2 _ x y hx hy
  .rw [if_neg c2]at hx;rw[if_neg (by omega)]at hy;exact h1.2 i x y hx hy
theorem e_.cr{tv:TV}{val:Value}{cs:List C}(h:e_ S w Kn φ tv val)(hc:cellsOf tv=some cs):CR S w Kn φ cs val.cells.toList:=by
 obtain⟨h1,h2,_⟩:=h.cells hc;refine⟨by simpa using h1,fun i x y hx hy=>?_⟩;have:=h2 i x hx;have e1:val.cells.getD i undef=y:=by rw[aW]at hy;simp[hy]
 rwa[e1]at this
theorem yN{cs:List C}{aF:Array Value}(h:CR S w Kn φ cs aF.toList):cs.length=aF.size/\∀(i:Nat)(x:C),cs[i]?=some x->RC S w Kn φ x (aF.getD i undef):=by
 have hl:cs.length=aF.size:=by simpa using h.1
 refine⟨hl,fun i x hx=>?_⟩;have hlt:i<aF.size:=by rw[<-hl];exact(aj.1 hx).1
 refine h.2 i x _ hx ?_;simp[hlt]
theorem IG:∀(l:List Value)(k:Nat)(aF:Array Value)(off:Nat),off+k+l.length<=aF.size->
  ((l.zipIdx k).foldl (fun(cs:Array Value)(p:Value×Nat)=>cs.setIfInBounds (off+p.2) p.1) aF).toList=aU aF.toList (off+k) l:=by
 intro l;induction l with
 |nil=>intro k aF off _;simp[aU]
 |cons a l ih=>
  intro k aF off hfit;simp only[dJ]at hfit;simp only[List.zipIdx_cons,List.foldl_cons];rw[ih (k+1) (aF.setIfInBounds (off+k) a) off (by simp;omega)];apply List.ext_getElem?;intro i;rw[jt _ _ _ (by simp;omega),jt _ _ _ (by simp;omega)];simp only[Array.toList_setIfInBounds,List.getElem?_set,dJ];by_cases c1:i<off+k
  .have c3:i<off+(k+1):=by omega
   have c4:¬off+k=i:=by omega
   simp[c1,c3,c4]
  .by_cases c2:i=off+k
   .subst c2;have:off+k<off+(k+1):=by omega
    have c5:off+k<aF.size:=by omega
    simp[this,c5]
   .have c3:¬i<off+(k+1):=by omega
    have c4:¬off+k=i:=by omega
    by_cases c5:i<off+k+(l.length+1)
    .have c6:i<off+(k+1)+l.length:=by omega
     have c7:i-(off+k)=(i-(off+(k+1)))+1:=by omega
     simp[c1,c3,c5,c6,c7]
    .have c6:¬i<off+(k+1)+l.length:=by omega
     simp[c1,c3,c4,c5,c6]
theorem LO(vs aF:Array Value)(off:Nat)(hfit:off+vs.size<=aF.size):
  (vs.zipIdx.foldl (fun(cs:Array Value)(p:Value×Nat)=>cs.setIfInBounds (off+p.2) p.1) aF).toList=aU aF.toList off vs.toList:=by
 rw[<-Array.foldl_toList,Array.toList_zipIdx];have:=IG vs.toList 0 aF off (by simpa using hfit);simpa using this
theorem uL(place:Nat->Option (Nat×Nat)):∀(parts:List (Nat×Operand))(pl:List (Nat×Nat))(xs:List TV)(cs cs':List C)(aF:Array Value),
  pl.length=parts.length->(∀(i:Nat)(p:Nat×Operand)(q:Nat×Nat),parts[i]?=some p->pl[i]?=some q->place p.1=some q)->
  xs.length=parts.length->(∀(i:Nat)(p:Nat×Operand)(x:TV),parts[i]?=some p->xs[i]?=some x->e_ S w Kn φ x (ρ p.2))->
  CR S w Kn φ cs aF.toList->kE cs (pl.zip xs)=some cs'->
  ∃arr',Instr.fill place aF (parts.map fun p=>(p.1,ρ p.2))=some arr'/\CR S w Kn φ cs' arr'.toList:=by
 intro parts;induction parts with
 |nil=>
  intro pl xs cs cs' aF h1 _ h2 _ hcr h;have e1:pl=[]:=List.length_eq_zero_iff.1 h1;subst e1;obtain rfl:cs=cs':=by simpa[kE]using h
  exact⟨aF,rfl,hcr⟩
 |cons p parts ih=>
  intro pl xs cs cs' aF h1 hpl h2 hxs hcr h;cases pl with
  |nil=>simp at h1
  |cons q pl=>
   cases xs with
   |nil=>simp at h2
   |cons x xs=>
    obtain⟨off,n⟩:=q;simp only[List.zip_cons_cons,kE]at h;split at h
    .rename_i ds hds;split at h
     .rename_i hb;obtain⟨hb1,hb2⟩:=hb;have hp:=hpl 0 p (off,n) rfl rfl;have hx:=(hxs 0 p x rfl rfl).cr hds;have hsz:(ρ p.2).cells.size=n:=by have:=hx.1;simp at this;omega
      have hal:cs.length=aF.size:=by simpa using hcr.1
      have hcr':=hcr.aU hx off (by omega);rw[<-LO (ρ p.2).cells aF off (by omega)]at hcr'
      obtain⟨arr',h3,h4⟩:=ih pl xs _ cs' _ (by simpa using h1) (fun i p q hp hq=>hpl (i+1) p q (by simpa using hp) (by simpa using hq)) (by simpa using h2)
       (fun i p x hp hx=>hxs (i+1) p x (by simpa using hp) (by simpa using hx)) hcr' h
      refine⟨arr',?_,h4⟩;simp only[ap,Instr.fill,hp];rw[if_neg (by simp[hsz];omega)];exact h3
     .simp at h
    .simp at h
theorem AY{z:List Value}(hp:∀x∈z,eR x=true):CR S w Kn φ (eQ z) z:=by refine⟨by simp[eQ],fun i x y hx hy=>?_⟩;simp only[eQ,aL,hy,bn]at hx;obtain rfl:=aa hx;exact .d (.lit (hp y (bd hy)))
theorem DS{fields:Array Field}:∀{is:List Nat}{pl:List (Nat×Nat)},qU P fields is=some pl->pl.length=is.length/\
  ∀(k i:Nat)(q:Nat×Nat),is[k]?=some i->pl[k]?=some q->∃f,fields[i]?=some f/\q.1=f.offset/\eM P f.type=some q.2:=by
 intro is;induction is with
 |nil=>
  intro pl h;obtain rfl:[]=pl:=by simpa[qU]using h
  exact⟨rfl,fun k i q hk=>by simp at hk⟩
 |cons i is ih=>
  intro pl h;simp only[qU]at h;split at h
  .rename_i f l hf hl;split at h
   .rename_i n hn;obtain rfl:=aa h;obtain⟨h1,h2⟩:=ih hl;refine⟨by simp[h1],fun k j q hk hq=>?_⟩;cases k with
    |zero=>
     obtain rfl:i=j:=by simpa using hk
     obtain rfl:(f.offset,n)=q:=by simpa using hq
     exact⟨f,hf,rfl,hn⟩
    |succ k=>exact h2 k j q (by simpa using hk) (by simpa using hq)
   .simp at h
  .simp at h
theorem DI(g:Field->Nat×Nat):∀(l:List Field),(∀f∈l,∃n,eM P f.type=some n/\g f=(f.offset,n))->
  (l.mapM fun f=>(do pure (f.offset,<-sizeOf f.type):Sem (Nat×Nat))).run P w=.ok (l.map g) w:=by
 intro l;induction l with|nil=>intro _;rfl|cons f l ih=>intro h;obtain⟨n,hn,hg⟩:=h f (by simp);have:=ih fun f hf=>h f (by simp[hf]);simp only[List.mapM_cons,Sem.run_bind,fE hn,Result.andThen_ok,Sem.run_pure,this,ap,hg]
theorem Ci{t:TypeId}{parts:Array (Nat×Operand)}{z:List Value}{pl:List (Nat×Nat)}(ho:o.op=.build t parts)(hz:gC P t=some z)
  (hu:(∃fields,P.underlying t=some (.struct fields)/\qU P fields (parts.toList.map (·.1))=some pl/\fields.toList.all (fun f=>(eM P f.type).isSome)=true)\/
   (∃len el n,P.underlying t=some (.array len el)/\eM P el=some n/\pl=parts.toList.map fun p=>(p.1*n,n)))
  (hI:Inv S K w0 Kn φ (ao H) w) (hρ:∀x tv,jB e x=some tv->e_ S w Kn φ tv (ρ x))
  (h:bX call (.build z pl) ((parts.toList.map (·.2)).map (jB e)) H nxt=some (v,u,au,n')):cU P o ρ S K w0 w Kn φ (ao H) nxt n' v u:=by
 change (match dz ((parts.toList.map (·.2)).map (jB e))with
  |some xs=>(match kE (eQ z) (pl.zip xs)with|some cs=>some (TV.agg cs,([]:eg),([]:List Nat),nxt)|none=>none)
  |none=>none)=_ at h
 split at h
 .rename_i xs hxs;split at h
  .rename_i cs hcs;obtain⟨rfl,rfl,rfl,rfl⟩:TV.agg cs=v/\[]=u/\[]=au/\nxt=n':=by simpa using h
   obtain⟨hl,hr⟩:=tf hρ hxs;obtain⟨zv,hzr,hzl,hzp⟩:=kT hz w
   have key:∀place:Nat->Option (Nat×Nat),pl.length=parts.toList.length->(∀(i:Nat)(p:Nat×Operand)(q:Nat×Nat),parts.toList[i]?=some p->pl[i]?=some q->place p.1=some q)->
     ∃arr',Instr.fill place zv.cells ((parts.map fun p=>(p.1,ρ p.2)).toList)=some arr'/\CR S w Kn φ cs arr'.toList:=by
    intro place h1 h2
    have:=uL (S:=S) (w:=w) (Kn:=Kn) (φ:=φ) (ρ:=ρ) place parts.toList pl xs (eQ z) cs zv.cells h1 h2 (by simpa using hl) (fun i p x hp hx=>hr i p.2 x (by simp only[aL,hp,bn]) hx)
     (by rw[hzl];exact AY hzp) hcs
    simpa using this
   rcases hu with⟨fields,hu,hpl,hall⟩|⟨len,el,n,hu,hn,rfl⟩
   .obtain ⟨h1,h2⟩:=DS hpl;let g:Field->Nat×Nat:=fun f=>(f.offset,(eM P f.type).getD 0)
    have hg:(fields.mapM fun f=>(do pure (f.offset,<-sizeOf f.type):Sem (Nat×Nat))).run P w=.ok (fields.map g) w:=by
     rw[Array.mapM_eq_mapM_toList];have:=DI (P:=P) (w:=w) g fields.toList fun f hf=>by have:=aV.1 hall f hf;obtain⟨n,hn⟩:=Option.isSome_iff_exists.1 this;exact⟨n,hn,by simp[g,hn]⟩
     simp only[Sem.run_map,this,Result.andThen_ok];congr 1;apply Array.ext';rw[Array.toList_map]
    obtain⟨arr',h3,h4⟩:=key (fun i=>(fields.map g)[i]?) (by simpa using h1) (fun i p q hp hq=>by obtain⟨f,hf,hq1,hq2⟩:=h2 i p.1 q (by simp only[aL,hp,bn]) hq;simp only[Array.getElem?_map,hf,bn,g,hq2,cm,<-hq1]);obtain⟨h5,h6⟩:=yN h4;refine cU.pure (val:=.agg arr') hI ?_ (.agg h5 h6);simp only[execOp,ho,Sem.run_bind,Instr.build,hzr,Result.andThen_ok,bv hu,hg,h3,Sem.run_pure]
   .obtain ⟨arr',h3,h4⟩:=key (fun i=>some (i*n,n)) (by simp) (fun i p q hp hq=>by simp only[aL,hp,bn]at hq;exact hq);obtain⟨h5,h6⟩:=yN h4;refine cU.pure (val:=.agg arr') hI ?_ (.agg h5 h6);simp only[execOp,ho,Sem.run_bind,Instr.build,hzr,Result.andThen_ok,bv hu,fE hn,h3,Sem.run_pure]
  .simp at h
 .simp at h
theorem kp.from{S1:Nat->Prop}{hf hf1:Nat->Option Ob}{u1 u2:eg}{val:Value}{w':World}(hs:fX S w S1 w)(he:hf1=aZ u1 hf)(h:kp S1 K w0 w Kn φ hf1 nxt n' v u2 val w'):
  kp S K w0 w Kn φ hf nxt n' v (u2++u1) val w':=by
 obtain⟨h1,S',φ',h2,h3,h4,h5⟩:=h;exact⟨h1,S',φ',hs.trans h2,h3,h4,by rw[dL,<-he];exact h5⟩
theorem EE{α:Type}(sz:Nat):∀(n:Nat)(l:List α),n*sz<=l.length->(mg sz n l).length=n/\∀i r,(mg sz n l)[i]?=some r->r=(l.drop (i*sz)).take sz/\r.length=sz:=by
 intro n;induction n with
 |zero=>intro l _;exact⟨rfl,fun i r hi=>by simp[mg]at hi⟩
 |succ n ih=>
  intro l hl;have e1:(n+1)*sz=n*sz+sz:=dT n sz;obtain⟨h1,h2⟩:=ih (l.drop sz) (by simp;omega);refine⟨by simp[mg,h1],fun i r hi=>?_⟩;cases i with
  |zero=>
   obtain rfl:l.take sz=r:=by simpa[mg]using hi
   exact⟨by simp,by simp;omega⟩
  |succ i=>obtain⟨h3,h4⟩:=h2 i r (by simpa[mg]using hi);refine⟨?_,h4⟩;rw[h3,List.drop_drop];congr 2;rw[dT];omega
theorem sC{zc:Array Value}{z:List Value}{sz n:Nat}(hz:zc.toList=z)(hl:z.length=sz)(hpos:0<sz):
  ((js n).map (fun i=>zc[i %zc.size]!)).toList=(eJ n).map fun i=>z.getD (i %sz) undef:=by
 simp only[Array.toList_map,Array.toList_range];apply List.map_congr_left;intro i _;have e1:zc.size=sz:=by rw[<-hl,<-hz];simp
 have hlt:i %sz<zc.size:=by rw[e1];exact Nat.mod_lt _ hpos
 rw[e1,<-hz];have:i %sz<zc.toList.length:=by simpa using hlt
 simp[hlt]
theorem zw{t el:TypeId}{len n:Nat}{parts:Array (Nat×Operand)}{z:List Value}(ho:o.op=.buildSlice t len parts)(hu:P.underlying t=some (.slice el))
  (hs:eM P el=some (n+1)) (hz:gC P el=some z) (hlim:len*(n+1)<=4096/\z.length=n+1)
  (hI:Inv S K w0 Kn φ (ao H) w) (hn0:nxt<n'->¬Kn nxt) (hρ:∀x tv,jB e x=some tv->e_ S w Kn φ tv (ρ x))
  (h:bX call (.buildSlice (n+1) len ((eJ (len*(n+1))).map fun i=>z.getD (i %(n+1)) undef) (parts.toList.map (·.1))) ((parts.toList.map (·.2)).map (jB e)) H nxt=some (v,u,au,n')):
  cU P o ρ S K w0 w Kn φ (ao H) nxt n' v u:=by
 generalize hzs:((eJ (len*(n+1))).map fun i=>z.getD (i %(n+1)) undef)=zs at h
 change (match dz ((parts.toList.map (·.2)).map (jB e))with
  |some xs=>
   (match kE (eQ zs) (((parts.toList.map fun(p:Nat×Operand)=>p.1).map fun i=>(i*(n+1),n+1)).zip xs)with
   |some cs=>
    (match dC H cs with
    |some (ds,au)=>(match dh H au au with|some u=>some (TV.c (.bP (n+1) nxt 0 len),(nxt,some (Ob.aF (n+1) (mg (n+1) len ds)))::u,au,nxt+1)|none=>none)
    |none=>none)
   |none=>none)
  |none=>none)=_ at h
 split at h
 .rename_i xs hxs;split at h
  .rename_i cs hcs;split at h
   .rename_i ds ids' hv;split at h
    .rename_i u' hfz;obtain⟨rfl,rfl,rfl,rfl⟩:TV.c (.bP (n+1) nxt 0 len)=v/\(nxt,some (Ob.aF (n+1) (mg (n+1) len ds)))::u'=u/\ids'=au/\nxt+1=n':=by simpa using h
     have hn:=hn0 (aQ _);obtain⟨hl,hr⟩:=tf hρ hxs;obtain⟨zv,hzr,hzl,hzp⟩:=kT hz w
     have hzp':∀x∈zs,eR x=true:=by
      intro x hx;rw[<-hzs]at hx;obtain⟨i,_,rfl⟩:=eh.1 hx;have hlt:i %(n+1)<z.length:=by rw[hlim.2];exact Nat.mod_lt _ (cQ _)
      have:z.getD (i %(n+1)) undef=z[i %(n+1)]:=by simp[List.getD,hlt]
      rw[this];exact hzp _ (List.getElem_mem hlt)
     have hzero:∃zc:Array Value,(len*(n+1)=0->zc= #[])/\(¬len*(n+1)=0->zc=zv.cells)/\
       ((js (len*(n+1))).map (fun i=>zc[i %zc.size]!)).toList=zs:=by
      by_cases hc:len*(n+1)=0
      .refine ⟨#[],fun _=>rfl,fun h=>absurd hc h,?_⟩;rw[<-hzs,hc];simp
      .refine ⟨zv.cells,fun h=>absurd h hc,fun _=>rfl,?_⟩;rw[sC hzl hlim.2 (cQ _),hzs]
     obtain⟨zc,hzc,hzc1,hzc2⟩:=hzero
     obtain⟨arr',h3,h4⟩:=uL (S:=S) (w:=w) (Kn:=Kn) (φ:=φ) (ρ:=ρ) (fun i=>some (i*(n+1),n+1)) parts.toList _ xs (eQ zs) cs ((js (len*(n+1))).map (fun i=>zc[i %zc.size]!))
      (by simp) (fun i p q hp hq=>by simp only[aL,hp,bn]at hq;exact hq) (by simpa using hl)
      (fun i p x hp hx=>hr i p.2 x (by simp only[aL,hp,bn]) hx) (by rw[hzc2];exact AY hzp') hcs
     obtain⟨h5,h6⟩:=yN h4
     have hcl:cs.length=len*(n+1):=by
      have:∀(l:List ((Nat×Nat)×TV))(a b:List C),kE a l=some b->b.length=a.length:=by
       intro l;induction l with
       |nil=>
        intro a b h;obtain rfl:a=b:=by simpa[kE]using h
        rfl
       |cons p l ih=>
        intro a b h;obtain⟨⟨off,m⟩,x⟩:=p;simp only[kE]at h;split at h
        .split at h
         .rename_i hb;rw[ih _ _ h,eA _ _ _ (by omega)]
         .simp at h
        .simp at h
      rw[this _ _ _ hcs,<-hzs];simp[eQ]
     obtain⟨h7,h8⟩:=oR hI cs ds ids' hv (fun i=>arr'[i]?) (fun i c hi=>by
      have hlt:i<arr'.size:=by rw[<-h5];exact(aj.1 hi).1
      exact⟨arr'.getD i undef,by simp[hlt],h6 i c hi⟩)
     obtain⟨h9,h10⟩:=EE (n+1) len ds (by omega);have hI1:=hI.A_ hfz
     have hrows:cK (SB S w φ (ao H) ids') w (n+1) (fun i=>arr'[i]?) 0 (mg (n+1) len ds):=by
      refine⟨fun i r hi=>(h10 i r hi).2,fun i r hi j x hj=>?_⟩;rw[(h10 i r hi).1,eK]at hj;split at hj
      .rw [bL]at hj;obtain⟨y,hy,hd⟩:=h8 _ x hj;exact⟨y,by rw[<-hy];simp,hd⟩
      .simp at hj
     have hD:=kp.aF (K:=K) (w0:=w0) hI1 hn (cap:=len) (aF:=arr') (sz:=n+1) el (cQ n) (by omega) (by omega) hrows;rw[h9]at hD;refine⟨.value _,_,_,?_,.inl rfl,kp.from (u1:=u') (SB.sH _) rfl hD⟩;have h3':Instr.fill (fun i=>some (i*(n+1),n+1)) ((js (len*(n+1))).map (fun i=>zc[i %zc.size]!)) (parts.map fun p=>(p.1,ρ p.2)).toList=some arr':=by rw[<-h3];simp
     have hlim':¬len*(n+1)>2^24:=by have:=hlim.1;omega
     simp only[execOp,ho,Sem.run_bind,Instr.buildSlice,bv hu,Result.andThen_ok,fE hs,if_neg hlim'];by_cases hc:len*(n+1)=0
     .rw [hzc hc]at h3';simp only[if_pos hc,Sem.run_bind,Sem.run_pure,Result.andThen_ok,h3',newRow,run_newObj]
     .rw [hzc1 hc]at h3';simp only[if_neg hc,Sem.run_bind,hzr,Sem.run_pure,Result.andThen_ok,h3',newRow,run_newObj]
    .simp at h
   .simp at h
  .simp at h
 .simp at h
end
section
variable{P:Program}{S K:Nat->Prop}{w0 w:World}{Kn:Nat->Prop}{φ:Nat->gi}{H:bh}{e:hZ}{ρ:Operand->Value}{o:Oper}{call:Call}
 {nxt n':Nat} {v:TV} {u:eg} {au:List Nat}
theorem oe{el:TypeId}(h:kI P el=true):∃i,P.info? el=some i/\0<i.bytes/\i.bytes<=16384:=by
 unfold kI at h;split at h
 .rename_i i hi;simp only[Bool.and_eq_true,decide_eq_true_eq]at h;exact⟨i,hi,h.1,h.2⟩
 .simp at h
theorem vj{t el:TypeId}{n:Nat}{l c:Operand}{z:List Value}(ho:o.op=.makeSlice t l c)(hu:P.underlying t=some (.slice el))
  (hs:eM P el=some (n+1)) (hz:gC P el=some z) (hzl:z.length=n+1) (hb:kI P el=true)
  (hI:Inv S K w0 Kn φ (ao H) w) (hn0:nxt<n'->¬Kn nxt) {tl tc:Option TV} (hl:∀y,tl=some y->e_ S w Kn φ y (ρ l)) (hc:∀y,tc=some y->e_ S w Kn φ y (ρ c))
  (h:bX call (.makeSlice z) [tl,tc] H nxt=some (v,u,au,n')):cU P o ρ S K w0 w Kn φ (ao H) nxt n' v u:=by
 change (match ci tl,ci tc with
  |some l,some c=>if 0<=l/\l<=c/\c<=qM then some (TV.c (.bP z.length nxt 0 l.toNat),[(nxt,some (Ob.aF z.length (aB l.toNat (cO z))))],([]:List Nat),nxt+1)else none
  |_,_=>none)=_ at h
 split at h
 .rename_i a b ha hb';split at h
  .rename_i hle;obtain⟨h0,h1,h2⟩:=hle;obtain⟨rfl,rfl,rfl,rfl⟩:TV.c (.bP z.length nxt 0 a.toNat)=v/\[(nxt,some (Ob.aF z.length (aB a.toNat (cO z))))]=u/\[]=au/\nxt+1=n':=by simpa using h
   have hn:=hn0 (aQ _);obtain⟨k1,hk1⟩:=iE ha hl;obtain⟨k2,hk2⟩:=iE hb' hc;obtain⟨i,hi,hby0,hby⟩:=oe hb;obtain⟨zv,hzr,hzv,hzp⟩:=kT hz w;simp only[qM]at h2;have hwa:IntKind.i64.wrap a=a:=jZ h0 (by omega);have hwb:IntKind.i64.wrap b=b:=jZ (by omega) (by omega);have hmul:(i.bytes:Int)*b<=16384*2147483648:=Int.mul_le_mul (by omega) (by omega) (by omega) (by omega);have hsz:(z.length)=zv.cells.size:=by rw[<-hzv];simp
   let aF:Array Value:=(js (b.toNat*(n+1))).map (fun i=>zv.cells[i %zv.cells.size]!);have harr:aF.toList=(eJ (b.toNat*(n+1))).map fun i=>z.getD (i %(n+1)) undef:=sC hzv hzl (cQ _);have hsize:aF.size=b.toNat*(n+1):=by simp[aF]
   have hrows:cK S w (n+1) (fun i=>aF[i]?) 0 (aB a.toNat (cO z)):=by
    refine⟨fun i r hi=>?_,fun i r hi j x hj=>?_⟩
    .obtain ⟨_,rfl⟩:i<a.toNat/\cO z=r:=by
      rw[dp]at hi;split at hi
      .rename_i hlt;exact⟨hlt,aa hi⟩
      .simp at hi
     simp[cO,hzl]
    .obtain ⟨hlt,rfl⟩:i<a.toNat/\cO z=r:=by
      rw[dp]at hi;split at hi
      .rename_i hlt;exact⟨hlt,aa hi⟩
      .simp at hi
     simp only[cO,aL]at hj;obtain⟨y,hy,rfl⟩:=aM.1 hj;have hjl:j<n+1:=by rw[<-hzl];exact(aj.1 hy).1
     refine⟨y,?_,.lit (hzp y (bd hy))⟩;have hidx:i*(n+1)+j<b.toNat*(n+1):=by have:(i+1)*(n+1)<=b.toNat*(n+1):=aI _ (by omega);rw[dT]at this;omega
     show aF[0+i*(n+1)+j]?=some y;rw[<-aW,harr,bk,aL,ik hidx];have e1:(i*(n+1)+j) %(n+1)=j:=by rw[Nat.add_comm,Nat.add_mul_mod_self_right];exact Nat.mod_eq_of_lt hjl
     simp[e1,List.getD,hy]
   have hD:=kp.aF (K:=K) (w0:=w0) hI hn (cap:=b.toNat) (aF:=aF) el (cQ n) (by simp;omega) (by rw[hsize];exact am _) hrows;rw[dm]at hD;rw[hzl];refine⟨.value (.slice (some ⟨w.heap.size,0,none⟩) a.toNat b.toNat),_,_,?_,.inl rfl,hD⟩;have hinfo:∀w:World,(typeInfo el).run P w=.ok i w:=fun w=>by simp[typeInfo,hi]
   have harr0:∀zc:Array Value,(b.toNat*(n+1)=0->zc= #[])->(¬b.toNat*(n+1)=0->zc=zv.cells)->((js (b.toNat*(n+1))).map (fun i=>zc[i %zc.size]!))=aF:=by
    intro zc h1 h2;by_cases hc0:b.toNat*(n+1)=0
    .apply Array.ext';rw[harr,hc0];simp
    .rw [h2 hc0]
   have hnl:¬(decide (b<0)||decide ((i.bytes:Int)*b>2^48))=true:=by simp only[fM,decide_eq_true_eq,not_or];constructor<;>omega
   simp only[execOp,ho,Sem.run_bind,Instr.makeSlice,bv hu,Result.andThen_ok,vZ hk1,vZ hk2,hinfo,hwa,hwb];rw[Sem.run_ite,if_neg (by simp only[fM,decide_eq_true_eq];simp only[fM,decide_eq_true_eq]at hnl;omega)];simp only[Sem.run_pure,Result.andThen_ok,Sem.run_bind,run_askRoom,fE hs];by_cases hc0:b.toNat*(n+1)=0
   .have:=harr0 #[] (fun _=>rfl) (fun h=>absurd hc0 h);simp only[if_pos hc0,Sem.run_bind,Sem.run_pure,Result.andThen_ok,newRow,run_newObj,this]
   .have:=harr0 zv.cells (fun h=>absurd h hc0) (fun _=>rfl);simp only[if_neg hc0,Sem.run_bind,hzr,Sem.run_pure,Result.andThen_ok,newRow,run_newObj,this]
  .simp at h
 .simp at h
theorem H_{t el:TypeId}{n m:Nat}{l c:Operand}{z:List Value}(ho:o.op=.makeSlice t l c)(hu:P.underlying t=some (.slice el))
  (hs:eM P el=some (n+1)) (hz:gC P el=some z) (hzl:z.length=n+1) (hb:kI P el=true) (hz1:A1 z=true) (hm:0<m)
  (hI:Inv S K w0 Kn φ (ao H) w) (hn0:nxt<n'->¬Kn nxt) {tl tc:Option TV} (hl:∀y,tl=some y->e_ S w Kn φ y (ρ l)) (hc:∀y,tc=some y->e_ S w Kn φ y (ρ c))
  (h:bX call (.Aa m) [tl,tc] H nxt=some (v,u,au,n')):cU P o ρ S K w0 w Kn φ (ao H) nxt n' v u:=by
 obtain rfl:z=[.slice none 0 0]:=by
  unfold A1 at hz1;split at hz1
  .rfl
  .simp at hz1
 change (match ci tl,ci tc with
  |some l,some c=>if 0<=l/\l<=c/\c<=qM then some (TV.c (.bP 1 nxt 0 l.toNat),[(nxt,some (Ob.nst m (aB l.toNat .nil)))],([]:List Nat),nxt+1)else none
  |_,_=>none)=_ at h
 split at h
 .rename_i a b ha hb';split at h
  .rename_i hle;obtain⟨rfl,rfl,rfl,rfl⟩:TV.c (.bP 1 nxt 0 a.toNat)=v/\[(nxt,some (Ob.nst m (aB a.toNat .nil)))]=u/\[]=au/\nxt+1=n':=by simpa using h
   have hev:bX call (.makeSlice [.slice none 0 0]) [tl,tc] H nxt=some (TV.c (.bP 1 nxt 0 a.toNat),[(nxt,some (Ob.aF 1 (aB a.toNat (cO [.slice none 0 0]))))],[],nxt+1):=by
    show(match ci tl,ci tc with
     |some l,some c=>if 0<=l/\l<=c/\c<=qM then some (TV.c (.bP ([.slice none 0 0]:List Value).length nxt 0 l.toNat),[(nxt,some (Ob.aF ([.slice none 0 0]:List Value).length (aB l.toNat (cO [.slice none 0 0]))))],([]:List Nat),nxt+1)else none
     |_,_=>none)=_
    rw[ha,hb'];show(if 0<=a/\a<=b/\b<=qM then _ else _)=_;rw[if_pos hle];rfl
   obtain⟨nx,val,w',h1,h2,h3,S',φ',h4,h5,h6,h7⟩:=vj ho hu hs hz hzl hb hI hn0 hl hc hev;refine⟨nx,val,w',h1,h2,h3,S',φ',h4,h5,h6,?_⟩;have e1:aZ [(nxt,some (Ob.aF 1 (aB a.toNat (cO [.slice none 0 0]))))] (ao H) nxt=some (.aF 1 (aB a.toNat (cO [.slice none 0 0]))):=by rw[bD,if_pos rfl]
   obtain⟨_,hro⟩:=h7.gF nxt _ e1
   have h8:=h7.PW (o':=.nst m (aB a.toNat .nil)) e1 rfl (fun sz sl k rows e hk=>by
    cases e;rw[dp]at hk;split at hk<;>cases hk) (by
    cases hro with
    |aF hsz hl hS hK hown hext hfit hrr hv=>
     rw[dm]at hv hfit;refine .nst hm hl hS hK hown hext (by rw[dm];omega) (fun i s hi=>?_) (by rw[dm];exact hv);rw[dp]at hi;split at hi
     .rename_i hlt;obtain rfl:=aa hi;obtain⟨v,q1,q2⟩:=hrr.2 i (cO [.slice none 0 0]) (by rw[dp,if_pos hlt]) 0 _ rfl;cases q2 with|lit _=>exact⟨_,by rw[<-q1];simp,.nil⟩
     .cases hi)
   have e2:aZ [(nxt,some (Ob.nst m (aB a.toNat .nil)))] (aZ [(nxt,some (Ob.aF 1 (aB a.toNat (cO [.slice none 0 0]))))] (ao H))=aZ [(nxt,some (Ob.nst m (aB a.toNat .nil)))] (ao H):=by
    funext j;simp only[bD,eE];by_cases e:nxt=j
    .rw [if_pos e,if_pos e]
    .rw [if_neg e,if_neg e,if_neg e]
   rw[e2]at h8;exact h8
  .simp at h
 .simp at h
theorem CR.mono{S':Nat->Prop}{w':World}{Kn':Nat->Prop}{φ':Nat->gi}(hs:fX S w S' w')(hr:ry Kn φ Kn' φ'){cs:List C}{vs:List Value}(h:CR S w Kn φ cs vs):CR S' w' Kn' φ' cs vs:=⟨h.1,fun i x y hx hy=>(h.2 i x y hx hy).mono hs hr⟩
theorem NV{cs:List C}{aF:Array Value}(h1:cs.length=aF.size)(h2:∀(i:Nat)(x:C),cs[i]?=some x->RC S w Kn φ x (aF.getD i undef)):CR S w Kn φ cs aF.toList:=by
 refine⟨by simpa using h1,fun i x y hx hy=>?_⟩;have:=h2 i x hx;rw[aW]at hy;have e1:aF.getD i undef=y:=by simp[hy]
 rwa[e1]at this
theorem my{b o n:Nat}{aF:Array Value}{vs:List Value}(ho:nL w b aF)(hn:vs.length=n):
  nL (w.setRow b (aF.toList.take o++vs++aF.toList.drop (o+n)).toArray) b (aU aF.toList o vs).toArray/\
  (∀c,c≠b->(w.setRow b (aF.toList.take o++vs++aF.toList.drop (o+n)).toArray).heap[c]?=w.heap[c]?)/\
  (w.setRow b (aF.toList.take o++vs++aF.toList.drop (o+n)).toArray).heap.size=w.heap.size/\
  (∀a,(w.setRow b (aF.toList.take o++vs++aF.toList.drop (o+n)).toArray).frozen? a=w.frozen? a)/\
  (o+n<=aF.size->∀arr1,nL w b arr1->∃arr',nL (w.setRow b (aF.toList.take o++vs++aF.toList.drop (o+n)).toArray) b arr'/\arr'.size=arr1.size):=by
 rw[MF hn];refine⟨yi ho,fun c hc=>setRow_other w b c _ hc,by simp,zB ho,fun hle arr1 h1=>⟨_,yi ho,?_⟩⟩;obtain⟨t1,h1⟩:=h1;obtain⟨t2,h2⟩:=ho;rw[h1]at h2;obtain rfl:arr1=aF:=by simp at h2;exact h2.1
 simp only[g_];rw[eA _ _ _ (by simp;omega)];simp
theorem Inv.zO{hf hf':Nat->Option Ob}{S':Nat->Prop}{w':World}(_:Inv S K w0 Kn φ hf w)(hs:fX S w S' w')(hI:Inv S' K w0 Kn φ hf' w'){u:eg}{n:Nat}(he:hf'=aZ u hf):
  kp S K w0 w Kn φ hf n n (.gB []) u undef w':=
 ⟨am _,S',φ,hs,p9 _ _,.gB rfl (fun i x hi=>by simp at hi),he▸hI.kn fun _ h=>.inl h⟩
theorem BX{sz aK eU off:Nat}{rows:List (List D)}{r ds:List D}{aF:Array Value}{vs:List Value}(h:cK S w sz (fun i=>aF[i]?) aK rows)(hrow:rows[eU]?=some r)
  (hfit:off+ds.length<=r.length) (hl:ds.length=vs.length) (hd:∀(i:Nat)(x:D),ds[i]?=some x->∃y,vs[i]?=some y/\RD S w x y) (hsz:aK+rows.length*sz<=aF.size):
  cK S w sz (fun i=>(aU aF.toList (aK+eU*sz+off) vs).toArray[i]?) aK (rows.set eU (aU r off ds)):=by
 have hrl:=h.1 eU r hrow;have hlt:eU<rows.length:=(aj.1 hrow).1;have hmul:(eU+1)*sz<=rows.length*sz:=aI _ (by omega);rw[dT]at hmul;have hget:∀k,(aU aF.toList (aK+eU*sz+off) vs).toArray[k]?=if k<aK+eU*sz+off then aF[k]?else if k<aK+eU*sz+off+vs.length then vs[k-(aK+eU*sz+off)]?else aF[k]?:=by intro k;rw[<-aW];show(aU aF.toList _ vs)[k]?=_;rw[jt _ _ _ (by simp;omega)];simp only[aW]
 have hsetr:∀i q,(rows.set eU (aU r off ds))[i]?=some q->(i=eU/\q=aU r off ds)\/(i≠eU/\rows[i]?=some q):=by
  intro i q hi;by_cases e1:i=eU
  .subst e1;rw[iz hlt]at hi;exact .inl ⟨rfl,(aa hi).symm⟩
  .rw [List.getElem?_set_ne (fun e=>e1 e.symm)]at hi;exact .inr ⟨e1,hi⟩
 refine⟨fun i q hi=>?_,fun i q hi j z hj=>?_⟩
 .rcases hsetr i q hi with⟨rfl,rfl⟩|⟨_,h1⟩
  .rw [eA _ _ _ hfit];exact hrl
  .exact h.1 i q h1
 .simp only[hget];rcases hsetr i q hi with⟨rfl,rfl⟩|⟨hne,h1⟩
  .rw [jt _ _ _ hfit]at hj;by_cases c1:j<off
   .rw [if_pos c1]at hj;rw[if_pos (by omega)];exact h.2 i r hrow j z hj
   .rw [if_neg c1]at hj;by_cases c2:j<off+ds.length
    .rw [if_pos c2]at hj;obtain⟨y,hy,hr⟩:=hd _ z hj;rw[if_neg (by omega),if_pos (by omega)];refine⟨y,?_,hr⟩;rw[<-hy];congr 1;omega
    .rw [if_neg c2]at hj;rw[if_neg (by omega),if_neg (by omega)];exact h.2 i r hrow j z hj
  .have hjl:j<sz:=by rw[<-h.1 i q h1];exact(aj.1 hj).1
   have hout:aK+i*sz+j<aK+eU*sz+off\/aK+eU*sz+off+vs.length<=aK+i*sz+j:=by
    rcases Nat.lt_or_gt_of_ne hne with hlt2|hgt
    .have:(i+1)*sz<=eU*sz:=aI _ (by omega);rw[dT]at this;omega
    .have:(eU+1)*sz<=i*sz:=aI _ (by omega);rw[dT]at this;omega
   rcases hout with c|c
   .rw [if_pos c];exact h.2 i q h1 j z hj
   .rw [if_neg (by omega),if_neg (by omega)];exact h.2 i q h1 j z hj
theorem E4{α:Type}{l:List α}{o:Nat}{v:α}(h:o<l.length):aU l o [v]=l.set o v:=by rw[List.set_eq_take_append_cons_drop,if_pos h];simp[aU]
theorem KA{id eU sz:Nat}{slots:List ko}{cs:List C}{vs:List Value}{u:eg}{au:List Nat}{aF:Array Value}(hI:Inv S K w0 Kn φ (ao H) w)(hob:ao H id=some (.nst sz slots))(hrow:eU<slots.length)
  (hcr:CR S w Kn φ cs vs) (hlen:cs.length=1) (hown:nL w (φ id).bT aF) (hfit:(φ id).aK+eU<aF.size) (h:rS id eU sz slots cs H=some (u,au)):
  fX S w S (w.setRow (φ id).bT (aF.toList.take ((φ id).aK+eU)++vs++aF.toList.drop ((φ id).aK+eU+1)).toArray)/\
   Inv S K w0 Kn φ (aZ u (ao H)) (w.setRow (φ id).bT (aF.toList.take ((φ id).aK+eU)++vs++aF.toList.drop ((φ id).aK+eU+1)).toArray):=by
 have hvl:vs.length=1:=by rw[<-hcr.1];exact hlen
 obtain⟨p1,p2,p3,p4,_⟩:=my (w:=w) (b:=(φ id).bT) (o:=(φ id).aK+eU) (n:=1) (vs:=vs) hown hvl;have hio:Io w (w.setRow (φ id).bT (aF.toList.take ((φ id).aK+eU)++vs++aF.toList.drop ((φ id).aK+eU+1)).toArray):=⟨rfl,rfl,rfl,am _⟩
 generalize w.setRow (φ id).bT (aF.toList.take ((φ id).aK+eU)++vs++aF.toList.drop ((φ id).aK+eU+1)).toArray=w' at*
 obtain⟨x,rfl⟩:∃x,vs=[x]:=by
  match vs,hvl with|[x],_=>exact⟨x,rfl⟩
 rw[E4 (by simpa using hfit)]at p1
 have key:∀s',(fX S w S w'->ze S K w' Kn φ sz s' x)->(∀rows,s'≠.bi rows)->fX S w S w'/\Inv S K w0 Kn φ (aZ [(id,some (.nst sz (slots.set eU s')))] (ao H)) w':=fun s' h1 h2=>
  hI.Rp hob hown p1 (by simp) p2 p3 p4 hio (fun i hi=>by
   rw[bc,List.getElem?_set_ne (by omega),aW]) (fun _=>by
   rw[bc,iz (by simpa using hfit)]) h1 h2
 unfold rS at h;split at h
 .obtain ⟨rfl,rfl⟩:[(id,some (Ob.nst sz (slots.set eU .nil)))]=u/\[id]=au:=by simpa using h
  have hx:=hcr.2 0 _ x rfl rfl;cases hx with
  |d hd=>cases hd with|lit _=>exact key .nil (fun _=>.nil) (fun _ e=>by cases e)
 .rename_i sz' id2 len;split at h
  .rename_i sz2 rows h2;split at h
   .rename_i hc;obtain⟨rfl,rfl,hne⟩:=hc;obtain⟨rfl,rfl⟩:[(id,some (Ob.nst sz' (slots.set eU (.bi rows)))),(id2,none)]=u/\[id,id2]=au:=by simpa using h
    obtain⟨q1,q2⟩:=key (.kU id2 rows.length) (fun hs=>.kU ((hcr.2 0 _ x rfl rfl).mono hs (ry.refl _ _))) (fun _ e=>by cases e);refine⟨q1,?_⟩;have e1:aZ [(id,some (Ob.nst sz' (slots.set eU (.kU id2 rows.length))))] (ao H) id=some (.nst sz' (slots.set eU (.kU id2 rows.length))):=by rw[bD,if_pos rfl]
    have e2:aZ [(id,some (Ob.nst sz' (slots.set eU (.kU id2 rows.length))))] (ao H) id2=some (.aF sz2 rows):=by rw[bD,if_neg (fun e=>hne e.symm),eE,h2]
    have q3:=q2.JT e1 (iz hrow) e2;rw[List.set_set]at q3
    have e3:aZ [(id,some (Ob.nst sz' (slots.set eU (.bi rows)))),(id2,none)] (aZ [(id,some (Ob.nst sz' (slots.set eU (.kU id2 rows.length))))] (ao H))=aZ [(id,some (Ob.nst sz' (slots.set eU (.bi rows)))),(id2,none)] (ao H):=by
     funext j;simp only[bD,eE];by_cases e:id=j
     .rw [if_pos e,if_pos e]
     .rw [if_neg e,if_neg e,if_neg e]
    rw[e3]at q3;exact q3
   .simp at h
  .simp at h
 .simp at h
theorem H9{t:TypeId}{n:Nat}{a x:Operand}(ho:o.op=.store t a x)(hs:eM P t=some n)(hI:Inv S K w0 Kn φ (ao H) w)
  {ta tx:Option TV} (ha:∀y,ta=some y->e_ S w Kn φ y (ρ a)) (hx:∀y,tx=some y->e_ S w Kn φ y (ρ x))
  (h:bX call (.store n) [ta,tx] H nxt=some (v,u,au,n')):cU P o ρ S K w0 w Kn φ (ao H) nxt n' v u:=by
 match ta,tx,h,ha,hx with
 |some (.c p),some tv,h,ha,hx=>
  change (match lY n p tv H with|some (u,au)=>some (TV.gB [],u,au,nxt)|none=>none)=_ at h;split at h
  .rename_i u' ids' eG;obtain⟨rfl,rfl,rfl,rfl⟩:TV.gB []=v/\u'=u/\ids'=au/\nxt=n':=by simpa using h
   unfold lY at eG;split at eG
   .simp at eG
   .rename_i cs hcs;split at eG
    .rename_i hlen;have hcr:=(hx _ rfl).cr hcs;obtain⟨_,_,hone⟩:=(hx _ rfl).cells hcs;have hvl:(ρ x).cells.size=n:=by have:=hcr.1;simp at this;omega
     have hr:=ha _ rfl;generalize hv0:ρ a=val at hr
     have run:∀b off aF,val=.pointer (some ⟨b,off,none⟩)->nL w b aF->off+n<=aF.size->
       (execOp ρ o).run P w=.ok .skip (w.setRow b (aF.toList.take off++(ρ x).cells.toList++aF.toList.drop (off+n)).toArray):=by
      intro b off aF hv hown hfit;simp[execOp,ho,hv0,hv,Instr.storeAt,Instr.sureAddr,Kp hs hown hvl hfit hone]
     cases hr with
     |c hr=>
     split at eG
     .rename_i id eU off;split at eG
      .rename_i sz rows hob;split at eG
       .rename_i r ds ids1 hrow hvw;split at eG
        .rename_i u1 hfz;split at eG
         .rename_i hb;obtain⟨hb1,hb2⟩:=hb;obtain⟨rfl,rfl⟩:(id,some (Ob.aF sz (rows.set eU (aU r off ds))))::u1=u'/\id::ids1=ids':=by simpa using eG
          have hnm:id∉ids1:=by simpa using hb2
          obtain⟨hdl,hds⟩:=oR hI cs ds ids1 hvw (fun i=>(ρ x).cells.toList[i]?) (fun i c hi=>by
           have hlt:i<(ρ x).cells.toList.length:=by rw[<-hcr.1];exact(aj.1 hi).1
           exact⟨_,az hlt,hcr.2 i c _ hi (az hlt)⟩)
          have hI1:=hI.A_ hfz;have hob1:aZ u1 (ao H) id=some (.aF sz rows):=by simp only[aZ,(j7 ids1 u1 hfz id).2 hnm,hob]
          obtain⟨hk,h0⟩:=hI1.gF _ _ hob1;generalize hphi:φ id=l at*;cases h0 with
          |@aF _ _ aF hsz hl hS hK hown hext hfit hrr hvis=>
           cases hr with
           |ep hk'=>
            rw[hphi]at run;subst hl;have hrl:=hrr.1 eU r hrow;have hrowlt:eU<rows.length:=(aj.1 hrow).1;have hmul:(eU+1)*l.sz<=rows.length*l.sz:=aI _ (by omega);rw[dT]at hmul;have hfit2:l.aK+eU*l.sz+off+n<=aF.size:=by rw[hext];omega
            obtain⟨p1,p2,p3,p4,p5⟩:=my (w:=w) (b:=l.bT) (o:=l.aK+eU*l.sz+off) (n:=n) (vs:=(ρ x).cells.toList) hown (by simpa using hvl);have hset:=hI1.set (o':=.aF l.sz (rows.set eU (aU r off ds))) hob1 rfl (by rw[hphi];exact p2) p3 p4 (by rw[hphi];exact p5 hfit2) ⟨rfl,rfl,rfl,am _⟩ (fun eG=>by rw[hphi];have h5:=(BX (off:=off) (vs:=(ρ x).cells.toList) hrr hrow (by omega) (by rw[hdl];exact hcr.1) hds (by omega)).mono eG;exact .aF hsz rfl hS hK p1 (by simp only[g_];rw[eA _ _ _ (by simp;omega)];simpa using hext) (by simpa using hfit) h5 (by simpa using hvis));refine⟨.skip,undef,_,run _ _ _ rfl hown hfit2,.inr ⟨rfl,rfl⟩,hI.zO ((SB.sH ids1).trans hset.1) hset.2 ?_⟩;rw[<-dL];rfl
         .simp at eG
        .simp at eG
       .simp at eG
      .rename_i sz slots hob;split at eG
       .rename_i hc;obtain⟨rfl,rfl,hrow⟩:=hc;obtain⟨hk,h0⟩:=hI.gF _ _ hob;cases h0 with
        |@nst _ _ aF hsz hl hS hK hown hext hfit hrr hvis=>cases hr with|ep hk'=>obtain⟨q1,q2⟩:=KA hI hob hrow hcr hlen hown (by omega) eG;have hrun:=run (φ id).bT ((φ id).aK+eU*(φ id).sz+0) aF rfl hown (by rw[hl];omega);rw[hl,ld,cY]at hrun;refine⟨.skip,undef,_,hrun,.inr ⟨rfl,rfl⟩,hI.zO q1 q2 rfl⟩
       .simp at eG
      .simp at eG
     .rename_i id off;split at eG
      .rename_i cells hob;split at eG
       .rename_i hb;obtain⟨rfl,rfl⟩:[(id,some (Ob.box (aU cells off cs)))]=u'/\[id]=ids':=by simpa using eG
        obtain⟨hk,h0⟩:=hI.gF _ _ hob;generalize hphi:φ id=l at*;cases h0 with
        |@box _ aF hbase hS hK hown hlen2 hrr=>cases hr with|op hk'=>rw[hphi,hbase,bk]at run;obtain⟨p1,p2,p3,p4,p5⟩:=my (w:=w) (b:=l.bT) (o:=off) (n:=n) (vs:=(ρ x).cells.toList) hown (by simpa using hvl);have hset:=hI.set (o':=.box (aU cells off cs)) hob rfl (by rw[hphi];exact p2) p3 p4 (by rw[hphi];exact p5 (by omega)) ⟨rfl,rfl,rfl,am _⟩ (fun eG=>by rw[hphi];have h5:=((NV hlen2 hrr).aU hcr off (by omega)).mono eG (ry.refl _ _);obtain⟨h6,h7⟩:=yN (aF:=(aU aF.toList off (ρ x).cells.toList).toArray) (by rw[List.toList_toArray];exact h5);exact .box hbase hS hK p1 h6 h7);exact⟨.skip,undef,_,run _ _ _ rfl hown (by omega),.inr ⟨rfl,rfl⟩,hI.zO hset.1 hset.2 rfl⟩
       .simp at eG
      .simp at eG
     .simp at eG
    .simp at eG
  .simp at h
end
section
variable{P:Program}{S K:Nat->Prop}{w0 w:World}{Kn:Nat->Prop}{φ:Nat->gi}{H:bh}{e:hZ}{ρ:Operand->Value}{o:Oper}{call:Call}
 {nxt n':Nat} {v:TV} {u:eg} {au:List Nat}
theorem qY{sz b addr:Nat}{rows:List (List D)}(hsz:0<sz)(h:cK S w sz (fun i=>w.cell? ⟨b,i,none⟩) addr rows):
  ∃aF,(∀w':World,w'.heap=w.heap->(loadCells ⟨b,addr,none⟩ (rows.length*sz)).run P w'=.ok aF w')/\aF.size=rows.length*sz/\cK S w sz (fun i=>aF[i]?) 0 rows/\∀x∈aF.toList,one x=true:=by
 have hcell:∀k,k<rows.length*sz->∃y,w.cell? ⟨b,addr+k,none⟩=some y/\one y=true:=by
  intro k hk;have h1:k/sz<rows.length:=Nat.div_lt_of_lt_mul (by rw[Nat.mul_comm];exact hk);have h2:=h.1 (k/sz) rows[k/sz] (az h1);have h3:k %sz<rows[k/sz].length:=by rw[h2];exact Nat.mod_lt _ hsz
  obtain⟨y,hy,hr⟩:=h.2 (k/sz) rows[k/sz] (az h1) (k %sz) _ (az h3);refine⟨y,?_,hr.one⟩;rw[<-hy];have:=Nat.div_add_mod k sz;rw[Nat.mul_comm]at this;show w.cell? ⟨b,addr+k,none⟩=w.cell? ⟨b,addr+k/sz*sz+k %sz,none⟩;congr 2;omega
 refine⟨((eJ (rows.length*sz)).map fun j=>(w.cell? ⟨b,addr+j,none⟩).getD undef).toArray,fun w' hw=>run_loadCells w' ⟨b,addr,none⟩ _ (fun j=>(w.cell? ⟨b,addr+j,none⟩).getD undef) fun j hj=>?_,by simp,
  ⟨h.1,fun i r hi j x hj=>?_⟩,fun x hx=>?_⟩
 .obtain ⟨y,hy,_⟩:=hcell j hj;have:w'.cell? ⟨b,addr+j,none⟩=w.cell? ⟨b,addr+j,none⟩:=by unfold World.cell?;rw[hw]
  rw[lM,this,hy];rfl
 .obtain ⟨y,hy,hr⟩:=h.2 i r hi j x hj;refine⟨y,?_,hr⟩;have hil:i<rows.length:=(aj.1 hi).1;have hjl:j<sz:=by rw[<-h.1 i r hi];exact(aj.1 hj).1
  have hm:(i+1)*sz<=rows.length*sz:=aI _ hil;rw[dT]at hm;simp only at hy;have hlt:0+i*sz+j<rows.length*sz:=by omega
  have e1:addr+(0+i*sz+j)=addr+i*sz+j:=by omega
  show(((eJ (rows.length*sz)).map fun j=>(w.cell? ⟨b,addr+j,none⟩).getD undef).toArray)[0+i*sz+j]?=some y;rw[<-aW,aL,ik hlt];simp only[bn,e1,hy,cm]
 .simp only[eh,List.mem_range]at hx;obtain⟨k,hk,rfl⟩:=hx;obtain⟨y,hy,h1⟩:=hcell k hk;rw[hy];exact h1
def J0(P:Program)(S:Nat->Prop)(w:World)(sz:Nat)(xv:Value)(new:List (List D))(aF:Array Value):Prop:=
 (∀w':World,w'.heap=w.heap->(Builtin.lenOf xv).run P w'=.ok new.length w'/\(Builtin.firstCells sz new.length xv).run P w'=.ok aF w')/\
 aF.size=new.length*sz/\cK S w sz (fun i=>aF[i]?) 0 new/\∀x∈aF.toList,one x=true
theorem Ak{sz b addr len cap:Nat}{new:List (List D)}(hsz:0<sz)(hl:new.length=len)(h:cK S w sz (fun i=>w.cell? ⟨b,i,none⟩) addr new):
  ∃aF,J0 P S w sz (.slice (some ⟨b,addr,none⟩) len cap) new aF:=by
 subst hl;obtain⟨aF,h1,h2,h3,h4⟩:=qY (P:=P) hsz h;exact⟨aF,fun w' hw=>⟨rfl,h1 w' hw⟩,h2,h3,h4⟩
theorem DH{sz:Nat}{x:C}{xv:Value}{new:List (List D)}(hsz:0<sz)(hI:Inv S K w0 Kn φ (ao H) w)(hr:RC S w Kn φ x xv)(h:fY sz H x=some (new,au)):
  ∃aF,J0 P S w sz xv new aF:=by
 unfold fY at h;split at h
 .obtain ⟨rfl,rfl⟩:[]=new/\[]=au:=by simpa using h
  cases hr with
  |d hd=>cases hd with|lit hp=>exact⟨#[],fun w' _=>⟨rfl,rfl⟩,by simp,⟨fun i r hi=>by simp at hi,fun i r hi=>by simp at hi⟩,fun x hx=>by simp at hx⟩
 .rename_i sz' rows;split at h
  .rename_i e1;subst e1;obtain⟨rfl,rfl⟩:rows=new/\[]=au:=by simpa using h
   cases hr with
   |d hd=>cases hd with
    |sl f hb hsz0 hcap hrow hcell hrd=>exact Ak hsz rfl ⟨hrow,fun i r hi j x hj=>⟨_,hcell i r hi j x hj,hrd i r hi j x hj⟩⟩
    |tL hsz0=>exact⟨#[],fun w' _=>⟨rfl,by
      have h0:([]:List (List D)).length*sz'=0:=by simp
      simp only[Builtin.firstCells,h0];rfl⟩,by simp,⟨fun i r hi=>by simp at hi,fun i r hi=>by simp at hi⟩,fun x hx=>by simp at hx⟩
  .simp at h
 .rename_i sz' id off len
  have key:∀szo rows,(ao H id=some (.aF szo rows)\/ao H id=some (.pD szo rows))->(if sz'=sz/\off+len<=rows.length then some ((rows.drop off).take len,[id])else none)=some (new,au)->
    ∃aF,J0 P S w sz xv new aF:=by
   intro szo rows ho hq;split at hq
   .rename_i hb;obtain⟨e1,hle⟩:=hb;subst e1;obtain⟨rfl,rfl⟩:=ad (aa hq);obtain⟨hsz1,hl,hR⟩:=nE hI ho;subst hl;cases hr with|bP hk hcap haddr hext=>exact Ak hsz1 (by simp;omega) (hR.w8 off len fun h=>haddr (by omega))
   .simp at hq
  split at h
  .exact key _ _ (.inl (by assumption)) h
  .exact key _ _ (.inr (by assumption)) h
  .simp at h
 .simp at h
theorem K_(need:Nat)(c:Nat):Builtin.growBy need 4 c<=3*c+3072:=by
 simp only[Builtin.growBy]
 repeat' split
 all_goals omega
theorem AS{need cap:Nat}(h1:need<=2147483648)(h2:cap<need):Builtin.nextslicecap need cap<=6442454016:=by
 unfold Builtin.nextslicecap;split
 .omega
 .split
  .omega
  .have:=K_ need cap;omega
theorem Inv.L3{hf:Nat->Option Ob}{w':World}{b:Nat}(h:Inv S K w0 Kn φ hf w)(hS:¬S b)(hK:¬K b)(hfree:∀i o,hf i=some o->cn o=true->b∉gJ w φ hf i)
  (hother:∀c,c≠b->w'.heap[c]?=w.heap[c]?) (hsize:w'.heap.size=w.heap.size) (hfrz:∀a,w'.frozen? a=w.frozen? a)
  (hsz:∀aF,nL w b aF->∃arr',nL w' b arr'/\arr'.size=aF.size) (hio:Io w w'):fX S w S w'/\Inv S K w0 Kn φ hf w':=by
 have hs:fX S w S w':=⟨fun _ h=>h,fun c hc=>hother c (fun e=>hS (e▸hc))⟩
 refine⟨hs,h.oV hs (ry.refl _ _) (fun c hc=>hsize▸h.sJ c hc) h.sk ⟨h.nh.Ed,fun c hc=>(hother c (fun e=>hK (e▸hc))).trans (h.nh.md c hc),hsize▸h.nh.sx,fun a ha=>(hfrz a).trans (h.nh.Ad a ha),h.nh.yh hother hsz,h.nh.io.trans hio⟩ ?_ h.nm fun id sz sl hi=>⟨hi,hother _ fun e=>hfree id _ hi rfl (e▸j9 id),fun k x hp=>⟨hother x fun e=>hfree id _ hi rfl (dP.2 (.inr ⟨sz,sl,k,hi,e▸hp⟩)),(h.DV hi hp).1,(h.uJ id sz sl k x hi hp).1⟩⟩⟩;intro id o ho;exact .inl ⟨ho,fun hown=>⟨hother _ fun e=>hfree id o ho hown (e▸j9 id),((h.gF id o ho).2.bi hown).1⟩⟩
theorem Av{w':World}{hf:Nat->Option Ob}{i:Nat}(h:w'.heap[(φ i).bT]?=w.heap[(φ i).bT]?):gJ w' φ hf i=gJ w φ hf i:=by
 have key:∀(l:gi),w'.heap[l.bT]?=w.heap[l.bT]?->∀(sl:List ko)(k:Nat),rI w' l sl k=rI w l sl k:=by
  intro l hl sl;induction sl with
  |nil=>intro k;rfl
  |cons s sl ih=>intro k;cases s with|bi rows=>simp only[rI,ih,mh hl]|_=>exact ih (k+1)
 unfold gJ;congr 1;split
 .exact key _ h _ _
 .rfl
theorem p8{sz aK:Nat}{a b:List (List D)}{get:Nat->Option Value}(h1:cK S w sz get aK a)(h2:cK S w sz get (aK+a.length*sz) b):cK S w sz get aK (a++b):=by
 have key:∀(i:Nat)(r:List D),(a++b)[i]?=some r->a[i]?=some r\/(a.length<=i/\b[i-a.length]?=some r):=by
  intro i r hi;by_cases hc:i<a.length
  .rw [List.getElem?_append_left hc]at hi;exact .inl hi
  .rw [List.getElem?_append_right (by omega)]at hi;exact .inr ⟨by omega,hi⟩
 refine⟨fun i r hi=>?_,fun i r hi j x hj=>?_⟩
 .rcases key i r hi with h|⟨_,h⟩
  .exact h1.1 i r h
  .exact h2.1 _ r h
 .rcases key i r hi with h|⟨hle,h⟩
  .exact h1.2 i r h j x hj
  .obtain ⟨y,hy,hr⟩:=h2.2 _ r h j x hj;refine⟨y,?_,hr⟩;rw[<-hy];congr 1;have:a.length*sz+(i-a.length)*sz=i*sz:=by rw[<-bK];congr 1;omega
   omega
theorem RC.gW{sz id off len:Nat}{v:Value}(h:RC S w Kn φ (.bP sz id off len) v):∃cap addr,v=.slice (some ⟨(φ id).bT,addr,none⟩) len cap/\(φ id).sz=sz/\Kn id/\len<=cap/\
  (0<cap->addr=(φ id).aK+off*(φ id).sz)/\addr+cap*(φ id).sz<=(φ id).ext/\off+cap=(φ id).cap:=by
 cases h with|bP hk hcap haddr hext hc=>exact⟨_,_,rfl,rfl,hk,hcap,haddr,hext,hc⟩
theorem Gq{c:kO}{s x:Operand}{st xt el el2:TypeId}{n:Nat}{z:List Value}(ho:o.op=.call c)(hcal:c.callee=.builtin .append)(hargs:c.args= #[s,x])(hts:c.argTypes= #[st,xt])
  (hus:P.underlying st=some (.slice el)) (hux:P.underlying xt=some (.slice el2)) (hsz:eM P el=some (n+1)) (hz:gC P el=some z) (hzl:z.length=n+1) (hby:kI P el=true)
  (hI:Inv S K w0 Kn φ (ao H) w) (hn0:nxt<n'->¬Kn nxt) {ta tx:Option TV} (ha:∀y,ta=some y->e_ S w Kn φ y (ρ s)) (hx:∀y,tx=some y->e_ S w Kn φ y (ρ x))
  (h:bX call (.append (n+1)) [ta,tx] H nxt=some (v,u,au,n')):cU P o ρ S K w0 w Kn φ (ao H) nxt n' v u:=by
 obtain⟨inf,hinf,hb0,hb1⟩:=oe hby;obtain⟨zv,hzr,hzv,_⟩:=kT hz w
 match ta,tx,h,ha,hx with
 |some (.c sc),some (.c xc),h,ha,hx=>
  change jk (n+1) sc xc H nxt=_ at h;unfold jk at h;split at h
  .simp at h
  .rename_i new ids1 hrx;cases hx _ rfl with
   |c hxr=>
   obtain⟨narr,hel,hns,hnR,hnone⟩:=DH (P:=P) (sz:=n+1) (cQ n) hI hxr hrx;have hinfo:∀w:World,(typeInfo el).run P w=.ok inf w:=fun w=>by simp[typeInfo,hinf]
   have hzr':∀w:World,(zeroValue el).run P w=.ok zv w:=by intro w';simp only[zeroValue,typeInfo,Sem.run_bind,run_program,Result.andThen_ok,hinf,Sem.run_pure]at hzr|-;cases hzz:inf.zero with|none=>rw[hzz]at hzr;simp at hzr|some q=>rw[hzz]at hzr;simp at hzr|-;exact hzr
   have hunx:∀w:World,(underlying xt).run P w=.ok (.slice el2) w:=bv hux
   -- what the model does where there is no eL
   have grows:∀(aK:Option Addr)(sLen sCap:Nat)(old:Array Value),ρ s=.slice aK sLen sCap->sCap<sLen+new.length->sLen+new.length<=2147483648->
     (∀w':World,w'.heap=w.heap->(Builtin.firstCells (n+1) sLen (.slice aK sLen sCap)).run P w'=.ok old w')->
     ∃newCap,sLen+new.length<=newCap/\(execOp ρ o).run P w=.ok (.value (.slice (some ⟨w.heap.size,0,none⟩) (sLen+new.length) newCap))
      {({w with drawn:=w.drawn+1}:World)with heap:=w.heap.push (.cells (old++narr++Builtin.zeroCells zv.cells (newCap-(sLen+new.length))) el)}:=by
    intro aK sLen sCap old hs hlt hle hold;refine⟨(Question.appendCap (sLen+new.length) sCap el).cut (w.tape w.drawn (.appendCap (sLen+new.length) sCap el)),by simp[Question.cut],?_⟩;have hcap:¬Builtin.nextslicecap (sLen+new.length) sCap*inf.bytes>2^48:=by have h1:=AS hle hlt;have h2:Builtin.nextslicecap (sLen+new.length) sCap*inf.bytes<=6442454016*16384:=Nat.mul_le_mul h1 hb1;omega
    have hbz:¬inf.bytes=0:=by omega
    have hnle:¬sLen+new.length<=sCap:=by omega
    have ho2:=hold {w with drawn:=w.drawn+1} rfl;have hn2:=(hel {w with drawn:=w.drawn+1} rfl).2;have hl2:=(hel w rfl).1
    simp only[execOp,ho,hcal,resolve,hargs,Sem.run_bind,Sem.run_pure,Result.andThen_ok,invoke,builtin,Builtin.append_,hts,cj,ap,aN,hs,bc,
     bz,bR,bv hus,fE hsz,hunx,hl2,hnle,if_false,hinfo,hcap,hbz,aE,or_self,and_false,run_choose,Question.forced,run_askRoom,ho2,hn2,hzr',newRow,run_newObj,lh,if_true]
   have room_new:¬Kn nxt->∀(k:Nat)(_:w.drawn<=k)(hf:Nat->Option Ob)(rows:List (List D))(aF:Array Value)(cap:Nat),Inv S K w0 Kn φ hf w->rows.length<=cap->cap*(n+1)<=aF.size->cK S w (n+1) (fun i=>aF[i]?) 0 rows->
     kp S K w0 w Kn φ hf nxt (nxt+1) (.c (.bP (n+1) nxt 0 rows.length)) [(nxt,some (.aF (n+1) rows))] (.slice (some ⟨w.heap.size,0,none⟩) rows.length cap)
      {({w with drawn:=k}:World)with heap:=w.heap.push (.cells aF el)}:=by
    intro hn k hk hf rows aF cap hI1 h1 h2 h3;obtain⟨a1,S',φ',a2,a3,a4,a5⟩:=kp.aF (hI1.rj k hk) hn el (cQ n) h1 h2 (h3.mono (fX.rj S w k));exact⟨a1,S',φ',(fX.rj S w k).trans a2,a3,a4,a5⟩
   have zsize:∀m,(Builtin.zeroCells zv.cells m).size=m*(n+1):=by
    intro m;have:zv.cells.size=n+1:=by rw[<-hzl,<-hzv];simp
    simp[Builtin.zeroCells,this]
   split at h
   .--a nil slice
    split at h
    .rename_i hle;simp only[qM]at hle;obtain⟨hv,_⟩:=(ha _ rfl).lit;cases new with
     |nil=>
      obtain⟨rfl,rfl,rfl,rfl⟩:TV.c (.d (.lit (.slice none 0 0)))=v/\[]=u/\ids1=au/\nxt=n':=by simpa using h
      refine cU.pure hI ?_ (ha _ rfl);have hl2:=(hel w rfl).1;have hn2:=(hel w rfl).2;simp only[gw]at hl2 hn2
      simp only[execOp,ho,hcal,resolve,hargs,Sem.run_bind,Sem.run_pure,Result.andThen_ok,invoke,builtin,Builtin.append_,hts,cj,ap,aN,hv,bc,
       bz,bR,bv hus,fE hsz,hunx,hl2,am,if_true,lh,hn2,aE,if_false,cY]
     |cons q new=>
      obtain⟨rfl,rfl,rfl,rfl⟩:TV.c (.bP (n+1) nxt 0 (q::new).length)=v/\[(nxt,some (Ob.aF (n+1) (q::new)))]=u/\ids1=au/\nxt+1=n':=by simpa using h
      obtain⟨newCap,hnc,hrun⟩:=grows none 0 0 #[] hv (by simp) (by simpa using hle) (fun w' _=>rfl);rw[bk]at hrun hnc;refine⟨.value _,_,_,hrun,.inl rfl,room_new (hn0 (aQ _)) _ (a_ _) _ _ _ _ hI hnc ?_ ?_⟩
      .simp only[eD,hns,zsize,g_,gw];rw[bk,<-bK];exact aI _ (by omega)
      .refine ⟨hnR.1,fun i r hi j x hj=>?_⟩;obtain⟨y,hy,hr⟩:=hnR.2 i r hi j x hj;refine⟨y,?_,hr⟩;have hlt:=(aY.1 hy).1;simp only at hy|-;rw[bM (by simp;omega)];simpa using hy
    .simp at h
   .--a slice of one's bi
    rename_i sz' id off len;split at h
    .rename_i szo rows hob;split at h
     .rename_i hb;obtain⟨e1,hle,hlim⟩:=hb;subst e1;simp only[qM]at hlim;obtain⟨rfl,rfl,rfl,rfl⟩:TV.c (.bP (n+1) nxt 0 (len+new.length))=v/\[(id,none),(nxt,some (Ob.aF (n+1) ((rows.drop off).take len++new++rows.drop (off+len+new.length))))]=u/\id::ids1=au/\nxt+1=n':=by simpa using h
      have hn:=hn0 (aQ _);have hr:=ha _ rfl;generalize hv0:ρ s=val at hr;cases hr with
      |c hr=>
      have hlen:((rows.drop off).take len).length=len:=by simp;omega
      have hlen2:((rows.drop off).take len++new).length=len+new.length:=by simp;omega
      have hku:∀hf:Nat->Option Ob,aZ [(id,none),(nxt,some (Ob.aF (n+1) ((rows.drop off).take len++new++rows.drop (off+len+new.length))))] hf=aZ [(nxt,some (Ob.aF (n+1) ((rows.drop off).take len++new++rows.drop (off+len+new.length))))] (aZ [(id,none)] hf):=by intro hf;have hne:id≠nxt:=fun e=>hn (e▸(hI.gF _ _ hob).1);rw[<-dL];exact mq (u:=[(id,none)]) fun p hp q hq=>by obtain rfl:=aq.1 hp;obtain rfl:=aq.1 hq;exact hne
      have hkill:Inv S K w0 Kn φ (aZ [(id,none)] (ao H)) w:=hI.ll fun i o ho=>by
       rw[bD]at ho;split at ho
       .simp at ho
       .exact ho
      obtain⟨hk0,h0⟩:=hI.gF _ _ hob;generalize hphi:φ id=l at*;cases h0 with
      |@aF _ _ aF hsz0 hl hS hK hown hext hfit hrr hvis=>
      obtain⟨cap,addr,rfl,hszl,hk,hcap,haddr,hextc,hcl⟩:=hr.gW;rw[hphi]at hv0 haddr hextc hszl hcl;have e2:szo=n+1:=by rw[<-hl,hszl]
      subst e2;rw[hl]at haddr hextc;have hR:∀len',len'=len->cK S w (n+1) (fun i=>aF[i]?) addr ((rows.drop off).take len'):=fun len' e=>by subst e;exact hrr.w8 off len' fun h=>haddr (by omega)
      have hRc:cK S w (n+1) (fun i=>w.cell? ⟨l.bT,i,none⟩) addr ((rows.drop off).take len):=⟨(hR len rfl).1,fun i r hi j x hj=>let⟨y,hy,hd⟩:=(hR len rfl).2 i r hi j x hj;⟨y,(hown.cell _).trans hy,hd⟩⟩
      by_cases hroom:len+new.length<=cap
      .--there is eL
       have hl2:=(hel w rfl).1;have hn2:=(hel w rfl).2;have hcm:(len+new.length)*(n+1)<=cap*(n+1):=aI _ hroom;rw[bK]at hcm;obtain⟨ty,hty⟩:=hown;have eG:=run_storeCells_at P l.bT (addr+len*(n+1)) ty narr.toList 0 aF w hty (by simp only[ei,hns];omega) (fun v hv=>by rw[nH];exact hnone v hv);simp only[cY,ei,hns]at eG;have hown:nL w l.bT aF:=⟨ty,hty⟩
       obtain⟨p1,p2,p3,p4,p5⟩:=my (w:=w) (b:=l.bT) (o:=addr+len*(n+1)) (n:=new.length*(n+1)) (vs:=narr.toList) hown (by simpa using hns);have hio:Io w (w.setRow l.bT (aF.toList.take (addr+len*(n+1))++narr.toList++aF.toList.drop (addr+len*(n+1)+new.length*(n+1))).toArray):=⟨rfl,rfl,rfl,am _⟩
       generalize hw':w.setRow l.bT (aF.toList.take (addr+len*(n+1))++narr.toList++aF.toList.drop (addr+len*(n+1)+new.length*(n+1))).toArray=w' at*
       have hrun:(execOp ρ o).run P w=.ok (.value (.slice (some ⟨l.bT,addr,none⟩) (len+new.length) cap)) w':=by
        simp only[execOp,ho,hcal,resolve,hargs,Sem.run_bind,Sem.run_pure,Result.andThen_ok,invoke,builtin,Builtin.append_,hts,cj,ap,aN,hv0,bc,
         bz,bR,bv hus,fE hsz,hunx,hl2,hroom,if_true,lh,hn2,aE,if_false,lM,eG]
       have hfree:∀i o,aZ [(id,none)] (ao H) i=some o->cn o=true->l.bT∉gJ w φ (aZ [(id,none)] (ao H)) i:=by
        intro i o hi ho hm;have hi':=hi;rw[bD]at hi';split at hi'
        .simp at hi'
        .rename_i hne;rw[fR rfl (hi.trans hi'.symm)]at hm;exact mj hI hi' hob ho rfl (fun e=>hne e.symm) hm (by rw[<-hphi];exact j9 id)
       obtain⟨hs1,hI1⟩:=hkill.L3 hS hK hfree p2 p3 p4 (p5 (by omega)) hio;have hget:∀k,(aU aF.toList (addr+len*(n+1)) narr.toList).toArray[k]?=if k<addr+len*(n+1)then aF[k]?else if k<addr+len*(n+1)+narr.size then narr[k-(addr+len*(n+1))]?else aF[k]?:=by intro k;rw[<-aW];show(aU aF.toList _ narr.toList)[k]?=_;rw[jt _ _ _ (by simp only[ei,hns];omega)];simp only[aW,ei]
       have hrows:cK S w' (n+1) (fun i=>(aU aF.toList (addr+len*(n+1)) narr.toList).toArray[i]?) addr ((rows.drop off).take len++new):=by
        refine p8 (cK.mono hs1 ⟨(hR len rfl).1,fun i r hi j x hj=>?_⟩) (cK.mono hs1 ⟨hnR.1,fun i r hi j x hj=>?_⟩)
        .obtain ⟨y,hy,hd⟩:=(hR len rfl).2 i r hi j x hj;refine⟨y,?_,hd⟩;have hil:i<len:=by rw[<-hlen];exact(aj.1 hi).1
         have hjl:j<n+1:=by rw[<-(hR len rfl).1 i r hi];exact(aj.1 hj).1
         have hm:(i+1)*(n+1)<=len*(n+1):=aI _ hil;rw[dT]at hm;show(aU aF.toList (addr+len*(n+1)) narr.toList).toArray[_]?=_;rw[hget,if_pos (by omega)];exact hy
        .obtain ⟨y,hy,hd⟩:=hnR.2 i r hi j x hj;refine⟨y,?_,hd⟩;have hlt:=(aY.1 hy).1;show(aU aF.toList (addr+len*(n+1)) narr.toList).toArray[_]?=_;rw[hlen,hget,if_neg (by omega),if_pos (by omega)];rw[<-hy];show narr[_]?=narr[_]?;congr 1;omega
       have hsz':(aU aF.toList (addr+len*(n+1)) narr.toList).toArray.size=l.ext:=by simp only[g_];rw[eA _ _ _ (by simp only[ei,hns];omega)];simpa using hext
       have hLl:(rows.drop (off+len+new.length)).length=rows.length-(off+len+new.length):=by simp
       have hLR:cK S w (n+1) (fun i=>aF[i]?) (addr+(len+new.length)*(n+1)) (rows.drop (off+len+new.length)):=by
        have h7:=hrr.w8 (addr:=addr+(len+new.length)*(n+1)) (off+len+new.length) (rows.length-(off+len+new.length)) fun h=>by have:=haddr (by omega);rw[this,cS off len new.length,bK off (len+new.length)];omega
        rwa[List.take_of_length_le (by rw[hLl];omega)]at h7
       have hrows2:cK S w' (n+1) (fun i=>(aU aF.toList (addr+len*(n+1)) narr.toList).toArray[i]?) addr ((rows.drop off).take len++new++rows.drop (off+len+new.length)):=by refine p8 hrows ?_;rw[hlen2];refine cK.mono hs1 ⟨hLR.1,fun i r hi j x hj=>?_⟩;obtain⟨y,hy,hd⟩:=hLR.2 i r hi j x hj;refine⟨y,?_,hd⟩;show(aU aF.toList (addr+len*(n+1)) narr.toList).toArray[_]?=_;rw[hget,if_neg (by rw[bK];omega),if_neg (by rw[hns,bK];omega)];exact hy
       have hlen3:((rows.drop off).take len++new++rows.drop (off+len+new.length)).length<=cap:=by rw[List.length_append,hlen2,hLl];omega
       have hname:=hI1.name hn ⟨l.bT,addr,n+1,l.ext,cap⟩ (.aF (n+1) ((rows.drop off).take len++new++rows.drop (off+len+new.length))) (fun _ j b hj hb hm=>hfree j b hj hb (by rwa[Av (p2 _ fun e=>hfree j b hj hb (e▸j9 j))]at hm))
        (.aF (cQ n) rfl hS hK p1 hsz' (by have h8:=aI (n+1) hlen3;simp only;omega) hrows2 hlen3)
       refine⟨.value _,_,_,hrun,.inl rfl,a_ _,S,_,hs1,⟨fun _ h=>.inl h,(ga _ hn).dW⟩,.c ?_,(hku (ao H)▸hname).sv fun j=>km j⟩;have e:ext φ nxt ⟨l.bT,addr,n+1,l.ext,cap⟩ nxt=⟨l.bT,addr,n+1,l.ext,cap⟩:=by simp[ext]
       have:=RC.bP (S:=S) (w:=w') (Kn:=nz Kn nxt (nxt+1)) (φ:=ext φ nxt ⟨l.bT,addr,n+1,l.ext,cap⟩) (id:=nxt) (off:=0) (len:=len+new.length) (cap:=cap) (addr:=addr)
        (.inr (by omega)) hroom (by rw[e];simp) (by rw[e];exact hextc) (by rw[e];simp)
       rw[e]at this;exact this
      .--there is none
       obtain⟨old,hold,hos,hoR,hoone⟩:=qY (P:=P) (sz:=n+1) (cQ n) hRc;rw[hlen]at hold hos;obtain⟨newCap,hnc,hrun⟩:=grows (some ⟨l.bT,addr,none⟩) len cap old hv0 (by omega) hlim (fun w' hw=>hold w' hw);refine⟨.value _,_,_,hrun,.inl rfl,?_⟩
       have hD:=room_new hn (w.drawn+1) (a_ _) (aZ [(id,none)] (ao H)) ((rows.drop off).take len++new) (old++narr++Builtin.zeroCells zv.cells (newCap-(len+new.length))) newCap hkill (by rw[hlen2];exact hnc)
        (by simp only[eD,hos,hns,zsize];rw[<-bK,<-bK];exact aI _ (by omega))
        (by
         refine p8 ⟨hoR.1,fun i r hi j x hj=>?_⟩ ⟨hnR.1,fun i r hi j x hj=>?_⟩
         .obtain ⟨y,hy,hd⟩:=hoR.2 i r hi j x hj;refine⟨y,?_,hd⟩;have hlt:=(aY.1 hy).1;show(old++narr++_)[_]?=_;rw[bM (by rw[eD];omega),bM hlt];exact hy
         .obtain ⟨y,hy,hd⟩:=hnR.2 i r hi j x hj;refine⟨y,?_,hd⟩;have hlt:=(aY.1 hy).1;show(old++narr++_)[_]?=_;rw[hlen,bM (by rw[eD,hos];omega),Array.getElem?_append_right (by rw[hos];omega)];rw[<-hy,hos];show narr[_]?=narr[_]?;congr 1;omega)
       rw[hlen2]at hD;obtain⟨q1,S',φ',q2,q3,q4,q5⟩:=hD;have hL0:rows.drop (off+len+new.length)=[]:=List.drop_eq_nil_of_le (by omega);exact⟨q1,S',φ',q2,q3,q4,by rw[hku,hL0,List.append_nil];exact q5⟩
     .simp at h
    .simp at h
   .simp at h
end
end Go.Ev
