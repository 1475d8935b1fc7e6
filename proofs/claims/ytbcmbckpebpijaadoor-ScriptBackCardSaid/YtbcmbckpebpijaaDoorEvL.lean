/- The model's operations, one by one, against the abstract machine's. Conditions: the relation of XEvC. -/
import Derived.Test.YtbcmbckpebpijaaDoorEvF
open Array renaming getElem?_append_left->bY,getElem?_eq_some_iff->aP,getElem?_toList->aU,length_toList->dW,range->gN,size_append->fh
open Bool renaming false_eq_true->aM,not_false->j7,or_eq_true->cV
open Go renaming Call->j6
open Ieee.Format renaming read->iO
open List renaming all_eq_true->aQ,getElem?_cons_succ->ce,getElem?_cons_zero->bF,getElem?_drop->bw,getElem?_eq_getElem->ai,getElem?_eq_some_iff->ah,getElem?_map->aB,getElem?_range->gA,getElem?_replicate->cF,getElem?_set_self->gU,getElem?_take->dh,getElem?_toArray->bz,length->iD,length_cons->cz,length_nil->hP,length_replicate->cD,map_cons->aq,map_nil->aR,map_toArray->cu,mem_map->cU,mem_of_getElem?->aT,mem_singleton->am,range->dz,replicate->aw,size_toArray->fg
open Nat renaming add_assoc->cg,add_mul->bv,add_zero->cN,le_refl->ak,le_succ->bg,lt_succ_self->aS,mul_le_mul_right->aF,mul_one->iC,succ_mul->cM,succ_pos->b_,zero_add->bD
open Option renaming getD_some->dn,map_eq_some_iff->aG,map_some->bh
open Option.some renaming inj->aa
open Prod.mk renaming inj->ad
namespace Go.Ev
abbrev xe:=FuncId->Bool×List Bool
def my(P:Program)(fields:Array Field):List Nat->Option (List (Nat×Nat))
 |[]=>some []
 |i::r=>
  match fields[i]?,my P fields r with
  |some f,some l=>match dN P f.type with|some n=>some ((f.offset,n)::l)|none=>none
  |_,_=>none
def kw:Nat->Value
 |0=>.slice none 0 0
 |1=>.pointer none
 |_=>.nilFunc
def qR:Nat->Operand->Bool
 |0,.const (.slice none 0 0)|1,.const (.pointer none)|2,.const .nilFunc=>true
 |_,_=>false
def Jx(P:Program)(g:TypeId->Option (List Kd)):List Field->Nat->Option (List Kd)
 |[],_=>some []
 |f::r,o=>
  if f.offset=o/\f.name≠ "_" then
   match g f.type with|some ks=>if dN P f.type=some ks.length then(match Jx P g r (o+ks.length)with|some l=>some (ks++l)|none=>none)else none|none=>none
  else none
def ul(P:Program):Nat->TypeId->Option (List Kd)
 |0,_=>none
 |d+1,t=>
  match P.underlying t with
  |some .bool=>if dN P t=some 1 then some [.b]else none
  |some (.int q)=>if dN P t=some 1 then some [.i q]else none
  |some .string=>if dN P t=some 1 then some [.s]else none
  |some (.array n e)=>match ul P d e with|some ks=>if dN P e=some ks.length/\dN P t=some (n*ks.length)then some (aw n ks).flatten else none|none=>none
  |some (.struct fs)=>match Jx P (ul P d) fs.toList 0 with|some ks=>if P.stoodInHeld t=false/\dN P t=some ks.length then some ks else none|none=>none
  |_=>none
def zL(P:Program)(t:TypeId):Option Bool:=((P.info? t).bind (·.zero)).map fun|.agg _=>true|_=>false
def mB(P:Program)(k e:TypeId):Option (Bool×List Kd×Bool×List Value):=match dY P k,ul P 8 k,dY P e,gr P e with|some ka,some ks,some va,some z=>if zL P e=some va then some (ka,ks,va,z)else none|_,_,_,_=>none
def l9(kind:Nat)(neg:Bool)(x y:Operand):K×List Operand:=if qR kind y then(.mK kind neg,[x])else if qR kind x then(.mK kind neg,[y])else(.dM,[])
def Co(P:Program)(op:BinOp)(t:TypeId)(x y:Operand):K×List Operand:=
 match op with
 |.eql|.neq=>
  match P.underlying t with
  |some .bool=>(.pO (op==.neq),[x,y])
  |some (.int _)|some (.float _)|some .string=>(.t8 op,[x,y])
  |some (.slice _)=>l9 0 (op==.neq) x y
  |some (.pointer _)=>l9 1 (op==.neq) x y
  |some (.func _ _ _)=>l9 2 (op==.neq) x y
  |some (.struct _)|some (.array _ _)=>match ul P 8 t with|some ks=>if P.eqGuardType P.depth t=false then(.tP (op==.neq) ks,[x,y])else(.dM,[])|none=>(.dM,[])
  |_=>(.dM,[])
 |op=>(.t8 op,[x,y])
def ld(P:Program)(e:TypeId):Bool:=match P.info? e with|some i=>decide (0<i.bytes)&&decide (i.bytes<=16384)|none=>false
def oD(P:Program)(b:Builtin)(args:List Operand)(ts:List TypeId):K×List Operand:=
 match b,ts with
 |.len,[t]=>match P.underlying t with|some .string=>(.len true,args)|some (.slice _)=>(.len false,args)|_=>(.dM,[])
 |.max,_=>(.ne true,args)
 |.min,_=>(.ne false,args)
 |.append,[s,x]=>
  match P.underlying s,P.underlying x with
  |some (.slice e),some (.slice _)=>match dN P e,gr P e with|some (n+1),some z=>if ld P e=true/\z.length=n+1 then(.append (n+1),args)else(.dM,[])|_,_=>(.dM,[])
  |some (.slice e),some (.int _)=>match dN P e,gr P e with|some (n+1),some z=>if ld P e=true/\z.length=n+1 then(.Me z,args)else(.dM,[])|_,_=>(.dM,[])
  |_,_=>(.dM,[])
 |.cap,[t]=>match P.underlying t with|some (.slice _)=>(.Gw,args)|_=>(.dM,[])
 |.copy,[d,_]=>
  match P.underlying d with
  |some (.slice e)=>match dN P e with|some (n+1)=>(.copy (n+1),args)|_=>(.dM,[])
  |_=>(.dM,[])
 |.delete,[m,_]=>
  match P.underlying m with
  |some (.map kt e)=>match mB P kt e with|some (ka,ks,_,_)=>(.oh ka ks,args)|none=>(.dM,[])
  |_=>(.dM,[])
 |.clear,[s]=>
  match P.underlying s with
  |some (.slice e)=>match dN P e,gr P e with|some (n+1),some z=>if z.length=n+1 then(.clear z,args)else(.dM,[])|_,_=>(.dM,[])
  |_=>(.dM,[])
 |_,_=>(.dM,[])
def FK(P:Program)(f:FuncId):Bool:=
 match P.funcs[f]?with
 |some fn=>
  !(fn.name== "runtime.NumGoroutine")&&fn.body.isNone&&(Extern.findNext fn).isNone&&(Extern.allGenericRows.lookup fn.name).isNone&&(Extern.allTypedRows.lookup fn.name).isNone&&(Extern.allRows.lookup fn.name).isNone&&fn.origin== "slices.overlaps" &&
  (match fn.params.toList with
   |t::_=>(match P.underlying t with|some (.slice e)=>(match dN P e with|some (_+1)=>true|_=>false)|_=>false)
   |[]=>false)
 |none=>false
def AT:List Value->Bool
 |[.slice none 0 0]=>true
 |_=>false
def I4(P:Program)(dQ:xe)(e:TypeId)(z:List Value):Option Nat:=if(dQ 1000000000).1=true/\AT z=true then(match P.underlying e with|some (.slice ee)=>(match dN P ee with|some (m+1)=>some (m+1)|_=>none)|_=>none)else none
def yR(P:Program)(t:TypeId):Bool:=match P.underlying t with|some (.slice _)=>true|_=>false
def rA(P:Program)(dQ:xe):Op->K×List Operand
 |.move x|.assign x=>(.mv,[x])
 |.pick c a b=>(.pick,[c,a,b])
 |.alloc e=>match gr P e with|some z=>(.alloc z,[])|none=>(.dM,[])
 |.box _ x=>(.box,[x])
 |.build t parts=>
  match P.underlying t,gr P t with
  |some (.struct fields),some z=>match my P fields (parts.toList.map (·.1))with|some pl=>if fields.toList.all (fun f=>(dN P f.type).isSome)then(.build z pl,parts.toList.map (·.2))else(.dM,[])|none=>(.dM,[])
  |some (.array _ e),some z=>match dN P e with|some n=>(.build z (parts.toList.map fun p=>(p.1*n,n)),parts.toList.map (·.2))|none=>(.dM,[])
  |_,_=>(.dM,[])
 |.buildSlice t len parts=>
  match P.underlying t with
  |some (.slice e)=>match dN P e,gr P e with|some (n+1),some z=>if len*(n+1)<=4096/\z.length=n+1/\(dQ 1000000002).1=true then(.KW (n+1) len ((dz (len*(n+1))).map fun i=>z.getD (i %(n+1)) undef) (parts.toList.map (·.1)),parts.toList.map (·.2))else if len*(n+1)<=4096/\z.length=n+1 then(.buildSlice (n+1) len ((dz (len*(n+1))).map fun i=>z.getD (i %(n+1)) undef) (parts.toList.map (·.1)),parts.toList.map (·.2))else(.dM,[])|_,_=>(.dM,[])
  |_=>(.dM,[])
 |.load t a=>match dY P t,dN P t with|some g,some n=>(if(dQ 1000000000).1=true/\yR P t=true/\g=false/\n=1 then .pk else .load g n,[a])|_,_=>(.dM,[])
 |.store t a x=>match dN P t with|some n=>(.store n,[a,x])|none=>(.dM,[])
 |.nilCheck x=>(.nilCheck,[x])
 |.binOp op t x y _=>Co P op t x y
 |.unOp op _ x=>(.un op,[x])
 |.convert s d x=>match P.underlying s,P.underlying d with|some (.int _),some (.int k)=>(.qn k,[x])|some (.int _),some (.float k)=>(.zk k,[x])|some .string,some .string=>(.oC,[x])|_,_=>(.dM,[])
 |.makeFunc (.func f) first captured=>if first.isEmpty then(.Do f,captured.toList)else(.dM,[])
 |.makeSlice t l c=>
  match P.underlying t with
  |some (.slice e)=>match dN P e,gr P e with|some (n+1),some z=>if z.length=n+1/\ld P e=true then(match I4 P dQ e z with|some m=>.ve m|none=>.makeSlice z,[l,c])else(.dM,[])|_,_=>(.dM,[])
  |_=>(.dM,[])
 |.slice t x lo hi none=>
  match P.underlying t with
  |some .string=>(.slice true 1 lo.isSome hi.isSome,x::lo.toList++hi.toList)
  |some (.slice e)=>match dN P e with|some n=>(.slice false n lo.isSome hi.isSome,x::lo.toList++hi.toList)|none=>(.dM,[])
  |_=>(.dM,[])
 |.slice t x (some l) (some u) (some m)=>
  match P.underlying t with
  |some (.slice e)=>match dN P e with|some n=>(.vX n,[x,l,u,m])|none=>(.dM,[])
  |_=>(.dM,[])
 |.fieldAddr s x f=>
  match P.underlying s with
  |some (.struct fields)=>match fields[f]?with|some fl=>(match dN P fl.type with|some (m+1)=>(.fieldAddr fl.offset (m+1),[x])|_=>(.dM,[]))|none=>(.dM,[])
  |_=>(.dM,[])
 |.field s x f=>
  match P.underlying s with
  |some (.struct fields)=>match fields[f]?with|some fl=>(match dY P fl.type,dN P fl.type with|some g,some n=>(.field g fl.offset n,[x])|_,_=>(.dM,[]))|none=>(.dM,[])
  |_=>(.dM,[])
 |.indexAddr t x i=>
  match P.underlying t with
  |some (.slice e)=>match dN P e with|some n=>if(dQ 1000000002).1=true then(.Nb n,[x,i])else(.indexAddr none n,[x,i])|none=>(.dM,[])
  |some (.array len e)=>match dN P e with|some n=>(.indexAddr (some len) n,[x,i])|none=>(.dM,[])
  |_=>(.dM,[])
 |.index t x i=>
  match P.underlying t with
  |some .string=>(.lA,[x,i])
  |some (.array len e)=>match dY P e,dN P e with|some g,some n=>(.index g len n,[x,i])|_,_=>(.dM,[])
  |_=>(.dM,[])
 |.extract x i=>(.extract i,[x])
 |.makeMap t none=>
  match P.underlying t with
  |some (.map k e)=>match dY P k,dY P e with|some ka,some va=>(.makeMap ka va,[])|_,_=>(.dM,[])
  |_=>(.dM,[])
 |.lookup t x ix ok=>
  match P.underlying t with
  |some (.map k e)=>match mB P k e with|some (ka,ks,va,z)=>(.lookup ka ks va z ok,[x,ix])|none=>(.dM,[])
  |_=>(.dM,[])
 |.mapEntry t m k=>
  match P.underlying t with
  |some (.map kt e)=>match mB P kt e with|some (ka,ks,va,z)=>(.mapEntry ka ks va z,[m,k])|none=>(.dM,[])
  |_=>(.dM,[])
 |.mapUpdate t m k x=>
  match P.underlying t with
  |some (.map kt e)=>match mB P kt e with|some (ka,ks,va,z)=>(.og ka ks va z.length,[m,k,x])|none=>(.dM,[])
  |_=>(.dM,[])
 |.entryStore t m s x=>
  match P.underlying t with
  |some (.map kt e)=>match mB P kt e with|some (_,_,va,z)=>(.entryStore va z.length,[m,s,x])|none=>(.dM,[])
  |_=>(.dM,[])
 |.call c=>match c.callee with|.builtin b=>oD P b c.args.toList c.argTypes.toList|.value (.func f)=>if(dQ f).2.length=9 then(if FK P f=true then(.LD,c.args.toList)else(.dM,[]))else(.call (dQ f).1 (dQ f).2,.func f::c.args.toList)|.value f=>(.call false [],f::c.args.toList)|.invoke _ _=>(.dM,[])
 |_=>(.dM,[])
section
variable{P:Program}{S K:Nat->Prop}{w0 w:World}{Kn:Nat->Prop}{φ:Nat->eG}{hf:Nat->Option Ob}
def hO(S K:Nat->Prop)(w0 w:World)(Kn:Nat->Prop)(φ:Nat->eG)(hf:Nat->Option Ob)(nxt n':Nat)(v:TV)(u:dD)(val:Value)(w':World):Prop:=nxt<=n'/\∃S' φ',eM S w S' w'/\Ren Kn φ (kF Kn nxt n') φ'/\dO S' w' (kF Kn nxt n') φ' v val/\Inv S' K w0 (kF Kn nxt n') φ' (a_ u hf) w'
theorem dO.kn{Kn':Nat->Prop}{c:TV}{v:Value}(h:dO S w Kn φ c v)(hs:∀i,Kn i->Kn' i):dO S w Kn' φ c v:=h.mono (eM.refl _ _) ⟨hs,fun _ _=>rfl⟩
theorem hO.pure{n:Nat}{v:TV}{val:Value}(hI:Inv S K w0 Kn φ hf w)(h:dO S w Kn φ v val):hO S K w0 w Kn φ hf n n v [] val w:=⟨ak _,S,φ,eM.refl _ _,lT _ _,h.kn fun _ hi=>.inl hi,hI.kn fun _ hi=>.inl hi⟩
def ct(P:Program)(o:Oper)(ρ:Operand->Value)(S K:Nat->Prop)(w0 w:World)(Kn:Nat->Prop)(φ:Nat->eG)(hf:Nat->Option Ob)(nxt n':Nat)(v:TV)(u:dD):Prop:=∃nx val w',(execOp ρ o).run P w=.ok nx w'/\(nx=.value val\/(nx=.skip/\val=undef))/\hO S K w0 w Kn φ hf nxt n' v u val w'
theorem Gh{v:Value}{tv:TV}(h:cv v=some tv):dO S w Kn φ tv v:=by
 unfold cv at h;split at h
 .rename_i cs;split at h
  .rename_i hp;obtain rfl:=aa h;refine .agg (by simp) fun i x hi=>?_;rw[aB]at hi;obtain⟨y,hy,rfl⟩:=aG.1 hi;have hlt:i<cs.size:=by simpa using(ah.1 hy).1
   have e:cs.getD i undef=y:=by rw[aU]at hy;simp[hy]
   rw[e];exact .d (.lit (aQ.1 hp y (aT hy)))
  .simp at h
 .split at h
  .rename_i hp;obtain rfl:=aa h;exact .c (.d (.lit hp))
  .simp at h
def gy.ok(S:Nat->Prop)(w:World)(Kn:Nat->Prop)(φ:Nat->eG)(e:gy)(tmps:Array Value):Prop:=∀t x,bM e t=some x->dO S w Kn φ x (tmps.getD t undef)
theorem oQ{e:gy}{a:Act}(hg:ph S w)(hE:gy.ok S w Kn φ e a.tmps){x:Operand}{tv:TV}(h:g_ e x=some tv):dO S w Kn φ tv (a.eval x):=by
 cases x with
 |tmp t=>exact hE t tv h
 |const v=>exact Gh h
 |global g=>obtain⟨d,hd,rfl⟩:=aG.1 (show(Lo g).map (fun d=>TV.c (.d d))=some tv from h);exact .c (.d ((hg g).1 d hd))
 |func f=>
  obtain rfl:TV.c (.d (.fn f []))=tv:=by simpa[g_]using h
  exact .c (.d (.fn rfl fun j x hj=>by simp at hj))
inductive nd:Value->Value->Prop
 |lit {v:Value} (h:ck v=true):nd v v
 |nan {k:FloatKind} {n m:Nat} (hn:rH k n) (hm:rH k m):nd (.float k n) (.float k m)
 |ex {k:FloatKind} {n:Nat}:nd (.complex k n 0) (.float k n)
 |jk {v:Value} (h:AU v=true):nd (.complex .f32 0 1) v
theorem dO.Di{v val:Value}(h:dO S w Kn φ (.c (.d (.lit v))) val):nd v val:=by
 cases h with
 |c h=>cases h with
  |d h=>cases h with|lit h=>exact .lit h|nan hn hm=>exact .nan hn hm|ex=>exact .ex|jk h=>exact .jk h
def yT:Value->Bool
 |.float _ _|.complex _ _ _=>true
 |_=>false
theorem dO.lit{v val:Value}(h:dO S w Kn φ (.c (.d (.lit v))) val)(hf:yT v=false:=by rfl):val=v/\ck v=true:=by cases h.Di with|lit hp=>exact⟨rfl,hp⟩|nan=>cases hf|ex=>cases hf|jk=>cases hf
theorem dO.AB{v val:Value}(h:nd v val):dO S w Kn φ (lv v) val:=by cases h with|lit h=>exact .c (.d (.lit h))|nan hn hm=>exact .c (.d (.nan hn hm))|ex=>exact .c (.d .ex)|jk h=>exact .c (.d (.jk h))
theorem rH.eq{k:FloatKind}{n:Nat}(h:rH k n):∃s t,k.format.read n=.nan s t:=by
 unfold rH Ieee.Datum.isNaN at h;split at h
 .exact ⟨_,_,by assumption⟩
 .cases h
theorem B3{k:FloatKind}{n:Nat}(h:rH k n)(y:Nat):k.format.add n y=none/\k.format.sub n y=none/\k.format.mul n y=none/\k.format.div n y=none/\k.format.order n y=none:=by obtain⟨s,t,h⟩:=h.eq;simp[Ieee.Format.add,Ieee.Format.sub,Ieee.Format.mul,Ieee.Format.div,Ieee.Format.order,h,Ieee.Datum.sum,Ieee.Datum.product,Ieee.Datum.quotient,Ieee.Datum.order]
theorem B2{k:FloatKind}{n:Nat}(h:rH k n)(y:Nat):k.format.add y n=none/\k.format.sub y n=none/\k.format.mul y n=none/\k.format.div y n=none/\k.format.order y n=none:=by obtain⟨s,t,h⟩:=h.eq;cases hy:k.format.read y<;>simp[Ieee.Format.add,Ieee.Format.sub,Ieee.Format.mul,Ieee.Format.div,Ieee.Format.order,h,hy,Ieee.Datum.opposite,Ieee.Datum.sum,Ieee.Datum.product,Ieee.Datum.quotient,Ieee.Datum.order]
theorem GB{op:BinOp}{k:FloatKind}{n m:Nat}(hn:rH k n)(hm:rH k m)(y:Value):jK op (.float k n) y=jK op (.float k m) y:=by cases y with|float k' y=>unfold jK j9 rG;obtain⟨a1,a2,a3,a4,a5⟩:=B3 hn y;obtain⟨b1,b2,b3,b4,b5⟩:=B3 hm y;simp only[a1,a2,a3,a4,a5,b1,b2,b3,b4,b5]|_=>rfl
theorem GA{op:BinOp}{k:FloatKind}{n m:Nat}(hn:rH k n)(hm:rH k m)(y:Value):jK op y (.float k n)=jK op y (.float k m):=by
 cases y with
 |float k' y=>
  by_cases hk:k'=k
  .subst hk;unfold jK j9 rG;obtain⟨a1,a2,a3,a4,a5⟩:=B2 hn y;obtain⟨b1,b2,b3,b4,b5⟩:=B2 hm y;simp only[a1,a2,a3,a4,a5,b1,b2,b3,b4,b5]
  .unfold jK j9 rG;simp only[if_neg hk]
 |_=>rfl
theorem Bo{op:BinOp}{a b va vb v:Value}(ha:nd a va)(hb:nd b vb)(h:jK op a b=some v):jK op va vb=some v:=by
 cases ha with
 |ex=>cases hb<;>(unfold jK j9 rG at h;cases h)
 |jk=>exfalso;unfold jK j9 rG at h;cases b<;>cases h
 |lit _=>cases hb with|lit _=>exact h|nan hn hm=>rw[<-GA hn hm];exact h|ex=>exfalso;unfold jK j9 rG at h;cases a<;>cases h|jk=>exfalso;unfold jK j9 rG at h;cases a<;>cases h
 |nan hn hm=>cases hb with|lit _=>rw[<-GB hn hm];exact h|nan hn' hm'=>rw[<-GB hn hm,<-GA hn' hm'];exact h|ex=>unfold jK j9 rG at h;cases h|jk=>unfold jK j9 rG at h;cases h
theorem Ce(k:FloatKind)(x y t:Nat):rH k ((Question.nanBits k x y).cut t):=by
 cases k with
 |f32=>
  show((iO Ieee.single) ((t %2)*2^31+0x7f800000+1+(t/2) %(2^23-1))).isNaN=true;have h1:((t %2)*2^31+0x7f800000+1+(t/2) %(2^23-1)) %2147483648=0x7f800001+(t/2) %8388607:=by omega
  unfold iO;show(Ieee.Datum.isNaN (if((t %2)*2^31+0x7f800000+1+(t/2) %(2^23-1)) %2147483648<8388608 then _ else if((t %2)*2^31+0x7f800000+1+(t/2) %(2^23-1)) %2147483648<2139095040 then _ else if((t %2)*2^31+0x7f800000+1+(t/2) %(2^23-1)) %2147483648=2139095040 then _ else _))=true;rw[h1,if_neg (by omega),if_neg (by omega),if_neg (by omega)];rfl
 |f64=>
  show((iO Ieee.double) ((t %2)*2^63+0x7ff0000000000000+1+(t/2) %(2^52-1))).isNaN=true;have h1:((t %2)*2^63+0x7ff0000000000000+1+(t/2) %(2^52-1)) %9223372036854775808=0x7ff0000000000001+(t/2) %4503599627370495:=by omega
  unfold iO;show(Ieee.Datum.isNaN (if((t %2)*2^63+0x7ff0000000000000+1+(t/2) %(2^52-1)) %9223372036854775808<4503599627370496 then _ else if((t %2)*2^63+0x7ff0000000000000+1+(t/2) %(2^52-1)) %9223372036854775808<9218868437227405312 then _ else if((t %2)*2^63+0x7ff0000000000000+1+(t/2) %(2^52-1)) %9223372036854775808=9218868437227405312 then _ else _))=true;rw[h1,if_neg (by omega),if_neg (by omega),if_neg (by omega)];rfl
theorem yS(k:FloatKind):rH k (o_ k):=by cases k<;>(unfold rH;decide)
theorem dO.mh{v:Value}(h:ck v=true):dO S w Kn φ (lv v) v:=.c (.d (.lit h))
theorem EI{op:BinOp}{t:TypeId}{x y v:Value}(h:j9 op x y=some v):(binOp op t x y).run P w=.ok v w/\ck v=true/\(∀a b,(eqGuard op t a b x y).run P w=.ok () w):=by
 have hg:∀a b,(match x,y with|.nilIface,.nilIface=>False|.agg _,.agg _=>False|_,_=>True)->(eqGuard op t a b x y).run P w=.ok () w:=by intro a b hxy;unfold eqGuard;cases op<;>simp<;>(cases x<;>cases y<;>simp_all)
 unfold j9 at h;split at h
 .rename_i k a k' b;refine(fun⟨h1,h2⟩=>⟨h1,h2,fun a b=>hg a b trivial⟩:(_/\_)->_) ?_;split at h
  .split at h
   .simp at h
   .rename_i hb;obtain rfl:=aa h;simp[binOp,Op.shift,hb,ck]
  .split at h
   .simp at h
   .rename_i hb;obtain rfl:=aa h;simp[binOp,Op.shift,hb,ck]
  .rename_i op hshl hshr;split at h
   .rename_i hk;subst hk
    split at h<;>first
     |(simp at h;done)
     |(split at h
       .simp at h
       .rename_i hb;obtain rfl:=aa h;simp[binOp,Op.intDiv,hb,ck])
     |(obtain rfl:=aa h
       simp[binOp,Op.intArith,Op.intBits,Op.intCmp,ck])
   .simp at h
 .rename_i k a k' b;refine(fun⟨h1,h2⟩=>⟨h1,h2,fun a b=>hg a b trivial⟩:(_/\_)->_) ?_;split at h
  .rename_i hk;subst hk
   split at h<;>first
    |(simp at h;done)
    |(obtain⟨r,hr,rfl⟩:=aG.1 h
      simp[binOp,Op.floatArith,hr,ck])
    |(obtain rfl:=aa h
      simp[binOp,Op.floatCmp,ck])
  .simp at h
 .rename_i x y;refine(fun⟨h1,h2⟩=>⟨h1,h2,fun a b=>hg a b trivial⟩:(_/\_)->_) ?_
  split at h<;>first
   |(simp at h;done)
   |(split at h
     .simp at h
     .rename_i hb;obtain rfl:=aa h;refine⟨?_,rfl⟩;simp only[binOp,Op.stringOp,if_neg hb,Sem.run_pure])
   |(obtain rfl:=aa h
     simp[binOp,Op.stringOp,ck])
 .simp at h
theorem EJ{op:BinOp}{t:TypeId}{x y v:Value}(h:jK op x y=some v):∃v' n,(binOp op t x y).run P w=.ok v' {w with drawn:=n}/\w.drawn<=n/\nd v v'/\(∀a b,(eqGuard op t a b x y).run P w=.ok () w):=by
 unfold jK at h;split at h
 .rename_i z hz;obtain rfl:=aa h;obtain⟨h1,h2,h3⟩:=EI (P:=P) (w:=w) (t:=t) hz;exact⟨_,w.drawn,h1,ak _,.lit h2,h3⟩
 .rename_i hz;clear hz;unfold rG at h;split at h
  .rename_i k a k' b;split at h
   .rename_i hk;subst hk
    have key:∀op',(op'=.add\/op'=.sub\/op'=.mul\/op'=.quo)->op=op'->(Op.floatArith op k a b=(do pure (.float k (<-choose (.nanBits k a b)))))->some (Value.float k (o_ k))=some v->
      ∃v' n,(binOp op t (.float k a) (.float k b)).run P w=.ok v' {w with drawn:=n}/\w.drawn<=n/\nd v v'/\(∀x y,(eqGuard op t x y (.float k a) (.float k b)).run P w=.ok () w):=by
     intro op' ho he hf hv;obtain rfl:=aa hv;refine⟨.float k ((Question.nanBits k a b).cut (w.tape w.drawn (.nanBits k a b))),w.drawn+1,?_,bg _,.nan (yS k) (Ce _ _ _ _),?_⟩
     .have e:binOp op t (.float k a) (.float k b)=Op.floatArith op k a b:=by subst he;rcases ho with rfl|rfl|rfl|rfl<;>simp[binOp]
      rw[e,hf];simp[run_choose,Question.forced]
     .intro x y;subst he;rcases ho with rfl|rfl|rfl|rfl<;>simp[eqGuard]
    split at h
    .split at h
     .rename_i e;exact key .add (by simp) rfl (by unfold Op.floatArith;simp[e]) h
     .cases h
    .split at h
     .rename_i e;exact key .sub (by simp) rfl (by unfold Op.floatArith;simp[e]) h
     .cases h
    .split at h
     .rename_i e;exact key .mul (by simp) rfl (by unfold Op.floatArith;simp[e]) h
     .cases h
    .split at h
     .rename_i e;exact key .quo (by simp) rfl (by unfold Op.floatArith;simp[e]) h
     .cases h
    .cases h
   .cases h
  .cases h
theorem BK{op:UnOp}{x v:Value}(h:Jv op x=some v):(Op.unary op x).run P w=.ok v w/\ck v=true:=by
 unfold Jv at h;split at h
 .split at h
  .obtain rfl:=aa h;simp[Op.unary,ck]
  .simp at h
 .split at h
  .obtain rfl:=aa h;simp[Op.unary,Op.intArith,ck]
  .obtain rfl:=aa h;simp[Op.unary,Op.intBits,ck]
  .simp at h
 .split at h
  .obtain rfl:=aa h;simp[Op.unary,ck]
  .simp at h
 .simp at h
end
section
variable{P:Program}{S K:Nat->Prop}{w0 w:World}{Kn:Nat->Prop}{φ:Nat->eG}{H:bl}{e:gy}{ρ:Operand->Value}{o:Oper}{call:Call}
 {nxt n':Nat} {v:TV} {u:dD} {ap:List Nat}
theorem ky(j:Nat):(Kn j\/j=nxt)<->kF Kn nxt (nxt+1) j:=by
 unfold kF;constructor
 .rintro (h|rfl)
  .exact .inl h
  .exact .inr (by omega)
 .rintro (h|h)
  .exact .inl h
  .exact .inr (by omega)
theorem wm(hI:Inv S K w0 Kn φ (au H) w):¬S w.heap.size/\¬K w.heap.size:=⟨fun h=>Nat.lt_irrefl _ (hI.pU _ h),fun h=>by have:=hI.j8.AN _ h;have:=hI.j8.grow;omega⟩
theorem hO.box{hf:Nat->Option Ob}(hI:Inv S K w0 Kn φ (au H) w)(hh:hf=au H)(hn:¬Kn nxt){cs:List C}{aH:Array Value}(t:TypeId)(hlen:cs.length=aH.size)
  (h:∀(i:Nat)(x:C),cs[i]?=some x->RC S w Kn φ x (aH.getD i undef)):
  hO S K w0 w Kn φ hf nxt (nxt+1) (.c (.op nxt 0)) [(nxt,some (.box cs))] (.pointer (some ⟨w.heap.size,0,none⟩)) {w with heap:=w.heap.push (.cells aH t)}:=by
 subst hh;obtain⟨nS,nK⟩:=wm hI;have hs:=eM.push (w:=w) hI.pU (.cells aH t);refine⟨bg _,S,_,hs,⟨fun _ h=>.inl h,(fW _ hn).same⟩,.c ?_,(hI.alloc hn aH t 1 0 (.box cs) (.box rfl nS nK (sW w aH t) hlen fun i x hi=>(h i x hi).mono hs (fW _ hn))).qj fun j=>ky j⟩;have:=RC.op (S:=S) (w:={w with heap:=w.heap.push (.cells aH t)}) (Kn:=kF Kn nxt (nxt+1)) (φ:=ext φ nxt ⟨w.heap.size,0,1,aH.size,0⟩) (id:=nxt) (off:=0) (.inr (by omega));simpa[ext]using this
theorem hO.aH{hf:Nat->Option Ob}(hI:Inv S K w0 Kn φ hf w)(hn:¬Kn nxt){sz cap:Nat}{rows:List (List D)}{aH:Array Value}(t:TypeId)(hsz:0<sz)
  (hcap:rows.length<=cap) (hfit:cap*sz<=aH.size) (h:bS S w sz (fun i=>aH[i]?) 0 rows):
  hO S K w0 w Kn φ hf nxt (nxt+1) (.c (.dq sz nxt 0 rows.length)) [(nxt,some (.aH sz rows))] (.slice (some ⟨w.heap.size,0,none⟩) rows.length cap) {w with heap:=w.heap.push (.cells aH t)}:=by
 have nS:¬S w.heap.size:=fun h=>Nat.lt_irrefl _ (hI.pU _ h);have nK:¬K w.heap.size:=fun h=>by have:=hI.j8.AN _ h;have:=hI.j8.grow;omega
 have hs:=eM.push (w:=w) hI.pU (.cells aH t);have hrl:rows.length*sz<=cap*sz:=aF _ hcap;refine⟨bg _,S,_,hs,⟨fun _ h=>.inl h,(fW _ hn).same⟩,.c ?_,(hI.alloc hn aH t sz cap (.aH sz rows) (.aH hsz rfl nS nK (sW w aH t) rfl (by simp only;omega) (h.mono hs) hcap)).qj fun j=>ky j⟩;have e:ext φ nxt ⟨w.heap.size,0,sz,aH.size,cap⟩ nxt=⟨w.heap.size,0,sz,aH.size,cap⟩:=by simp[ext]
 have:=RC.dq (S:=S) (w:={w with heap:=w.heap.push (.cells aH t)}) (Kn:=kF Kn nxt (nxt+1)) (φ:=ext φ nxt ⟨w.heap.size,0,sz,aH.size,cap⟩) (id:=nxt) (off:=0) (len:=rows.length) (cap:=cap) (addr:=0)
  (.inr (by omega)) hcap (by rw[e];simp) (by rw[e];simpa using hfit) (by rw[e];simp)
 rw[e]at this;simpa using this
theorem sL(t:TypeId)(val:Value):(newVar t val).run P w=.ok ⟨w.heap.size,0,none⟩ {w with heap:=w.heap.push (.cells val.cells t)}:=by simp[newVar,newRow,newObj,Sem.run]
theorem Ft{z:List Value}{aH:Array Value}(hz:aH.toList=z)(hp:∀x∈z,ck x=true):(dk z).length=aH.size/\∀(i:Nat)(x:C),(dk z)[i]?=some x->RC S w Kn φ x (aH.getD i undef):=by
 subst hz;refine⟨by simp[dk],fun i x hi=>?_⟩;simp only[dk,aB]at hi;obtain⟨y,hy,rfl⟩:=aG.1 hi;have e:aH.getD i undef=y:=by rw[aU]at hy;simp[hy]
 rw[e];exact .d (.lit (hp y (aT hy)))
theorem E9{t:TypeId}{z:List Value}(ho:o.op=.alloc t)(hz:gr P t=some z)(hI:Inv S K w0 Kn φ (au H) w)(hn0:nxt<n'->¬Kn nxt)
  (h:bN call (.alloc z) [] H nxt=some (v,u,ap,n')):ct P o ρ S K w0 w Kn φ (au H) nxt n' v u:=by
 obtain⟨rfl,rfl,rfl,rfl⟩:TV.c (.op nxt 0)=v/\[(nxt,some (.box (dk z)))]=u/\[]=ap/\nxt+1=n':=by simpa[bN]using h
 have hn:=hn0 (aS _);obtain⟨val,hv,hc,hp⟩:=kq hz w;obtain⟨h1,h2⟩:=Ft (S:=S) (w:=w) (Kn:=Kn) (φ:=φ) hc hp;refine⟨.value _,_,_,?_,.inl rfl,hO.box hI rfl hn t h1 h2⟩;simp[execOp,ho,Instr.alloc,hv,sL]
theorem JZ{t:TypeId}{x:Operand}(ho:o.op=.box t x)(hI:Inv S K w0 Kn φ (au H) w)(hn0:nxt<n'->¬Kn nxt){tv:Option TV}(hx:∀y,tv=some y->dO S w Kn φ y (ρ x))
  (h:bN call .box [tv] H nxt=some (v,u,ap,n')):ct P o ρ S K w0 w Kn φ (au H) nxt n' v u:=by
 cases tv with
 |none=>simp[bN]at h
 |some y=>
  simp only[bN]at h;split at h
  .rename_i cs hcs;obtain⟨rfl,rfl,rfl,rfl⟩:TV.c (.op nxt 0)=v/\[(nxt,some (.box cs))]=u/\[]=ap/\nxt+1=n':=by simpa using h
   have hn:=hn0 (aS _);obtain⟨h1,h2,_⟩:=(hx y rfl).cells hcs;refine⟨.value _,_,_,?_,.inl rfl,hO.box hI rfl hn t h1 h2⟩;simp[execOp,ho,Instr.box,sL]
  .simp at h
theorem CU{t:TypeId}{agg:Bool}{n:Nat}(ha:dY P t=some agg)(hs:dN P t=some n)(hI:Inv S K w0 Kn φ (au H) w){p:C}{pv:Value}(hp:RC S w Kn φ p pv)(hn0:nxt<n'->¬Kn nxt)
  (h:iI agg n p H nxt=some (v,u,ap,n')):∃val,(Instr.loadAt t pv).run P w=.ok val w/\hO S K w0 w Kn φ (au H) nxt n' v u val w:=by
 unfold iI at h;split at h
 case h_2=>simp at h
 rename_i id dv;split at h
 case h_2=>simp at h
 rename_i sz slots ho;split at h
 case isFalse=>simp at h
 rename_i hag;obtain⟨rfl,rfl⟩:=hag;obtain⟨hk,hro⟩:=hI.fC id _ ho;have hl:(φ id).sz=1:=by cases hro with|nst hsz hl=>exact hl
 cases hp with
 |ep hk'=>
  have ea:(⟨(φ id).bU,(φ id).aL+dv*(φ id).sz+0,none⟩:Addr)=⟨(φ id).bU,(φ id).aL+dv,none⟩:=by rw[hl,iC,cN]
  rw[ea];split at h
  .rename_i hsl;obtain⟨rfl,rfl,rfl,rfl⟩:TV.c (.d (.lit (.slice none 0 0)))=v/\[]=u/\[id]=ap/\nxt=n':=by simpa using h
   cases hro with
   |nst hsz hl hS hK hown hext hfit hr hv=>
    obtain⟨x,h1,h2⟩:=hr dv _ hsl;cases h2
    obtain⟨val,q1,q2⟩:=qG (S:=S) (Kn:=Kn) (φ:=φ) ha hs (cells:=[.d (.lit (.slice none 0 0))]) (b:=(φ id).bU) (o:=(φ id).aL+dv) (fun j x hj=>by
     cases j with
     |succ j=>simp at hj
     |zero=>
      obtain rfl:C.d (.lit (.slice none 0 0))=x:=by simpa using hj
      exact⟨_,(hown.cell _).trans h1,.d (.lit rfl)⟩) (v:=TV.c (.d (.lit (.slice none 0 0)))) rfl
    exact⟨val,by simp[Instr.loadAt,Instr.sureAddr,q1],hO.pure hI q2⟩
  .rename_i rows hsl;obtain⟨rfl,rfl,rfl,rfl⟩:TV.c (.dq sz nxt 0 rows.length)=v/\[(nxt,some (Ob.aH sz rows)),(id,some (Ob.nst sz (slots.set dv (.out nxt rows.length))))]=u/\[id]=ap/\nxt+1=n':=by simpa using h
   have hn:=hn0 (aS _);obtain⟨l,x,h1,h2,h3⟩:=hI.split ho hsl hn
   obtain⟨val,q1,q2⟩:=qG (S:=S) (Kn:=fun j=>Kn j\/j=nxt) (φ:=ext φ nxt l) ha hs (cells:=[.dq sz nxt 0 rows.length]) (b:=(φ id).bU) (o:=(φ id).aL+dv) (fun j x' hj=>by
     cases j with
     |succ j=>simp at hj
     |zero=>
      obtain rfl:C.dq sz nxt 0 rows.length=x':=by simpa using hj
      exact⟨x,h1,h2⟩) (v:=TV.c (.dq sz nxt 0 rows.length)) rfl
   refine⟨val,by simp[Instr.loadAt,Instr.sureAddr,q1],bg _,S,ext φ nxt l,eM.refl _ _,⟨fun i hi=>.inl hi,(fW l hn).same⟩,q2.kn fun i=>(ky i).1,h3.qj fun i=>ky i⟩
  .simp at h
theorem BU{t:TypeId}{x:Operand}{agg:Bool}{n:Nat}(ho:o.op=.load t x)(ha:dY P t=some agg)(hs:dN P t=some n)(hI:Inv S K w0 Kn φ (au H) w)
  {tv:Option TV} (hx:∀y,tv=some y->dO S w Kn φ y (ρ x)) (h:bN call (.load agg n) [tv] H nxt=some (v,u,ap,n')):ct P o ρ S K w0 w Kn φ (au H) nxt n' v u:=by
 cases tv with
 |none=>simp[bN]at h
 |some y=>
  cases y with
  |c p=>
   change (match e_ agg n p H with|some (v,ap)=>some (v,[],ap,nxt)|none=>none)=_ at h;split at h
   .rename_i v' ids' hl;obtain⟨rfl,rfl,rfl,rfl⟩:v'=v/\[]=u/\ids'=ap/\nxt=n':=by simpa using h
    cases hx _ rfl with|c hp=>obtain⟨val,h1,h2⟩:=sN ha hs hI hp hl;refine⟨.value _,_,_,?_,.inl rfl,hO.pure hI h2⟩;simp[execOp,ho,h1]
   .simp at h
  |_=>simp[bN]at h
theorem E2{t:TypeId}{x:Operand}(ho:o.op=.load t x)(ha:dY P t=some false)(hs:dN P t=some 1)(hI:Inv S K w0 Kn φ (au H) w)(hn0:nxt<n'->¬Kn nxt)
  {tv:Option TV} (hx:∀y,tv=some y->dO S w Kn φ y (ρ x)) (h:bN call .pk [tv] H nxt=some (v,u,ap,n')):ct P o ρ S K w0 w Kn φ (au H) nxt n' v u:=by
 cases tv with
 |none=>simp[bN]at h
 |some y=>
  cases y with
  |c p=>
   change (match e_ false 1 p H with|some (v,ap)=>some (v,[],ap,nxt)|none=>iI false 1 p H nxt)=_ at h;split at h
   .rename_i v' ids' hl;exact BU (call:=call) ho ha hs hI (tv:=some (.c p)) hx (by show(match e_ false 1 p H with|some (v,ap)=>some (v,[],ap,nxt)|none=>none)=_;rw[hl];exact h)
   .cases hx _ rfl with|c hp=>obtain⟨val,h1,h2⟩:=CU ha hs hI hp hn0 h;refine⟨.value _,_,_,?_,.inl rfl,h2⟩;simp[execOp,ho,h1]
  |_=>simp[bN]at h
theorem ct.pure{val:Value}(hI:Inv S K w0 Kn φ (au H) w)(hr:(execOp ρ o).run P w=.ok (.value val) w)(h:dO S w Kn φ v val):ct P o ρ S K w0 w Kn φ (au H) nxt nxt v []:=⟨.value val,val,w,hr,.inl rfl,hO.pure hI h⟩
theorem I2{x:Operand}(ho:o.op=.move x\/o.op=.assign x)(hI:Inv S K w0 Kn φ (au H) w){tv:Option TV}(hx:∀y,tv=some y->dO S w Kn φ y (ρ x))
  (h:bN call .mv [tv] H nxt=some (v,u,ap,n')):ct P o ρ S K w0 w Kn φ (au H) nxt n' v u:=by
 cases tv with
 |none=>simp[bN]at h
 |some y=>
  obtain⟨rfl,rfl,rfl,rfl⟩:y=v/\[]=u/\[]=ap/\nxt=n':=by simpa[bN]using h
  refine ct.pure hI ?_ (hx _ rfl);rcases ho with ho|ho<;>simp[execOp,ho]
theorem HI{c x y:Operand}(ho:o.op=.pick c x y)(hI:Inv S K w0 Kn φ (au H) w){tc tx ty:Option TV}(hc:∀z,tc=some z->dO S w Kn φ z (ρ c))
  (hx:∀z,tx=some z->dO S w Kn φ z (ρ x)) (hy:∀z,ty=some z->dO S w Kn φ z (ρ y))
  (h:bN call .pick [tc,tx,ty] H nxt=some (v,u,ap,n')):ct P o ρ S K w0 w Kn φ (au H) nxt n' v u:=by
 match tc,h,hc with
 |some (.c (.d (.lit (.bool b)))),h,hc=>
  change (match(if b then tx else ty)with|some v=>some (v,[],[],nxt)|none=>none)=_ at h;obtain⟨hb,_⟩:=(hc _ rfl).lit;cases b
  .simp only[aM,if_false]at h;cases ty with
   |none=>simp at h
   |some z=>
    obtain⟨rfl,rfl,rfl,rfl⟩:z=v/\[]=u/\[]=ap/\nxt=n':=by simpa using h
    exact ct.pure hI (by simp[execOp,ho,hb,asBool]) (hy _ rfl)
  .simp only[if_true]at h;cases tx with
   |none=>simp at h
   |some z=>
    obtain⟨rfl,rfl,rfl,rfl⟩:z=v/\[]=u/\[]=ap/\nxt=n':=by simpa using h
    exact ct.pure hI (by simp[execOp,ho,hb,asBool]) (hx _ rfl)
theorem ym{x:Operand}(ho:o.op=.nilCheck x)(hI:Inv S K w0 Kn φ (au H) w){tv:Option TV}(hx:∀y,tv=some y->dO S w Kn φ y (ρ x))
  (h:bN call .nilCheck [tv] H nxt=some (v,u,ap,n')):ct P o ρ S K w0 w Kn φ (au H) nxt n' v u:=by
 match tv,h,hx with
 |some (.c c),h,hx=>
  have key:(∃a,ρ x=.pointer (some a))\/(∃g vs,ρ x=.func (.func g) #[] vs)->some (TV.c c,([]:dD),([]:List Nat),nxt)=some (v,u,ap,n')->ct P o ρ S K w0 w Kn φ (au H) nxt n' v u:=by
   intro hc h;obtain⟨rfl,rfl,rfl,rfl⟩:TV.c c=v/\[]=u/\[]=ap/\nxt=n':=by simpa using h
   refine ct.pure hI ?_ (hx _ rfl);rcases hc with⟨a,hc⟩|⟨g,vs,hc⟩<;>simp[execOp,ho,hc]
  have hr:=hx _ rfl;generalize hv0:ρ x=val at hr;cases hr with
  |c hr=>
   cases hr with
   |d hd=>cases hd with|lit hp=>simp[bN]at h|nan=>simp[bN]at h|ex=>simp[bN]at h|jk=>simp[bN]at h|sl=>simp[bN]at h|nV=>simp[bN]at h|pt f hb=>exact key (.inl ⟨_,hv0⟩) h|fn hl hr=>exact key (.inr ⟨_,_,hv0⟩) h
   |dq=>simp[bN]at h
   |ep hk=>exact key (.inl ⟨_,hv0⟩) h
   |op hk=>exact key (.inl ⟨_,hv0⟩) h
   |kR hl hr=>exact key (.inr ⟨_,_,hv0⟩) h
   |om hk=>simp[bN]at h
theorem FM{k:FloatKind}{n m:Nat}(h:n %k.format.signWeight=m %k.format.signWeight)(hn:rH k n):rH k m:=by
 unfold rH iO at*;rw[h]at hn;dsimp only at hn|-;split at hn
 .cases hn
 .rw [if_neg (by assumption)];split at hn
  .cases hn
  .rw [if_neg (by assumption)];split at hn
   .cases hn
   .rw [if_neg (by assumption)];rfl
theorem yz{k:FloatKind}{n:Nat}(h:rH k n):rH k (Op.negFloat k n):=by refine FM ?_ h;unfold Op.negFloat Ieee.Format.signWeight;rw[Nat.xor_mod_two_pow,Nat.mod_self,Nat.xor_zero]
theorem CB{op:UnOp}{a va v:Value}(ha:nd a va)(h:Jv op a=some v):∃v',Jv op va=some v'/\nd v v':=by
 cases ha with
 |lit _=>exact⟨v,h,.lit (BK (P:=default) (w:=default) h).2⟩
 |ex=>cases h
 |jk=>cases h
 |nan hn hm=>unfold Jv at h|-;cases op with|neg=>obtain rfl:=aa h;exact⟨_,rfl,.nan (yz hn) (yz hm)⟩|_=>cases h
theorem LG{t:TypeId}{op:UnOp}{x:Operand}(ho:o.op=.unOp op t x)(hI:Inv S K w0 Kn φ (au H) w){tv:Option TV}(hx:∀y,tv=some y->dO S w Kn φ y (ρ x))
  (h:bN call (.un op) [tv] H nxt=some (v,u,ap,n')):ct P o ρ S K w0 w Kn φ (au H) nxt n' v u:=by
 match tv,h,hx with
 |some (.c (.d (.lit z))),h,hx=>
  change (match Jv op z with|some v=>some (lv v,[],[],nxt)|none=>none)=_ at h;split at h
  .rename_i r hr;obtain⟨rfl,rfl,rfl,rfl⟩:lv r=v/\[]=u/\[]=ap/\nxt=n':=by simpa using h
   obtain⟨r',h3,h4⟩:=CB (hx _ rfl).Di hr;obtain⟨h1,h2⟩:=BK (P:=P) (w:=w) h3;exact ct.pure hI (by simp[execOp,ho,h1]) (.AB h4)
  .simp at h
theorem J0{t ty:TypeId}{op:BinOp}{x y:Operand}(ho:o.op=.binOp op t x y ty)(hI:Inv S K w0 Kn φ (au H) w){tx tz:Option TV}(hx:∀z,tx=some z->dO S w Kn φ z (ρ x))
  (hy:∀z,tz=some z->dO S w Kn φ z (ρ y)) (h:bN call (.t8 op) [tx,tz] H nxt=some (v,u,ap,n')):ct P o ρ S K w0 w Kn φ (au H) nxt n' v u:=by
 match tx,tz,h,hx,hy with
 |some (.c (.d (.lit a))),some (.c (.d (.lit b))),h,hx,hy=>
  change (match jK op a b with|some v=>some (lv v,[],[],nxt)|none=>none)=_ at h;split at h
  .rename_i r hr;obtain⟨rfl,rfl,rfl,rfl⟩:lv r=v/\[]=u/\[]=ap/\nxt=n':=by simpa using h
   have hr:=Bo (hx _ rfl).Di (hy _ rfl).Di hr;obtain⟨r',n,h1,hle,h4,h3⟩:=EJ (P:=P) (w:=w) (t:=t) hr;exact⟨.value r',r',_,by simp[execOp,ho,h1,h3],.inl rfl,ak _,S,φ,eM.pf _ _ _,lT _ _,.AB h4,(hI.pf n hle).kn fun _ hi=>.inl hi⟩
  .simp at h
theorem sO{t:TypeId}(hu:P.underlying t=some .bool)(a b:Bool):(Op.equal t (.bool a) (.bool b)).run P w=.ok (a==b) w:=by show(Op.equalIn (9999+1) t (.bool a) (.bool b)).run P w=_;unfold Op.equalIn;rw[Sem.run_bind,bp hu];rfl
theorem Dd{t ty:TypeId}{op:BinOp}{x y:Operand}(ho:o.op=.binOp op t x y ty)(hop:op=.eql\/op=.neq)(hu:P.underlying t=some .bool)(hI:Inv S K w0 Kn φ (au H) w)
  {tx tz:Option TV} (hx:∀z,tx=some z->dO S w Kn φ z (ρ x)) (hy:∀z,tz=some z->dO S w Kn φ z (ρ y))
  (h:bN call (.pO (op==.neq)) [tx,tz] H nxt=some (v,u,ap,n')):ct P o ρ S K w0 w Kn φ (au H) nxt n' v u:=by
 match tx,tz,h,hx,hy with
 |some (.c (.d (.lit (.bool a)))),some (.c (.d (.lit (.bool b)))),h,hx,hy=>
  obtain⟨ha,_⟩:=(hx _ rfl).lit;obtain⟨hb,_⟩:=(hy _ rfl).lit;change some (lv (.bool (if(op==.neq)then !(a==b)else a==b)),([]:dD),([]:List Nat),nxt)=_ at h;obtain⟨rfl,rfl,rfl,rfl⟩:lv (.bool (if(op==.neq)then !(a==b)else a==b))=v/\[]=u/\[]=ap/\nxt=n':=by simpa using h
  refine ct.pure hI ?_ (.mh rfl);rcases hop with rfl|rfl
  .simp [execOp,ho,ha,hb,eqGuard,binOp,sO hu]
  .simp [execOp,ho,ha,hb,eqGuard,binOp,sO hu]
theorem Az{s d:TypeId}{k k':IntKind}{x:Operand}(ho:o.op=.convert s d x)(hs:P.underlying s=some (.int k'))(hd:P.underlying d=some (.int k))(hI:Inv S K w0 Kn φ (au H) w)
  {tv:Option TV} (hx:∀y,tv=some y->dO S w Kn φ y (ρ x)) (h:bN call (.qn k) [tv] H nxt=some (v,u,ap,n')):ct P o ρ S K w0 w Kn φ (au H) nxt n' v u:=by
 match tv,h,hx with
 |some (.c (.d (.lit (.int k0 n)))),h,hx=>
  obtain⟨ha,_⟩:=(hx _ rfl).lit;obtain⟨rfl,rfl,rfl,rfl⟩:lv (.int k (k.wrap n))=v/\[]=u/\[]=ap/\nxt=n':=by simpa[bN]using h
  exact ct.pure hI (by simp[execOp,ho,ha,convert,bp hs,bp hd,Conv.intToInt]) (.mh rfl)
theorem E7{s d:TypeId}{k':IntKind}{k:FloatKind}{x:Operand}(ho:o.op=.convert s d x)(hs:P.underlying s=some (.int k'))(hd:P.underlying d=some (.float k))(hI:Inv S K w0 Kn φ (au H) w)
  {tv:Option TV} (hx:∀y,tv=some y->dO S w Kn φ y (ρ x)) (h:bN call (.zk k) [tv] H nxt=some (v,u,ap,n')):ct P o ρ S K w0 w Kn φ (au H) nxt n' v u:=by
 match tv,h,hx with
 |some (.c (.d (.lit (.int k0 n)))),h,hx=>
  obtain⟨ha,_⟩:=(hx _ rfl).lit;obtain⟨rfl,rfl,rfl,rfl⟩:lv (.float k (k.nearest n))=v/\[]=u/\[]=ap/\nxt=n':=by simpa[bN]using h
  exact ct.pure hI (by simp[execOp,ho,ha,convert,bp hs,bp hd,Conv.intToFloat]) (.mh rfl)
theorem yr{s d:TypeId}{x:Operand}(ho:o.op=.convert s d x)(hs:P.underlying s=some .string)(hd:P.underlying d=some .string)(hI:Inv S K w0 Kn φ (au H) w)
  {tv:Option TV} (hx:∀y,tv=some y->dO S w Kn φ y (ρ x)) (h:bN call .oC [tv] H nxt=some (v,u,ap,n')):ct P o ρ S K w0 w Kn φ (au H) nxt n' v u:=by
 match tv,h,hx with
 |some (.c (.d (.lit (.string s0)))),h,hx=>
  obtain⟨ha,_⟩:=(hx _ rfl).lit;obtain⟨rfl,rfl,rfl,rfl⟩:lv (.string s0)=v/\[]=u/\[]=ap/\nxt=n':=by simpa[bN]using h
  exact ct.pure hI (by simp[execOp,ho,ha,convert,bp hs,bp hd]) (.mh rfl)
theorem Ay{x:Operand}{i:Nat}(ho:o.op=.extract x i)(hI:Inv S K w0 Kn φ (au H) w){tv:Option TV}(hx:∀y,tv=some y->dO S w Kn φ y (ρ x))
  (h:bN call (.extract i) [tv] H nxt=some (v,u,ap,n')):ct P o ρ S K w0 w Kn φ (au H) nxt n' v u:=by
 match tv,h,hx with
 |some (.eU xs),h,hx=>
  change (match xs[i]?with|some v=>some (v,[],[],nxt)|none=>none)=_ at h;split at h
  .rename_i y hy;obtain⟨rfl,rfl,rfl,rfl⟩:y=v/\[]=u/\[]=ap/\nxt=n':=by simpa using h
   have hr:=hx _ rfl;generalize hv0:ρ x=val at hr;cases hr with
   |@eU _ aH hlen hr=>
    have hlt:i<aH.size:=by rw[<-hlen];exact(ah.1 hy).1
    refine ct.pure (val:=aH.getD i undef) hI ?_ (hr i y hy);simp[execOp,ho,hv0,Instr.extract,hlt]
  .simp at h
theorem wi{s:TypeId}{f n:Nat}{fields:Array Field}{fl:Field}{x:Operand}(ho:o.op=.fieldAddr s x f)(hu:P.underlying s=some (.struct fields))(hf:fields[f]?=some fl)
  (hs:dN P fl.type=some (n+1)) (hI:Inv S K w0 Kn φ (au H) w) {tv:Option TV} (hx:∀y,tv=some y->dO S w Kn φ y (ρ x))
  (h:bN call (.fieldAddr fl.offset (n+1)) [tv] H nxt=some (v,u,ap,n')):ct P o ρ S K w0 w Kn φ (au H) nxt n' v u:=by
 match tv,h,hx with
 |some (.c c),h,hx=>
  change (match gM fl.offset (n+1) c with|some y=>some (TV.c y,[],[],nxt)|none=>none)=_ at h;split at h
  .rename_i y hy;obtain⟨rfl,rfl,rfl,rfl⟩:TV.c y=v/\[]=u/\[]=ap/\nxt=n':=by simpa using h
   have run:∀b off,ρ x=.pointer (some ⟨b,off,none⟩)->(execOp ρ o).run P w=.ok (.value (.pointer (some ⟨b,off+fl.offset,none⟩))) w:=by intro b off hv;simp[execOp,ho,hv,Instr.fieldAt,bp hu,hf,Instr.sureAddr,fieldPlace,eK hs,kL]
   have hr:=hx _ rfl;generalize hv0:ρ x=val at hr;cases hr with
   |c hr=>
    cases hr with
    |d hd=>
     cases hd with
     |@pt cells b off g hb hcell hrd=>
      simp only[gM]at hy;split at hy
      .obtain rfl:=aa hy;refine ct.pure hI (run _ _ hv0) (.c (.d (.sS hb fun j z hj=>?_)));rw[dh]at hj;split at hj
       .rw [bw]at hj;exact⟨_,by rw[cg];exact hcell _ _ hj,hrd _ _ hj⟩
       .simp at hj
      .simp at hy
     |_=>simp[gM]at hy
    |@op id off hk=>
     obtain rfl:C.op id (off+fl.offset)=y:=by simpa[gM]using hy
     refine ct.pure hI (run _ _ hv0) (.c ?_);rw[cg];exact .op hk
    |@ep id dv off hk=>
     obtain rfl:C.ep id dv (off+fl.offset)=y:=by simpa[gM]using hy
     refine ct.pure hI (run _ _ hv0) (.c ?_);rw[cg];exact .ep hk
    |_=>simp[gM]at hy
  .simp at h
theorem E3{str:Bool}{t:TypeId}{x:Operand}{c:j6}(ho:o.op=.call c)(hcal:c.callee=.builtin .len)(hargs:c.args= #[x])(hts:c.argTypes= #[t])
  (hu:if str then P.underlying t=some .string else∃b,P.underlying t=some (.slice b)) (hI:Inv S K w0 Kn φ (au H) w) {tv:Option TV} (hx:∀y,tv=some y->dO S w Kn φ y (ρ x))
  (h:bN call (.len str) [tv] H nxt=some (v,u,ap,n')):ct P o ρ S K w0 w Kn φ (au H) nxt n' v u:=by
 match tv,h,hx with
 |some (.c y),h,hx=>
  change (match pn str y with|some n=>some (lv (.int .i64 n),[],[],nxt)|none=>none)=_ at h;split at h
  .rename_i n hn;obtain⟨rfl,rfl,rfl,rfl⟩:lv (.int .i64 n)=v/\[]=u/\[]=ap/\nxt=n':=by simpa using h
   refine ct.pure hI ?_ (.mh rfl);have hr:=hx _ rfl;generalize hv0:ρ x=val at hr;cases str with
   |true=>
    simp only[if_true]at hu
    match y,hn,hr with
    |.d (.lit (.string s)),hn,hr=>
     obtain⟨rfl,_⟩:=hr.lit;obtain rfl:(s.size:Int)=n:=by simpa[pn]using hn
     simp[execOp,ho,hcal,hargs,hts,resolve,invoke,builtin,hv0,Builtin.len_,bp hu,goInt]
   |false=>
    simp only[aM,if_false]at hu;obtain⟨b,hu⟩:=hu;have hsl:∀a l k,val=.slice a l k->n=(l:Int)->(execOp ρ o).run P w=.ok (.value (.int .i64 n)) w:=by intro a l k e1 e2;simp[execOp,ho,hcal,hargs,hts,resolve,invoke,builtin,hv0,e1,e2,Builtin.len_,bp hu,goInt]
    match y,hn,hr with
    |.d (.lit (.slice none 0 0)),hn,hr=>obtain⟨rfl,_⟩:=hr.lit;exact hsl _ _ _ rfl (by simpa[pn]using hn.symm)
    |.d (.sl sz rows),hn,hr=>
     cases hr with
     |c hr=>cases hr with
      |d hd=>cases hd with|sl=>exact hsl _ _ _ rfl (by simpa[pn]using hn.symm)|nV=>exact hsl _ _ _ rfl (by simpa[pn]using hn.symm)
    |.dq sz id off len,hn,hr=>
     cases hr with
     |c hr=>cases hr with|dq=>exact hsl _ _ _ rfl (by simpa[pn]using hn.symm)
  .simp at h
theorem mZ{op:BinOp}(hop:op=.eql\/op=.neq){t:TypeId}{x y:Value}{b:Bool}(a c:Operand)
  (h1:binOp .eql t x y=(do pure (.bool (<-Op.equal t x y)))) (h2:binOp .neq t x y=(do pure (.bool (!(<-Op.equal t x y)))))
  (hg:(eqGuard op t a c x y).run P w=.ok () w) (he:(Op.equal t x y).run P w=.ok b w):
  ((do eqGuard op t a c x y;binOp op t x y):Sem Value).run P w=.ok (.bool (if op==.neq then !b else b)) w:=by
 rcases hop with rfl|rfl
 .rw [Sem.run_bind,hg,Result.andThen_ok,h1,Sem.run_bind,he];rfl
 .rw [Sem.run_bind,hg,Result.andThen_ok,h2,Sem.run_bind,he];rfl
theorem mF{op:BinOp}{t:TypeId}(a c:Operand){x y:Value}(h:match x,y with|.nilIface,.nilIface=>False|.agg _,.agg _=>False|_,_=>True):
  (eqGuard op t a c x y).run P w=.ok () w:=by
 unfold eqGuard;cases op<;>simp<;>(cases x<;>cases y<;>simp_all)
theorem mJ(t:TypeId)(x y:Value):Op.equal t x y=Op.equalIn (9999+1) t x y:=rfl
def Fd(P:Program)(t:TypeId):Nat->Prop
 |0=>∃x,P.underlying t=some (.slice x)
 |1=>∃x,P.underlying t=some (.pointer x)
 |2=>∃a b c,P.underlying t=some (.func a b c)
 |_=>False
theorem CV{op:BinOp}(hop:op=.eql\/op=.neq){kind:Nat}{t:TypeId}{y:C}{val:Value}{b:Bool}(a c:Operand)(hu:Fd P t kind)
  (hr:dO S w Kn φ (.c y) val) (hn:l5 kind y=some b):
  ((do eqGuard op t a c val (kw kind);binOp op t val (kw kind)):Sem Value).run P w=.ok (.bool (if op==.neq then !b else b)) w/\
  ((do eqGuard op t a c (kw kind) val;binOp op t (kw kind) val):Sem Value).run P w=.ok (.bool (if op==.neq then !b else b)) w:=by
 have hsl:(∃x,P.underlying t=some (.slice x))->∀q l k,kind=0->val=.slice q l k->b=q.isNone->
   ((do eqGuard op t a c val (kw kind);binOp op t val (kw kind)):Sem Value).run P w=.ok (.bool (if op==.neq then !b else b)) w/\
   ((do eqGuard op t a c (kw kind) val;binOp op t (kw kind) val):Sem Value).run P w=.ok (.bool (if op==.neq then !b else b)) w:=by
  rintro⟨x,hu'⟩ q l k rfl rfl rfl;refine⟨mZ hop a c rfl rfl (mF a c trivial) ?_,mZ hop a c rfl rfl (mF a c trivial) ?_⟩
  all_goals
   rw[mJ];unfold Op.equalIn;rw[Sem.run_bind,bp hu'];cases q<;>rfl
 have hpt:(∃x,P.underlying t=some (.pointer x))->∀q,kind=1->val=.pointer q->b=q.isNone->
   ((do eqGuard op t a c val (kw kind);binOp op t val (kw kind)):Sem Value).run P w=.ok (.bool (if op==.neq then !b else b)) w/\
   ((do eqGuard op t a c (kw kind) val;binOp op t (kw kind) val):Sem Value).run P w=.ok (.bool (if op==.neq then !b else b)) w:=by
  rintro⟨x,hu'⟩ q rfl rfl rfl;refine⟨mZ hop a c ?_ ?_ (mF a c trivial) ?_,mZ hop a c ?_ ?_ (mF a c trivial) ?_⟩
  .cases q<;>rfl
  .cases q<;>rfl
  .rw [mJ];unfold Op.equalIn;rw[Sem.run_bind,bp hu'];cases q<;>rfl
  .cases q<;>rfl
  .cases q<;>rfl
  .rw [mJ];unfold Op.equalIn;rw[Sem.run_bind,bp hu'];cases q<;>rfl
 have hfn:(∃x y z,P.underlying t=some (.func x y z))->kind=2->((val=.nilFunc/\b=true)\/((∃f p q,val=.func f p q)/\b=false))->
   ((do eqGuard op t a c val (kw kind);binOp op t val (kw kind)):Sem Value).run P w=.ok (.bool (if op==.neq then !b else b)) w/\
   ((do eqGuard op t a c (kw kind) val;binOp op t (kw kind) val):Sem Value).run P w=.ok (.bool (if op==.neq then !b else b)) w:=by
  rintro⟨x,y,z,hu'⟩ rfl (⟨rfl,rfl⟩|⟨⟨f,p,q,rfl⟩,rfl⟩)
  all_goals
   refine⟨mZ hop a c rfl rfl (mF a c trivial) ?_,mZ hop a c rfl rfl (mF a c trivial) ?_⟩
   all_goals
    rw[mJ];unfold Op.equalIn;rw[Sem.run_bind,bp hu'];rfl
 cases hr with
 |c hr=>
  match kind,y,hn,hr,hu with
  |0,.d (.lit (.slice none 0 0)),hn,hr,hu=>cases hr with|d hd=>cases hd with|lit hp=>exact hsl hu _ _ _ rfl rfl (by simpa[l5]using hn.symm)
  |0,.d (.sl _ _),hn,hr,hu=>cases hr with|d hd=>cases hd with|sl=>exact hsl hu _ _ _ rfl rfl (by simpa[l5]using hn.symm)|nV=>exact hsl hu _ _ _ rfl rfl (by simpa[l5]using hn.symm)
  |0,.dq _ _ _ _,hn,hr,hu=>cases hr with|dq=>exact hsl hu _ _ _ rfl rfl (by simpa[l5]using hn.symm)
  |1,.d (.lit (.pointer none)),hn,hr,hu=>cases hr with|d hd=>cases hd with|lit hp=>exact hpt hu _ rfl rfl (by simpa[l5]using hn.symm)
  |1,.d (.pt _),hn,hr,hu=>cases hr with|d hd=>cases hd with|pt=>exact hpt hu _ rfl rfl (by simpa[l5]using hn.symm)
  |1,.ep _ _ _,hn,hr,hu=>cases hr with|ep=>exact hpt hu _ rfl rfl (by simpa[l5]using hn.symm)
  |1,.op _ _,hn,hr,hu=>cases hr with|op=>exact hpt hu _ rfl rfl (by simpa[l5]using hn.symm)
  |2,.d (.lit .nilFunc),hn,hr,hu=>cases hr with|d hd=>cases hd with|lit hp=>exact hfn hu rfl (.inl ⟨rfl,by simpa[l5]using hn.symm⟩)
  |2,.d (.fn _ _),hn,hr,hu=>cases hr with|d hd=>cases hd with|fn=>exact hfn hu rfl (.inr ⟨⟨_,_,_,rfl⟩,by simpa[l5]using hn.symm⟩)
  |2,.kR _ _,hn,hr,hu=>cases hr with|kR=>exact hfn hu rfl (.inr ⟨⟨_,_,_,rfl⟩,by simpa[l5]using hn.symm⟩)
theorem rq{kind:Nat}{x:Operand}(h:qR kind x=true):x=.const (kw kind):=by unfold qR at h;split at h<;>first|rfl|simp at h
theorem yp{t ty:TypeId}{op:BinOp}{x y z:Operand}{kind:Nat}(ho:o.op=.binOp op t x y ty)(hop:op=.eql\/op=.neq)(hu:Fd P t kind)(hI:Inv S K w0 Kn φ (au H) w)
  (hc:∀v,ρ (.const v)=v) (hz:(z=x/\qR kind y=true)\/(z=y/\qR kind x=true)) {tv:Option TV} (hx:∀y,tv=some y->dO S w Kn φ y (ρ z))
  (h:bN call (.mK kind (op==.neq)) [tv] H nxt=some (v,u,ap,n')):ct P o ρ S K w0 w Kn φ (au H) nxt n' v u:=by
 match tv,h,hx with
 |some (.c c),h,hx=>
  change (match l5 kind c with|some b=>some (lv (.bool (if(op==BinOp.neq)then !b else b)),([]:dD),([]:List Nat),nxt)|none=>none)=_ at h;split at h
  .rename_i b hb;obtain⟨rfl,rfl,rfl,rfl⟩:lv (.bool (if(op==BinOp.neq)then !b else b))=v/\[]=u/\[]=ap/\nxt=n':=by simpa using h
   refine ct.pure hI ?_ (.mh rfl);obtain⟨h1,h2⟩:=CV (P:=P) hop x y hu (hx _ rfl) hb;rcases hz with⟨rfl,hn⟩|⟨rfl,hn⟩
   .have e:=rq hn;simp only[execOp,ho,Sem.run_bind];rw[Sem.run_bind]at h1;rw[e]at h1|-;rw[hc,h1];rfl
   .have e:=rq hn;simp only[execOp,ho,Sem.run_bind];rw[Sem.run_bind]at h2;rw[e]at h2|-;rw[hc,h2];rfl
  .simp at h
end
section
variable{P:Program}{S K:Nat->Prop}{w0 w:World}{Kn:Nat->Prop}{φ:Nat->eG}{H:bl}{e:gy}{ρ:Operand->Value}{o:Oper}{call:Call}
 {nxt n':Nat} {v:TV} {u:dD} {ap:List Nat}
theorem rB{α:Type}:∀{l:List (Option α)}{xs:List α},cT l=some xs->l=xs.map some:=by
 intro l;induction l with
 |nil=>
  intro xs h;obtain rfl:[]=xs:=by simpa[cT]using h
  rfl
 |cons a l ih=>
  intro xs h;cases a with
  |none=>simp[cT]at h
  |some x=>
   simp only[cT]at h;split at h
   .rename_i ys hy;obtain rfl:=aa h;simp[ih hy]
   .simp at h
theorem oG{args:List Operand}{xs:List TV}(hρ:∀x tv,g_ e x=some tv->dO S w Kn φ tv (ρ x))(h:cT (args.map (g_ e))=some xs):
  xs.length=args.length/\∀(i:Nat)(x:Operand)(tv:TV),args[i]?=some x->xs[i]?=some tv->dO S w Kn φ tv (ρ x):=by
 have h1:=rB h;have hl:xs.length=args.length:=by have:=congrArg iD h1;simpa using this.symm
 refine⟨hl,fun i x tv hx htv=>hρ x tv ?_⟩;have h2:=congrArg (fun l=>l[i]?) h1;simp only[aB,hx,htv,bh]at h2;exact aa h2
theorem HJ{f:FuncId}{first captured:Array Operand}(ho:o.op=.makeFunc (.func f) first captured)(hf:first.isEmpty=true)(hI:Inv S K w0 Kn φ (au H) w)
  (hρ:∀x tv,g_ e x=some tv->dO S w Kn φ tv (ρ x)) (h:bN call (.Do f) (captured.toList.map (g_ e)) H nxt=some (v,u,ap,n')):ct P o ρ S K w0 w Kn φ (au H) nxt n' v u:=by
 change (match cT (captured.toList.map (g_ e))with
  |some xs=>(match cT (xs.map fun(x:TV)=>match x with|.c c=>some c|_=>none)with|some cs=>some (TV.c (.kR f cs),([]:dD),([]:List Nat),nxt)|none=>none)
  |none=>none)=_ at h
 split at h
 .rename_i xs hxs;split at h
  .rename_i cs hcs;obtain⟨rfl,rfl,rfl,rfl⟩:TV.c (.kR f cs)=v/\[]=u/\[]=ap/\nxt=n':=by simpa using h
   obtain⟨hl,hr⟩:=oG hρ hxs;have h2:=rB hcs;have hl2:cs.length=xs.length:=by have:=congrArg iD h2;simpa using this.symm
   have hf':first= #[]:=by simpa using hf
   refine ct.pure (val:=.func (.func f) #[] (captured.map ρ)) hI (by simp[execOp,ho,Instr.makeFunc,hf']) (.c (.kR (by simp[hl2,hl]) fun j c hj=>?_));have hj':j<xs.length:=by rw[<-hl2];exact(ah.1 hj).1
   have h3:=congrArg (fun l=>l[j]?) h2;simp only[aB,hj,bh,ai hj']at h3;have h4:=aa h3;have hcap:j<captured.size:=by rw[hl]at hj';simpa using hj'
   have hx:=hr j captured[j] xs[j] (by simp[hcap]) (ai hj');have e1:(captured.map ρ).getD j undef=ρ captured[j]:=by simp[hcap]
   rw[e1];cases hy:xs[j]with
   |c y=>
    rw[hy]at h4 hx;obtain rfl:y=c:=by simpa using h4
    cases hx with|c hx=>exact hx
   |_=>rw[hy]at h4;simp at h4
  .simp at h
 .simp at h
theorem pu{n:Int}(h0:0<=n)(h1:n<=2147483648):IntKind.i64.wrap n=n:=by unfold IntKind.wrap IntKind.bits IntKind.signed;simp only[Bool.true_and,decide_eq_true_eq];have:n %(2^64:Int)=n:=Int.emod_eq_of_lt h0 (by omega);rw[this];split<;>omega
theorem qH{v:Value}{k:IntKind}{n:Int}(h:v=.int k n):(asInt v).run P w=.ok n w:=by subst h;simp[asInt,asIntOf]
theorem jy{v:Value}{k:IntKind}{n:Int}(h:v=.int k n):(asIntOf v).run P w=.ok (k,n) w:=by subst h;simp[asIntOf]
theorem fK{tv:Option TV}{val:Value}{n:Int}(h:bL tv=some n)(hr:∀y,tv=some y->dO S w Kn φ y val):∃k,val=.int k n:=by
 unfold bL at h;split at h
 .obtain rfl:=aa h;obtain⟨hv,_⟩:=(hr _ rfl).lit;exact⟨_,hv⟩
 .simp at h
theorem gB{v:Value}{k:IntKind}{n:Int}{y:Nat}{code:BoundsCode}(h:v=.int k n)(h0:0<=n)(h1:n<=y):(Instr.sliceBound v y code).run P w=.ok n.toNat w:=by simp only[Instr.sliceBound,Sem.run_bind,jy h,Result.andThen_ok,h0,h1,and_self,if_true,Sem.run_pure]
theorem m6{yR:Bool}{len cap:Nat}{lo hi:Option Value}{l h:Option Int}(hlo':lo.isSome=l.isSome)(hl1:∀x,lo=some x->∃k n,x=.int k n/\l=some n)
  (hhi':hi.isSome=h.isSome) (hhi:∀x,hi=some x->∃k n,x=.int k n/\h=some n)
  (h0:0<=l.getD 0) (h1:l.getD 0<=h.getD len) (h2:h.getD len<=cap):
  (Instr.sliceBounds yR len cap lo hi none).run P w=.ok ((l.getD 0).toNat,(h.getD len).toNat,cap) w:=by
 unfold Instr.sliceBounds;cases hi with
 |none=>
  cases h with
  |some _=>simp at hhi'
  |none=>
   cases lo with
   |none=>cases l with|some _=>simp at hlo'|none=>simp
   |some x=>obtain⟨k,n,rfl,rfl⟩:=hl1 x rfl;simp only[dn,Option.getD_none]at h0 h1;have:=gB (P:=P) (w:=w) (v:=.int k n) (y:=len) (code:=.sliceB) rfl h0 h1;simp[this]
 |some y=>
  obtain⟨k,n,rfl,rfl⟩:=hhi y rfl;simp only[dn]at h1 h2;have hb:=gB (P:=P) (w:=w) (v:=.int k n) (y:=cap) (code:=if yR then .sliceAcap else .sliceAlen) rfl (by omega) h2;cases lo with
  |none=>cases l with|some _=>simp at hlo'|none=>simp[hb]
  |some x=>obtain⟨k',n',rfl,rfl⟩:=hl1 x rfl;simp only[dn]at h0 h1;have:=gB (P:=P) (w:=w) (v:=.int k' n') (y:=n.toNat) (code:=.sliceB) rfl h0 (by omega);simp[hb,this]
theorem xO{str:Bool}{sz:Nat}{t:TypeId}{x y:C}{val:Value}{lo hi:Option Value}{l h:Option Int}
  (hu:if str then P.underlying t=some .string else∃el,P.underlying t=some (.slice el)/\dN P el=some sz) (hr:RC S w Kn φ x val)
  (hlo':lo.isSome=l.isSome) (hl1:∀x,lo=some x->∃k n,x=.int k n/\l=some n) (hhi':hi.isSome=h.isSome) (hhi:∀x,hi=some x->∃k n,x=.int k n/\h=some n)
  (hs:dX str sz x l h=some y):∃val',(Instr.sliceAt t val lo hi none).run P w=.ok val' w/\RC S w Kn φ y val':=by
 unfold dX at hs;cases str with
 |true=>
  simp only[if_true]at hs hu;split at hs
  .rename_i s;split at hs
   .rename_i hb;obtain⟨hb1,hb2,hb3⟩:=hb;obtain rfl:=aa hs;cases hr with
    |d hd=>cases hd with|lit hp=>have:=m6 (P:=P) (w:=w) (yR:=false) (len:=s.size) (cap:=s.size) hlo' hl1 hhi' hhi hb1 hb2 hb3;exact⟨.string (s.extract (l.getD 0).toNat (h.getD s.size).toNat),by simp[Instr.sliceAt,Instr.slice,bp hu,this],.d (.lit rfl)⟩
   .simp at hs
  .simp at hs
 |false=>
  simp only[aM,if_false]at hs hu;obtain⟨el,hu,hsz⟩:=hu
  have run:∀(a:Addr)(len cap:Nat),val=.slice (some a) len cap->0<=l.getD 0->l.getD 0<=h.getD len->h.getD len<=cap->(cap≠(l.getD 0).toNat->a.spot=none)->
    (Instr.sliceAt t val lo hi none).run P w=.ok (.slice (some (if cap=(l.getD 0).toNat then a else⟨a.block,a.off+(l.getD 0).toNat*sz,none⟩))
     ((h.getD len).toNat-(l.getD 0).toNat) (cap-(l.getD 0).toNat)) w:=by
   intro a len cap hv h0 h1 h2 hsp;have hb:=m6 (P:=P) (w:=w) (yR:=true) (len:=len) (cap:=cap) hlo' hl1 hhi' hhi h0 h1 h2;simp only[Instr.sliceAt,Instr.slice,Sem.run_bind,bp hu,Result.andThen_ok,hv,hb,eK hsz,Sem.run_pure];congr 2;split
   .rfl
   .rename_i hne;obtain⟨b,off,spot⟩:=a;obtain rfl:spot=none:=hsp hne;simp[kL]
  split at hs
  .split at hs
   .rename_i hb;obtain⟨hb1,hb2,hb3⟩:=hb;obtain rfl:=aa hs;cases hr with
    |d hd=>cases hd with
     |lit hp=>
      have e1:l.getD 0=0:=by omega
      have e2:h.getD 0=0:=by omega
      have hb:=m6 (P:=P) (w:=w) (yR:=true) (len:=0) (cap:=0) hlo' hl1 hhi' hhi hb1 (by simpa using hb2) (by simpa using hb3);refine⟨.slice none 0 0,?_,.d (.lit rfl)⟩;have e3:h.getD (((0:Nat):Int))=0:=e2;rw[e1,e3]at hb;simp only[Instr.sliceAt,Instr.slice,Sem.run_bind,bp hu,Result.andThen_ok,hb,eK hsz,Sem.run_pure];rfl
   .simp at hs
  .rename_i sz' id off len;split at hs
   .rename_i hb;obtain⟨hb0,hb1,hb2,hb3⟩:=hb;obtain rfl:=aa hs;cases hr with
    |@dq _ _ _ cap addr hk hcap haddr hext hcl=>
     subst hb0;refine⟨_,run _ len cap rfl hb1 hb2 (by omega) (fun _=>rfl),?_⟩;have hle:(l.getD 0).toNat<=cap:=by omega
     by_cases e:cap=(l.getD 0).toNat
     .rw [if_pos e];exact .dq hk (by omega) (fun h=>by omega) (by rw[<-e,Nat.sub_self];omega) (by omega)
     .rw [if_neg e];have ha:=haddr (by omega);refine .dq hk (by omega) (fun _=>?_) ?_ (by omega)
      .show addr+_=_;rw[ha,bv];omega
      .have:(l.getD 0).toNat*(φ id).sz+(cap-(l.getD 0).toNat)*(φ id).sz=cap*(φ id).sz:=by rw[<-bv];congr 1;omega
       show addr+_+_<=_;omega
   .simp at hs
  .rename_i sz' rows;split at hs
   .rename_i hb;obtain⟨hb0,hb1,hb2,hb3⟩:=hb;obtain rfl:=aa hs;cases hr with
    |d hd=>
     cases hd with
     |@sl _ _ b off cap g hb hsz0 hcap hrow hcell hrd=>
      subst hb0;refine⟨_,run _ rows.length cap rfl hb1 hb2 (by omega) (fun _=>rfl),?_⟩;have hR:bS S w sz' (fun i=>w.cell? ⟨b,i,none⟩) off rows:=⟨hrow,fun i r hi j x hj=>⟨_,hcell i r hi j x hj,hrd i r hi j x hj⟩⟩
      have hlen:((rows.drop (l.getD 0).toNat).take ((h.getD rows.length).toNat-(l.getD 0).toNat)).length=(h.getD rows.length).toNat-(l.getD 0).toNat:=by simp;omega
      by_cases e:cap=(l.getD 0).toNat
      .rw [if_pos e];exact .d (.uS hb hsz0 hlen (by omega) (hR.rE _ _ fun h=>by omega))
      .rw [if_neg e];exact .d (.uS hb hsz0 hlen (by omega) (hR.rE _ _ fun _=>rfl))
     |@nV _ a hsz0=>
      subst hb0;simp only[hP]at hb1 hb2 hb3;have e1:l.getD 0=0:=by have h2:l.getD 0<=h.getD 0:=hb2;have h3:h.getD 0<=0:=hb3;omega
      refine⟨_,run _ 0 0 rfl hb1 hb2 (by simpa using hb3) (fun hne=>absurd (by rw[e1];rfl) hne),?_⟩;rw[if_pos (by rw[e1];rfl)];have e2:(([]:List (List D)).drop (l.getD 0).toNat).take ((h.getD ([]:List (List D)).length).toNat-(l.getD 0).toNat)=[]:=by simp
      rw[e2];have e3:(h.getD ((0:Nat):Int)).toNat-(l.getD 0).toNat=0:=by have h3:h.getD 0<=0:=hb3;have h4:h.getD ((0:Nat):Int)=h.getD 0:=rfl;rw[h4];omega
      have e4:(0:Nat)-(l.getD 0).toNat=0:=by omega
      first
       |(rw[e3,e4];exact .d (.nV hsz0))
       |(simp[e1]at hb3|-;exact .d (.nV hsz0))
   .simp at hs
  .simp at hs
theorem sM{str:Bool}{sz:Nat}{t:TypeId}{x y:C}{val:Value}{lo:Option Value}{hi:Value}{k2:IntKind}{l:Option Int}{h:Int}{ap:List Nat}(hI:Inv S K w0 Kn φ (au H) w)
  (hu:if str then P.underlying t=some .string else∃el,P.underlying t=some (.slice el)/\dN P el=some sz) (hr:RC S w Kn φ x val)
  (hlo':lo.isSome=l.isSome) (hl1:∀x,lo=some x->∃k n,x=.int k n/\l=some n) (hhi:hi=.int k2 h) (hs:ki str sz x (l.getD 0) h H=some (y,ap)):∃val',(Instr.sliceAt t val lo (some hi) none).run P w=.ok val' w/\RC S w Kn φ y val':=by
 unfold ki at hs;split at hs
 case h_2=>simp at hs
 rename_i sz' id off len;simp only[aM,if_false]at hu;obtain⟨el,hu,hsz⟩:=hu
 have key:sz'=sz/\0<=l.getD 0/\l.getD 0<=h/\off+h.toNat<=(φ id).cap/\y=.dq sz id (off+(l.getD 0).toNat) (h.toNat-(l.getD 0).toNat):=by
  split at hs
  .rename_i szo rows hob;split at hs
   case isFalse=>simp at hs
   rename_i hb;obtain⟨hb0,hb1,hb2,hb3⟩:=hb;obtain⟨rfl,_⟩:=ad (aa hs);obtain⟨_,h0⟩:=hI.fC _ _ hob;have hvis:rows.length<=(φ id).cap:=by cases h0 with|aH hsz0 hl hS hK hown hext hfit hrr hvis=>exact hvis
   exact⟨hb0,hb1,hb2,by omega,rfl⟩
  .rename_i szo rows cp hob;split at hs
   case isFalse=>simp at hs
   rename_i hb;obtain⟨hb0,hb1,hb2,hb3⟩:=hb;obtain⟨rfl,_⟩:=ad (aa hs);obtain⟨_,h0⟩:=hI.fC _ _ hob;have hvis:(φ id).cap=cp:=by cases h0 with|cap hsz0 hl hS hK hown hext hfit hrr hvis hc=>exact hc
   exact⟨hb0,hb1,hb2,by omega,rfl⟩
  .simp at hs
 obtain⟨hb0,hb1,hb2,hvis,rfl⟩:=key;cases hr with
 |@dq _ _ _ cap addr hk hcap haddr hext hcl=>
  subst hb0;have hc:h<=cap:=by omega
  have hbd:=m6 (P:=P) (w:=w) (yR:=true) (len:=len) (cap:=cap) (lo:=lo) (hi:=some hi) (l:=l) (h:=some h) hlo' hl1 rfl (fun x hx=>⟨k2,h,by rw[<-aa hx,hhi],rfl⟩) hb1 hb2 hc;simp only[dn]at hbd;generalize l.getD 0=l at*;refine⟨.slice (some (if cap=l.toNat then⟨(φ id).bU,addr,none⟩else⟨(φ id).bU,addr+l.toNat*(φ id).sz,none⟩)) (h.toNat-l.toNat) (cap-l.toNat),?_,?_⟩
  .simp only[Instr.sliceAt,Instr.slice,Sem.run_bind,bp hu,Result.andThen_ok,hbd,eK hsz,Sem.run_pure];congr 2;split
   .rfl
   .simp [kL]
  .have hle:l.toNat<=cap:=by omega
   by_cases e:cap=l.toNat
   .rw [if_pos e];exact .dq hk (by omega) (fun h=>by omega) (by rw[<-e,Nat.sub_self];omega) (by omega)
   .rw [if_neg e];have ha:=haddr (by omega);refine .dq hk (by omega) (fun _=>?_) ?_ (by omega)
    .rw [ha,bv];omega
    .have:l.toNat*(φ id).sz+(cap-l.toNat)*(φ id).sz=cap*(φ id).sz:=by rw[<-bv];congr 1;omega
     omega
theorem C_{sz:Nat}{t:TypeId}{el:TypeId}{x a b c:Operand}(ho:o.op=.slice t x (some a) (some b) (some c))
  (hu:P.underlying t=some (.slice el)) (hsz:dN P el=some sz) (hI:Inv S K w0 Kn φ (au H) w) (hn0:nxt<n'->¬Kn nxt)
  (hρ:∀x tv,g_ e x=some tv->dO S w Kn φ tv (ρ x))
  (h:bN call (.vX sz) ([x,a,b,c].map (g_ e)) H nxt=some (v,u,ap,n')):ct P o ρ S K w0 w Kn φ (au H) nxt n' v u:=by
 simp only[aq,aR]at h;cases hx:g_ e x with
 |none=>rw[hx]at h;simp[bN]at h
 |some tv=>
  rw[hx]at h;cases tv with
  |agg cs=>simp[bN]at h
  |eU xs=>simp[bN]at h
  |c xc=>
   have hr:=hρ x _ hx;cases hr with
   |c hr=>
   change (match bL (g_ e a),bL (g_ e b),bL (g_ e c)with
    |some l,some u,some m=>(match F_ sz xc l u m nxt with|some y=>some (TV.c y,([]:dD),([]:List Nat),nxt+1)|none=>none)
    |_,_,_=>none)=_ at h
   split at h
   .rename_i l hh m hl hhh hm;obtain⟨k1,e1⟩:=fK hl (hρ a);obtain⟨k2,e2⟩:=fK hhh (hρ b);obtain⟨k3,e3⟩:=fK hm (hρ c);split at h
    .rename_i y hy;obtain⟨rfl,rfl,rfl,rfl⟩:TV.c y=v/\[]=u/\[]=ap/\nxt+1=n':=by simpa using h
     unfold F_ at hy;split at hy
     .rename_i sz' id off len;split at hy
      .rename_i hb;obtain⟨hb0,hb1,hb2,hb3,hb4⟩:=hb;obtain rfl:=aa hy;have hn:=hn0 (aS _);generalize hv0:ρ x=val at hr;cases hr with
       |@dq _ _ _ cap addr hk hcap haddr hext hcl=>
        subst hb0;have s1:=gB (P:=P) (w:=w) (v:=.int k3 m) (y:=cap) (code:=.slice3Acap) rfl (by omega) (by omega);have s2:=gB (P:=P) (w:=w) (v:=.int k2 hh) (y:=m.toNat) (code:=.slice3B) rfl (by omega) (by omega);have s3:=gB (P:=P) (w:=w) (v:=.int k1 l) (y:=hh.toNat) (code:=.slice3C) rfl (by omega) (by omega);have hbd:(Instr.sliceBounds true len cap (some (.int k1 l)) (some (.int k2 hh)) (some (.int k3 m))).run P w=.ok (l.toNat,hh.toNat,m.toNat) w:=by unfold Instr.sliceBounds;simp[s1,s2,s3]
        let loc:eG:=⟨(φ id).bU,if m.toNat=l.toNat then addr else addr+l.toNat*(φ id).sz,(φ id).sz,(φ id).ext,m.toNat-l.toNat⟩
        have hlt:l.toNat*(φ id).sz+(m.toNat-l.toNat)*(φ id).sz<=cap*(φ id).sz:=by rw[<-bv];exact aF _ (by omega)
        refine⟨.value (.slice (some (if m.toNat=l.toNat then⟨(φ id).bU,addr,none⟩else⟨(φ id).bU,addr+l.toNat*(φ id).sz,none⟩)) (hh.toNat-l.toNat) (m.toNat-l.toNat)),_,w,?_,.inl rfl,bg _,S,ext φ nxt loc,eM.refl _ _,⟨fun _ h=>.inl h,(fW _ hn).same⟩,.c ?_,?_⟩
        .simp only[execOp,ho,bh,hv0,e1,e2,e3,Instr.sliceAt,Instr.slice,Sem.run_bind,bp hu,Result.andThen_ok,hbd,eK hsz,Sem.run_pure];congr 3;split
         .rfl
         .simp [kL]
        .have e:ext φ nxt loc nxt=loc:=by simp[ext]
         have:=RC.dq (S:=S) (w:=w) (Kn:=kF Kn nxt (nxt+1)) (φ:=ext φ nxt loc) (id:=nxt) (off:=0) (len:=hh.toNat-l.toNat) (cap:=m.toNat-l.toNat) (addr:=loc.aL)
          (.inr (by omega)) (by omega) (by rw[e];simp) (by
           rw[e];show(if m.toNat=l.toNat then addr else addr+l.toNat*(φ id).sz)+(m.toNat-l.toNat)*(φ id).sz<=(φ id).ext;split
           .rename_i q;rw[q,Nat.sub_self];omega
           .omega) (by rw[e];exact bD _)
         rw[e]at this;have e4:(if m.toNat=l.toNat then(⟨(φ id).bU,addr,none⟩:Addr)else⟨(φ id).bU,addr+l.toNat*(φ id).sz,none⟩)=⟨(φ id).bU,if m.toNat=l.toNat then addr else addr+l.toNat*(φ id).sz,none⟩:=by split<;>rfl
         rw[e4];exact this
        .have hren:=fW (Kn:=Kn) (φ:=φ) loc hn;have:=hI.ll (eM.refl _ _) hren hI.pU hI.sk hI.j8 (hf':=au H) (fun i o ho=>.inl ⟨ho,fun hown=>⟨rfl,((hI.fC i o ho).2.bf hown).1⟩⟩) (fun i j a b hi hj oa ob hne=>by rw[hren.same _ (hI.fC i a hi).1,hren.same _ (hI.fC j b hj).1];exact hI.kJ i j a b hi hj oa ob hne) (hI.xT hren fun _ _=>rfl);exact this.qj fun j=>ky j
      .simp at hy
     .simp at hy
    .simp at h
   .simp at h
theorem yl{str:Bool}{sz:Nat}{t:TypeId}{x:Operand}{lo hi:Option Operand}(ho:o.op=.slice t x lo hi none)
  (hu:if str then P.underlying t=some .string else∃el,P.underlying t=some (.slice el)/\dN P el=some sz) (hI:Inv S K w0 Kn φ (au H) w)
  (hρ:∀x tv,g_ e x=some tv->dO S w Kn φ tv (ρ x))
  (h:bN call (.slice str sz lo.isSome hi.isSome) ((x::lo.toList++hi.toList).map (g_ e)) H nxt=some (v,u,ap,n')):ct P o ρ S K w0 w Kn φ (au H) nxt n' v u:=by
 simp only[List.cons_append,aq,List.map_append]at h;cases hx:g_ e x with
 |none=>rw[hx]at h;cases lo<;>cases hi<;>simp[bN]at h
 |some tv=>
  rw[hx]at h;cases tv with
  |agg cs=>cases lo<;>cases hi<;>simp[bN]at h
  |eU xs=>cases lo<;>cases hi<;>simp[bN]at h
  |c c=>
   have hr:=hρ x _ hx;cases hr with
   |c hr=>
   have fin:∀l h',lo.isSome=l.isSome->(∀y,lo=some y->bL (g_ e y)=l)->hi.isSome=h'.isSome->(∀y,hi=some y->bL (g_ e y)=h')->
     (match dX str sz c l h' with|some y=>some (TV.c y,([]:dD),([]:List Nat),nxt)|none=>none)=some (v,u,ap,n')->ct P o ρ S K w0 w Kn φ (au H) nxt n' v u:=by
    intro l h' e1 e2 e3 e4 hm;split at hm
    .rename_i y hy;obtain⟨rfl,rfl,rfl,rfl⟩:TV.c y=v/\[]=u/\[]=ap/\nxt=n':=by simpa using hm
     have conv:∀(q:Option Operand)(l:Option Int),q.isSome=l.isSome->(∀y,q=some y->bL (g_ e y)=l)->∀x,q.map ρ=some x->∃k n,x=.int k n/\l=some n:=by
      intro q l e1 e2 x hq;cases q with
      |none=>simp at hq
      |some y=>
       obtain rfl:ρ y=x:=by simpa using hq
       cases l with|none=>simp at e1|some n=>obtain⟨k,hk⟩:=fK (e2 y rfl) (hρ y);exact⟨k,n,hk,rfl⟩
     obtain⟨val',h1,h2⟩:=xO (P:=P) (lo:=lo.map ρ) (hi:=hi.map ρ) hu hr (by simpa using e1) (conv lo l e1 e2) (by simpa using e3) (conv hi h' e3 e4) hy;exact ct.pure hI (by simp[execOp,ho,h1]) (.c h2)
    .simp at hm
   cases lo with
   |none=>
    cases hi with
    |none=>exact fin none none rfl (fun y hy=>by simp at hy) rfl (fun y hy=>by simp at hy) h
    |some z=>
     change (match bL (g_ e z)with|some u=>(match dX str sz c none (some u)with|some y=>some (TV.c y,([]:dD),([]:List Nat),nxt)|none=>(match ki str sz c 0 u H with|some (y,ap)=>some (TV.c y,([]:dD),ap,nxt)|none=>none))|none=>none)=_ at h;split at h
     .rename_i n hn;split at h
      .rename_i y hy;exact fin none (some n) rfl (fun y hy=>by simp at hy) rfl (fun y hy=>aa hy▸hn) (by rw[hy];exact h)
      .split at h
       .rename_i y ids1 hy;obtain⟨rfl,rfl,_,rfl⟩:TV.c y=v/\[]=u/\ids1=ap/\nxt=n':=by simpa using h
        obtain⟨k2,e2⟩:=fK hn (hρ z);obtain⟨val',h1,h2⟩:=sM (P:=P) (t:=t) (lo:=none) (l:=none) hI hu hr rfl (fun x hx=>by simp at hx) e2 hy;exact ct.pure hI (by simp[execOp,ho,h1]) (.c h2)
       .simp at h
     .simp at h
   |some q=>
    cases hi with
    |none=>
     change (match bL (g_ e q)with|some l=>(match dX str sz c (some l) none with|some y=>some (TV.c y,([]:dD),([]:List Nat),nxt)|none=>none)|none=>none)=_ at h;split at h
     .rename_i n hn;exact fin (some n) none rfl (fun y hy=>aa hy▸hn) rfl (fun y hy=>by simp at hy) h
     .simp at h
    |some z=>
     change (match bL (g_ e q),bL (g_ e z)with
      |some l,some u=>(match dX str sz c (some l) (some u)with
       |some y=>some (TV.c y,([]:dD),([]:List Nat),nxt)
       |none=>(match ki str sz c l u H with|some (y,ap)=>some (TV.c y,([]:dD),ap,nxt)|none=>none))
      |_,_=>none)=_ at h
     split at h
     .rename_i m n hm hn;split at h
      .rename_i y hy;exact fin (some m) (some n) rfl (fun y hy=>aa hy▸hm) rfl (fun y hy=>aa hy▸hn) (by rw[hy];exact h)
      .split at h
       .rename_i y ids1 hy;obtain⟨rfl,rfl,_,rfl⟩:TV.c y=v/\[]=u/\ids1=ap/\nxt=n':=by simpa using h
        obtain⟨k1,e1⟩:=fK hm (hρ q);obtain⟨k2,e2⟩:=fK hn (hρ z);obtain⟨val',h1,h2⟩:=sM (P:=P) (t:=t) (lo:=some (ρ q)) (l:=some m) hI hu hr rfl (fun x hx=>⟨k1,m,by rw[<-aa hx,e1],rfl⟩) e2 hy;exact ct.pure hI (by simp[execOp,ho,h1]) (.c h2)
       .simp at h
     .simp at h
theorem qc{t:TypeId}{x i:Operand}{aH:Option Nat}{sz:Nat}(ho:o.op=.indexAddr t x i)
  (hu:match aH with|none=>∃el,P.underlying t=some (.slice el)/\dN P el=some sz|some len=>∃el,P.underlying t=some (.array len el)/\dN P el=some sz)
  (hI:Inv S K w0 Kn φ (au H) w) {tx ti:Option TV} (hx:∀y,tx=some y->dO S w Kn φ y (ρ x)) (hi:∀y,ti=some y->dO S w Kn φ y (ρ i))
  (h:bN call (.indexAddr aH sz) [tx,ti] H nxt=some (v,u,ap,n')):ct P o ρ S K w0 w Kn φ (au H) nxt n' v u:=by
 match tx,h,hx with
 |some (.c c),h,hx=>
  change (match bL ti with|some i=>(match fG aH sz c i with|some y=>some (TV.c y,([]:dD),([]:List Nat),nxt)|none=>none)|none=>none)=_ at h;split at h
  .rename_i n hn;obtain⟨k,hk⟩:=fK hn hi;split at h
   .rename_i y hy;obtain⟨rfl,rfl,rfl,rfl⟩:TV.c y=v/\[]=u/\[]=ap/\nxt=n':=by simpa using h
    have hr:=hx _ rfl;generalize hv0:ρ x=val at hr;cases hr with
    |c hr=>
    cases aH with
    |none=>
     obtain⟨el,hu,hsz⟩:=hu;simp only[fG]at hy;have run:∀b off len cap,val=.slice (some ⟨b,off,none⟩) len cap->0<=n->n<len->(execOp ρ o).run P w=.ok (.value (.pointer (some ⟨b,off+n.toNat*sz,none⟩))) w:=by intro b off len cap hv h0 h1;simp[execOp,ho,hv0,hv,Instr.indexAt,jy hk,bp hu,h0,h1,eK hsz,kL]
     split at hy
     .rename_i sz' id off len;split at hy
      .rename_i hb;obtain⟨h0,h1,rfl⟩:=hb;obtain rfl:=aa hy;cases hr with
       |@dq _ _ _ cap addr hkn hcap haddr hext=>
        refine ct.pure hI (run _ _ _ _ rfl h0 h1) (.c ?_);have ha:=haddr (by omega);have e1:addr+n.toNat*(φ id).sz=(φ id).aL+(off+n.toNat)*(φ id).sz+0:=by rw[ha,bv];omega
        rw[e1];exact .ep hkn
      .simp at hy
     .rename_i sz' rows;split at hy
      .rename_i hb;obtain⟨h0,rfl⟩:=hb;split at hy
       .rename_i r hr';obtain rfl:=aa hy;cases hr with
        |d hd=>cases hd with|@sl _ _ b off cap g hb hsz0 hcap hrow hcell hrd=>have hlt:n.toNat<rows.length:=(ah.1 hr').1;refine ct.pure hI (run _ _ _ _ rfl h0 (by omega)) (.c (.d (.sS hb fun j z hj=>⟨_,hcell _ _ hr' j z hj,hrd _ _ hr' j z hj⟩)))|nV=>simp at hr'
       .simp at hy
      .simp at hy
     .simp at hy
    |some len=>
     obtain⟨el,hu,hsz⟩:=hu;simp only[fG]at hy;split at hy
     .rename_i hb;obtain⟨h0,h1⟩:=hb;have run:∀b off,val=.pointer (some ⟨b,off,none⟩)->(execOp ρ o).run P w=.ok (.value (.pointer (some ⟨b,off+n.toNat*sz,none⟩))) w:=by intro b off hv;have hu':∀w,(underlying t).run P w=.ok (.array len el) w:=bp hu;simp only[execOp,ho,hv0,hv,Instr.indexAt,Sem.run_bind,jy hk,Result.andThen_ok,hu',Instr.sureAddr,Sem.run_pure,h0,h1,and_self,if_true,eK hsz,kL]
      split at hy
      .rename_i id off;obtain rfl:=aa hy;cases hr with|op hkn=>refine ct.pure hI (run _ _ rfl) (.c ?_);rw[cg];exact .op hkn
      .rename_i id dv off;obtain rfl:=aa hy;cases hr with|ep hkn=>refine ct.pure hI (run _ _ rfl) (.c ?_);rw[cg];exact .ep hkn
      .rename_i cells;split at hy
       .obtain rfl:=aa hy;cases hr with
        |d hd=>
         cases hd with
         |@pt _ b off g hb hcell hrd=>
          refine ct.pure hI (run _ _ rfl) (.c (.d (.sS hb fun j z hj=>?_)));rw[dh]at hj;split at hj
          .rw [bw]at hj;exact⟨_,by rw[cg];exact hcell _ _ hj,hrd _ _ hj⟩
          .simp at hj
       .simp at hy
      .simp at hy
     .simp at hy
   .simp at h
  .simp at h
theorem yo{t:TypeId}{x i:Operand}(ho:o.op=.index t x i)(hu:P.underlying t=some .string)(hI:Inv S K w0 Kn φ (au H) w)
  {tx ti:Option TV} (hx:∀y,tx=some y->dO S w Kn φ y (ρ x)) (hi:∀y,ti=some y->dO S w Kn φ y (ρ i))
  (h:bN call .lA [tx,ti] H nxt=some (v,u,ap,n')):ct P o ρ S K w0 w Kn φ (au H) nxt n' v u:=by
 match tx,h,hx with
 |some (.c (.d (.lit (.string s)))),h,hx=>
  change (match bL ti with|some i=>(match(if 0<=i then s[i.toNat]?else none)with|some b=>some (lv (.int .u8 b.toNat),([]:dD),([]:List Nat),nxt)|none=>none)|none=>none)=_ at h;split at h
  .rename_i n hn;obtain⟨k,hk⟩:=fK hn hi;split at h
   .rename_i b hb;obtain⟨rfl,rfl,rfl,rfl⟩:lv (.int .u8 b.toNat)=v/\[]=u/\[]=ap/\nxt=n':=by simpa using h
    obtain⟨hv,_⟩:=(hx _ rfl).lit;exact ct.pure hI (by simp[execOp,ho,hv,Instr.index,jy hk,bp hu,hb]) (.mh rfl)
   .simp at h
  .simp at h
theorem xN{t:TypeId}{agg:Bool}{n off:Nat}(ha:dY P t=some agg)(hn:dN P t=some n){cs:List C}{aH:Array Value}{v:TV}(hlen:cs.length=aH.size)
  (hc:∀(i:Nat)(x:C),cs[i]?=some x->RC S w Kn φ x (aH.getD i undef)) (h:yN agg n (cs.drop off)=some v):∃val,(part t aH off).run P w=.ok val w/\dO S w Kn φ v val:=by
 unfold yN at h;cases agg with
 |true=>
  simp only[if_true]at h;split at h
  .rename_i hle;obtain rfl:=aa h;simp only[List.length_drop]at hle;refine⟨.agg (aH.extract off (off+n)),by simp[part,oP ha,eK hn],.agg ?_ fun i x hi=>?_⟩
   .simp;omega
   .rw [dh]at hi;split at hi
    .rename_i hin;rw[bw]at hi;have hlt:off+i<aH.size:=by rw[<-hlen];exact(ah.1 hi).1
     have e1:(aH.extract off (off+n)).getD i undef=aH.getD (off+i) undef:=by
      have h1:(aH.extract off (off+n))[i]?=aH[off+i]?:=by rw[Array.getElem?_extract,if_pos (by omega)]
      simp only[Array.getD_eq_getD_getElem?,h1]
     rw[e1];exact hc _ _ hi
    .simp at hi
  .simp at h
 |false=>
  simp only[aM,if_false]at h;split at h
  .rename_i x r hd;obtain rfl:=aa h;have hx:cs[off]?=some x:=by have:=congrArg (fun l=>l[0]?) hd;simpa using this
   have hlt:off<aH.size:=by rw[<-hlen];exact(ah.1 hx).1
   refine⟨aH.getD off undef,?_,.c (hc _ _ hx)⟩;simp[part,oP ha,hlt]
  .simp at h
theorem E5{s:TypeId}{f n:Nat}{agg:Bool}{fields:Array Field}{fl:Field}{x:Operand}(ho:o.op=.field s x f)(hu:P.underlying s=some (.struct fields))(hf:fields[f]?=some fl)
  (ha:dY P fl.type=some agg) (hs:dN P fl.type=some n) (hI:Inv S K w0 Kn φ (au H) w) {tv:Option TV} (hx:∀y,tv=some y->dO S w Kn φ y (ρ x))
  (h:bN call (.field agg fl.offset n) [tv] H nxt=some (v,u,ap,n')):ct P o ρ S K w0 w Kn φ (au H) nxt n' v u:=by
 match tv,h,hx with
 |some (.agg cs),h,hx=>
  change (match yN agg n (cs.drop fl.offset)with|some v=>some (v,([]:dD),([]:List Nat),nxt)|none=>none)=_ at h;split at h
  .rename_i y hy;obtain⟨rfl,rfl,rfl,rfl⟩:y=v/\[]=u/\[]=ap/\nxt=n':=by simpa using h
   have hr:=hx _ rfl;generalize hv0:ρ x=val at hr;cases hr with|agg hlen hc=>obtain⟨val,h1,h2⟩:=xN ha hs hlen hc hy;exact ct.pure hI (by simp[execOp,ho,hv0,Instr.field,bp hu,hf,asAgg,h1]) h2
  .simp at h
theorem E4{t el:TypeId}{len n:Nat}{agg:Bool}{x i:Operand}(ho:o.op=.index t x i)(hu:P.underlying t=some (.array len el))
  (ha:dY P el=some agg) (hs:dN P el=some n) (hI:Inv S K w0 Kn φ (au H) w) {tx ti:Option TV} (hx:∀y,tx=some y->dO S w Kn φ y (ρ x)) (hi:∀y,ti=some y->dO S w Kn φ y (ρ i))
  (h:bN call (.index agg len n) [tx,ti] H nxt=some (v,u,ap,n')):ct P o ρ S K w0 w Kn φ (au H) nxt n' v u:=by
 match tx,h,hx with
 |some (.agg cs),h,hx=>
  change (match bL ti with|some i=>(if 0<=i/\i<len then(match yN agg n (cs.drop (i.toNat*n))with|some v=>some (v,([]:dD),([]:List Nat),nxt)|none=>none)else none)|none=>none)=_ at h;split at h
  .rename_i m hm;obtain⟨k,hk⟩:=fK hm hi;split at h
   .rename_i hb;split at h
    .rename_i y hy;obtain⟨rfl,rfl,rfl,rfl⟩:y=v/\[]=u/\[]=ap/\nxt=n':=by simpa using h
     have hr:=hx _ rfl;generalize hv0:ρ x=val at hr;cases hr with|agg hlen hc=>obtain⟨val,h1,h2⟩:=xN ha hs hlen hc hy;exact ct.pure hI (by simp[execOp,ho,hv0,Instr.index,jy hk,bp hu,hb.1,hb.2,eK hs,h1]) h2
    .simp at h
   .simp at h
  .simp at h
end
section
variable{P:Program}{S K:Nat->Prop}{w0 w:World}{Kn:Nat->Prop}{φ:Nat->eG}{H:bl}{e:gy}{ρ:Operand->Value}{o:Oper}{call:Call}
 {nxt n':Nat} {v:TV} {u:dD} {ap:List Nat}
def H6(m:Bool):Value->Value->Sem Value:=if m then Builtin.max2 else Builtin.min2
theorem I7{m:Bool}{k:FloatKind}{a b:Nat}(hn:rH k a)(hm:rH k b)(y:Value):ux m (.float k a) y=ux m (.float k b) y:=by cases y with|float k' y=>unfold ux;obtain⟨_,_,_,_,a5⟩:=B3 hn y;obtain⟨_,_,_,_,b5⟩:=B3 hm y;simp only[a5,b5]|_=>rfl
theorem I6{m:Bool}{k:FloatKind}{a b:Nat}(hn:rH k a)(hm:rH k b)(y:Value):ux m y (.float k a)=ux m y (.float k b):=by
 cases y with
 |float k' y=>
  by_cases hk:k'=k
  .subst hk;unfold ux;obtain⟨_,_,_,_,a5⟩:=B2 hn y;obtain⟨_,_,_,_,b5⟩:=B2 hm y;simp only[a5,b5]
  .unfold ux;simp only[if_neg hk]
 |_=>rfl
theorem Dm{m:Bool}{a b va vb v:Value}(ha:nd a va)(hb:nd b vb)(h:ux m a b=some v):ux m va vb=some v:=by
 cases ha with
 |ex=>cases hb<;>(unfold ux at h;cases h)
 |jk=>exfalso;unfold ux at h;cases b<;>cases h
 |lit _=>cases hb with|lit _=>exact h|nan hn hm=>rw[<-I6 hn hm];exact h|ex=>exfalso;unfold ux at h;cases a<;>cases h|jk=>exfalso;unfold ux at h;cases a<;>cases h
 |nan hn hm=>cases hb with|lit _=>rw[<-I7 hn hm];exact h|nan hn' hm'=>rw[<-I7 hn hm,<-I6 hn' hm'];exact h|ex=>unfold ux at h;cases h|jk=>unfold ux at h;cases h
theorem Hn{m:Bool}{x y z:Value}(h:ux m x y=some z):∃z' n,(H6 m x y).run P w=.ok z' {w with drawn:=n}/\w.drawn<=n/\nd z z':=by
 have key:(H6 m x y).run P w=.ok z w/\ck z=true->∃z' n,(H6 m x y).run P w=.ok z' {w with drawn:=n}/\w.drawn<=n/\nd z z':=fun h=>⟨z,w.drawn,h.1,ak _,.lit h.2⟩;unfold ux at h;split at h
 .rename_i k a k' b;split at h
  .obtain rfl:=aa h;refine key ?_;cases m<;>simp[H6,Builtin.max2,Builtin.min2,ck]
  .simp at h
 .rename_i k a k' b;split at h
  .rename_i hk;subst hk;split at h
   .rename_i ho;obtain rfl:=aa h;refine⟨.float k ((Question.nanMinMax k m a b).cut (w.tape w.drawn (.nanMinMax k m a b))),w.drawn+1,?_,bg _,.nan (yS k) ?_⟩
    .cases m<;>simp[H6,Builtin.max2,Builtin.min2,ho,run_choose,Question.forced]
    .have:∀t,(Question.nanMinMax k m a b).cut t=(Question.nanBits k a b).cut t:=by intro t;cases k<;>rfl
     rw[this];exact Ce _ _ _ _
   .rename_i ho;obtain rfl:=aa h;refine key ?_;cases m<;>simp[H6,Builtin.max2,Builtin.min2,ck,ho]
   .rename_i ho;obtain rfl:=aa h;refine key ?_;cases m<;>simp[H6,Builtin.max2,Builtin.min2,ck,ho]
   .rename_i ho;obtain rfl:=aa h;refine key ?_;cases m<;>simp[H6,Builtin.max2,Builtin.min2,ck,ho]
  .simp at h
 .simp at h
theorem Hm{m:Bool}(hρ:∀x y,g_ e x=some (.c (.d (.lit y)))->nd y (ρ x)):∀(r:List Operand)(x z vx:Value)(w:World),nd x vx->Fi m x (r.map (g_ e))=some z->
  ∃z' n,((r.map ρ).foldlM (H6 m) vx).run P w=.ok z' {w with drawn:=n}/\w.drawn<=n/\nd z z':=by
 intro r;induction r with
 |nil=>
  intro x z vx w hx h;obtain rfl:x=z:=by simpa[Fi]using h
  exact⟨vx,w.drawn,rfl,ak _,hx⟩
 |cons a r ih=>
  intro x z vx w hx h;simp only[aq]at h|-
  match ha:g_ e a,h with
  |some (.c (.d (.lit y))),h=>
   simp only[Fi]at h;split at h
   .rename_i z' hz;have hz:=Dm hx (hρ a _ ha) hz;obtain⟨z1,n1,h1,l1,e1⟩:=Hn (P:=P) (w:=w) hz;obtain⟨z2,n2,h3,l2,e2⟩:=ih z' z z1 {w with drawn:=n1} e1 h;refine⟨z2,n2,?_,Nat.le_trans l1 l2,e2⟩;simp only[List.foldlM_cons,Sem.run_bind,h1,Result.andThen_ok,h3]
   .simp at h
theorem u4{m:Bool}{c:j6}(ho:o.op=.call c)(hcal:c.callee=.builtin (if m then .max else .min))(hI:Inv S K w0 Kn φ (au H) w)
  (hρ:∀x tv,g_ e x=some tv->dO S w Kn φ tv (ρ x)) (h:bN call (.ne m) (c.args.toList.map (g_ e)) H nxt=some (v,u,ap,n')):ct P o ρ S K w0 w Kn φ (au H) nxt n' v u:=by
 generalize hargs:c.args.toList=args at h;cases args with
 |nil=>simp[bN]at h
 |cons a r=>
  simp only[aq]at h
  match ha:g_ e a,h with
  |some (.c (.d (.lit x))),h=>
   change (match Fi m x (r.map (g_ e))with|some v=>some (lv v,([]:dD),([]:List Nat),nxt)|none=>none)=_ at h;split at h
   .rename_i z hz;obtain⟨rfl,rfl,rfl,rfl⟩:lv z=v/\[]=u/\[]=ap/\nxt=n':=by simpa using h
    obtain⟨z',n,h1,hle,h4⟩:=Hm (P:=P) (fun x y hx=>(hρ x _ hx).Di) r x z _ w (hρ a _ ha).Di hz;have e1:List.map ρ c.args.toList=ρ a::r.map ρ:=by rw[hargs,aq]
    refine⟨.value z',z',_,?_,.inl rfl,ak _,S,φ,eM.pf _ _ _,lT _ _,.AB h4,(hI.pf n hle).kn fun _ hi=>.inl hi⟩;cases m
    .simp only[aM,if_false]at hcal;have h1':((r.map ρ).foldlM Builtin.min2 (ρ a)).run P w=.ok z' {w with drawn:=n}:=h1;simp[execOp,ho,hcal,resolve,invoke,builtin,Builtin.min_,e1,h1']
    .simp only[if_true]at hcal;have h1':((r.map ρ).foldlM Builtin.max2 (ρ a)).run P w=.ok z' {w with drawn:=n}:=h1;simp[execOp,ho,hcal,resolve,invoke,builtin,Builtin.max_,e1,h1']
   .simp at h
def CR(S:Nat->Prop)(w:World)(Kn:Nat->Prop)(φ:Nat->eG)(cs:List C)(vs:List Value):Prop:=cs.length=vs.length/\∀(i:Nat)(x:C)(y:Value),cs[i]?=some x->vs[i]?=some y->RC S w Kn φ x y
theorem CR.aV{cs ds:List C}{vs us:List Value}(h1:CR S w Kn φ cs vs)(h2:CR S w Kn φ ds us)(off:Nat)(hfit:off+ds.length<=cs.length):
  CR S w Kn φ (aV cs off ds) (aV vs off us):=by
 have hl1:=h1.1;have hl2:=h2.1;refine⟨by rw[c8 _ _ _ hfit,c8 _ _ _ (by omega)];exact h1.1,fun i x y hx hy=>?_⟩;rw[gu _ _ _ hfit]at hx;rw[gu _ _ _ (by omega)]at hy;by_cases c1:i<off
 .rw [if_pos c1]at hx hy;exact h1.2 i x y hx hy
 .rw [if_neg c1]at hx hy;by_cases c2:i<off+ds.length
  .rw [if_pos c2]at hx;rw[if_pos (by omega)]at hy;exact h2.2 _ x y hx hy
  .rw [if_neg c2]at hx;rw[if_neg (by omega)]at hy;exact h1.2 i x y hx hy
theorem dO.cr{tv:TV}{val:Value}{cs:List C}(h:dO S w Kn φ tv val)(hc:cellsOf tv=some cs):CR S w Kn φ cs val.cells.toList:=by
 obtain⟨h1,h2,_⟩:=h.cells hc;refine⟨by simpa using h1,fun i x y hx hy=>?_⟩;have:=h2 i x hx;have e1:val.cells.getD i undef=y:=by rw[aU]at hy;simp[hy]
 rwa[e1]at this
theorem tV{cs:List C}{aH:Array Value}(h:CR S w Kn φ cs aH.toList):cs.length=aH.size/\∀(i:Nat)(x:C),cs[i]?=some x->RC S w Kn φ x (aH.getD i undef):=by
 have hl:cs.length=aH.size:=by simpa using h.1
 refine⟨hl,fun i x hx=>?_⟩;have hlt:i<aH.size:=by rw[<-hl];exact(ah.1 hx).1
 refine h.2 i x _ hx ?_;simp[hlt]
theorem Fx:∀(l:List Value)(k:Nat)(aH:Array Value)(off:Nat),off+k+l.length<=aH.size->
  ((l.zipIdx k).foldl (fun(cs:Array Value)(p:Value×Nat)=>cs.setIfInBounds (off+p.2) p.1) aH).toList=aV aH.toList (off+k) l:=by
 intro l;induction l with
 |nil=>intro k aH off _;simp[aV]
 |cons a l ih=>
  intro k aH off hfit;simp only[cz]at hfit;simp only[List.zipIdx_cons,List.foldl_cons];rw[ih (k+1) (aH.setIfInBounds (off+k) a) off (by simp;omega)];apply List.ext_getElem?;intro i;rw[gu _ _ _ (by simp;omega),gu _ _ _ (by simp;omega)];simp only[Array.toList_setIfInBounds,List.getElem?_set,cz];by_cases c1:i<off+k
  .have c3:i<off+(k+1):=by omega
   have c4:¬off+k=i:=by omega
   simp[c1,c3,c4]
  .by_cases c2:i=off+k
   .subst c2;have:off+k<off+(k+1):=by omega
    have c5:off+k<aH.size:=by omega
    simp[this,c5]
   .have c3:¬i<off+(k+1):=by omega
    have c4:¬off+k=i:=by omega
    by_cases c5:i<off+k+(l.length+1)
    .have c6:i<off+(k+1)+l.length:=by omega
     have c7:i-(off+k)=(i-(off+(k+1)))+1:=by omega
     simp[c1,c3,c5,c6,c7]
    .have c6:¬i<off+(k+1)+l.length:=by omega
     simp[c1,c3,c4,c5,c6]
theorem IL(vs aH:Array Value)(off:Nat)(hfit:off+vs.size<=aH.size):
  (vs.zipIdx.foldl (fun(cs:Array Value)(p:Value×Nat)=>cs.setIfInBounds (off+p.2) p.1) aH).toList=aV aH.toList off vs.toList:=by
 rw[<-Array.foldl_toList,Array.toList_zipIdx];have:=Fx vs.toList 0 aH off (by simpa using hfit);simpa using this
theorem pM(place:Nat->Option (Nat×Nat)):∀(parts:List (Nat×Operand))(pl:List (Nat×Nat))(xs:List TV)(cs cs':List C)(aH:Array Value),
  pl.length=parts.length->(∀(i:Nat)(p:Nat×Operand)(q:Nat×Nat),parts[i]?=some p->pl[i]?=some q->place p.1=some q)->
  xs.length=parts.length->(∀(i:Nat)(p:Nat×Operand)(x:TV),parts[i]?=some p->xs[i]?=some x->dO S w Kn φ x (ρ p.2))->
  CR S w Kn φ cs aH.toList->ig cs (pl.zip xs)=some cs'->
  ∃arr',Instr.fill place aH (parts.map fun p=>(p.1,ρ p.2))=some arr'/\CR S w Kn φ cs' arr'.toList:=by
 intro parts;induction parts with
 |nil=>
  intro pl xs cs cs' aH h1 _ h2 _ hcr h;have e1:pl=[]:=List.length_eq_zero_iff.1 h1;subst e1;obtain rfl:cs=cs':=by simpa[ig]using h
  exact⟨aH,rfl,hcr⟩
 |cons p parts ih=>
  intro pl xs cs cs' aH h1 hpl h2 hxs hcr h;cases pl with
  |nil=>simp at h1
  |cons q pl=>
   cases xs with
   |nil=>simp at h2
   |cons x xs=>
    obtain⟨off,n⟩:=q;simp only[List.zip_cons_cons,ig]at h;split at h
    .rename_i ds hds;split at h
     .rename_i hb;obtain⟨hb1,hb2⟩:=hb;have hp:=hpl 0 p (off,n) rfl rfl;have hx:=(hxs 0 p x rfl rfl).cr hds;have hsz:(ρ p.2).cells.size=n:=by have:=hx.1;simp at this;omega
      have hal:cs.length=aH.size:=by simpa using hcr.1
      have hcr':=hcr.aV hx off (by omega);rw[<-IL (ρ p.2).cells aH off (by omega)]at hcr'
      obtain⟨arr',h3,h4⟩:=ih pl xs _ cs' _ (by simpa using h1) (fun i p q hp hq=>hpl (i+1) p q (by simpa using hp) (by simpa using hq)) (by simpa using h2)
       (fun i p x hp hx=>hxs (i+1) p x (by simpa using hp) (by simpa using hx)) hcr' h
      refine⟨arr',?_,h4⟩;simp only[aq,Instr.fill,hp];rw[if_neg (by simp[hsz];omega)];exact h3
     .simp at h
    .simp at h
theorem wu{z:List Value}(hp:∀x∈z,ck x=true):CR S w Kn φ (dk z) z:=by refine⟨by simp[dk],fun i x y hx hy=>?_⟩;simp only[dk,aB,hy,bh]at hx;obtain rfl:=aa hx;exact .d (.lit (hp y (aT hy)))
theorem Ao{fields:Array Field}:∀{is:List Nat}{pl:List (Nat×Nat)},my P fields is=some pl->pl.length=is.length/\
  ∀(k i:Nat)(q:Nat×Nat),is[k]?=some i->pl[k]?=some q->∃f,fields[i]?=some f/\q.1=f.offset/\dN P f.type=some q.2:=by
 intro is;induction is with
 |nil=>
  intro pl h;obtain rfl:[]=pl:=by simpa[my]using h
  exact⟨rfl,fun k i q hk=>by simp at hk⟩
 |cons i is ih=>
  intro pl h;simp only[my]at h;split at h
  .rename_i f l hf hl;split at h
   .rename_i n hn;obtain rfl:=aa h;obtain⟨h1,h2⟩:=ih hl;refine⟨by simp[h1],fun k j q hk hq=>?_⟩;cases k with
    |zero=>
     obtain rfl:i=j:=by simpa using hk
     obtain rfl:(f.offset,n)=q:=by simpa using hq
     exact⟨f,hf,rfl,hn⟩
    |succ k=>exact h2 k j q (by simpa using hk) (by simpa using hq)
   .simp at h
  .simp at h
theorem Ac(g:Field->Nat×Nat):∀(l:List Field),(∀f∈l,∃n,dN P f.type=some n/\g f=(f.offset,n))->
  (l.mapM fun f=>(do pure (f.offset,<-sizeOf f.type):Sem (Nat×Nat))).run P w=.ok (l.map g) w:=by
 intro l;induction l with|nil=>intro _;rfl|cons f l ih=>intro h;obtain⟨n,hn,hg⟩:=h f (by simp);have:=ih fun f hf=>h f (by simp[hf]);simp only[List.mapM_cons,Sem.run_bind,eK hn,Result.andThen_ok,Sem.run_pure,this,aq,hg]
theorem yt{t:TypeId}{parts:Array (Nat×Operand)}{z:List Value}{pl:List (Nat×Nat)}(ho:o.op=.build t parts)(hz:gr P t=some z)
  (hu:(∃fields,P.underlying t=some (.struct fields)/\my P fields (parts.toList.map (·.1))=some pl/\fields.toList.all (fun f=>(dN P f.type).isSome)=true)\/
   (∃len el n,P.underlying t=some (.array len el)/\dN P el=some n/\pl=parts.toList.map fun p=>(p.1*n,n)))
  (hI:Inv S K w0 Kn φ (au H) w) (hρ:∀x tv,g_ e x=some tv->dO S w Kn φ tv (ρ x))
  (h:bN call (.build z pl) ((parts.toList.map (·.2)).map (g_ e)) H nxt=some (v,u,ap,n')):ct P o ρ S K w0 w Kn φ (au H) nxt n' v u:=by
 change (match cT ((parts.toList.map (·.2)).map (g_ e))with
  |some xs=>(match ig (dk z) (pl.zip xs)with|some cs=>some (TV.agg cs,([]:dD),([]:List Nat),nxt)|none=>none)
  |none=>none)=_ at h
 split at h
 .rename_i xs hxs;split at h
  .rename_i cs hcs;obtain⟨rfl,rfl,rfl,rfl⟩:TV.agg cs=v/\[]=u/\[]=ap/\nxt=n':=by simpa using h
   obtain⟨hl,hr⟩:=oG hρ hxs;obtain⟨zv,hzr,hzl,hzp⟩:=kq hz w
   have key:∀place:Nat->Option (Nat×Nat),pl.length=parts.toList.length->(∀(i:Nat)(p:Nat×Operand)(q:Nat×Nat),parts.toList[i]?=some p->pl[i]?=some q->place p.1=some q)->
     ∃arr',Instr.fill place zv.cells ((parts.map fun p=>(p.1,ρ p.2)).toList)=some arr'/\CR S w Kn φ cs arr'.toList:=by
    intro place h1 h2
    have:=pM (S:=S) (w:=w) (Kn:=Kn) (φ:=φ) (ρ:=ρ) place parts.toList pl xs (dk z) cs zv.cells h1 h2 (by simpa using hl) (fun i p x hp hx=>hr i p.2 x (by simp only[aB,hp,bh]) hx)
     (by rw[hzl];exact wu hzp) hcs
    simpa using this
   rcases hu with⟨fields,hu,hpl,hall⟩|⟨len,el,n,hu,hn,rfl⟩
   .obtain ⟨h1,h2⟩:=Ao hpl;let g:Field->Nat×Nat:=fun f=>(f.offset,(dN P f.type).getD 0)
    have hg:(fields.mapM fun f=>(do pure (f.offset,<-sizeOf f.type):Sem (Nat×Nat))).run P w=.ok (fields.map g) w:=by
     rw[Array.mapM_eq_mapM_toList];have:=Ac (P:=P) (w:=w) g fields.toList fun f hf=>by have:=aQ.1 hall f hf;obtain⟨n,hn⟩:=Option.isSome_iff_exists.1 this;exact⟨n,hn,by simp[g,hn]⟩
     simp only[Sem.run_map,this,Result.andThen_ok];congr 1;apply Array.ext';rw[Array.toList_map]
    obtain⟨arr',h3,h4⟩:=key (fun i=>(fields.map g)[i]?) (by simpa using h1) (fun i p q hp hq=>by obtain⟨f,hf,hq1,hq2⟩:=h2 i p.1 q (by simp only[aB,hp,bh]) hq;simp only[Array.getElem?_map,hf,bh,g,hq2,dn,<-hq1]);obtain⟨h5,h6⟩:=tV h4;refine ct.pure (val:=.agg arr') hI ?_ (.agg h5 h6);simp only[execOp,ho,Sem.run_bind,Instr.build,hzr,Result.andThen_ok,bp hu,hg,h3,Sem.run_pure]
   .obtain ⟨arr',h3,h4⟩:=key (fun i=>some (i*n,n)) (by simp) (fun i p q hp hq=>by simp only[aB,hp,bh]at hq;exact hq);obtain⟨h5,h6⟩:=tV h4;refine ct.pure (val:=.agg arr') hI ?_ (.agg h5 h6);simp only[execOp,ho,Sem.run_bind,Instr.build,hzr,Result.andThen_ok,bp hu,eK hn,h3,Sem.run_pure]
  .simp at h
 .simp at h
theorem hO.from{S1:Nat->Prop}{hf hf1:Nat->Option Ob}{u1 u2:dD}{val:Value}{w':World}(hs:eM S w S1 w)(he:hf1=a_ u1 hf)(h:hO S1 K w0 w Kn φ hf1 nxt n' v u2 val w'):
  hO S K w0 w Kn φ hf nxt n' v (u2++u1) val w':=by
 obtain⟨h1,S',φ',h2,h3,h4,h5⟩:=h;exact⟨h1,S',φ',hs.trans h2,h3,h4,by rw[cK,<-he];exact h5⟩
theorem Be{α:Type}(sz:Nat):∀(n:Nat)(l:List α),n*sz<=l.length->(js sz n l).length=n/\∀i r,(js sz n l)[i]?=some r->r=(l.drop (i*sz)).take sz/\r.length=sz:=by
 intro n;induction n with
 |zero=>intro l _;exact⟨rfl,fun i r hi=>by simp[js]at hi⟩
 |succ n ih=>
  intro l hl;have e1:(n+1)*sz=n*sz+sz:=cM n sz;obtain⟨h1,h2⟩:=ih (l.drop sz) (by simp;omega);refine⟨by simp[js,h1],fun i r hi=>?_⟩;cases i with
  |zero=>
   obtain rfl:l.take sz=r:=by simpa[js]using hi
   exact⟨by simp,by simp;omega⟩
  |succ i=>obtain⟨h3,h4⟩:=h2 i r (by simpa[js]using hi);refine⟨?_,h4⟩;rw[h3,List.drop_drop];congr 2;rw[cM];omega
theorem nN{zc:Array Value}{z:List Value}{sz n:Nat}(hz:zc.toList=z)(hl:z.length=sz)(hpos:0<sz):
  ((gN n).map (fun i=>zc[i %zc.size]!)).toList=(dz n).map fun i=>z.getD (i %sz) undef:=by
 simp only[Array.toList_map,Array.toList_range];apply List.map_congr_left;intro i _;have e1:zc.size=sz:=by rw[<-hl,<-hz];simp
 have hlt:i %sz<zc.size:=by rw[e1];exact Nat.mod_lt _ hpos
 rw[e1,<-hz];have:i %sz<zc.toList.length:=by simpa using hlt
 simp[hlt]
theorem uv{t el:TypeId}{len n:Nat}{parts:Array (Nat×Operand)}{z:List Value}(ho:o.op=.buildSlice t len parts)(hu:P.underlying t=some (.slice el))
  (hs:dN P el=some (n+1)) (hz:gr P el=some z) (hlim:len*(n+1)<=4096/\z.length=n+1)
  (hI:Inv S K w0 Kn φ (au H) w) (hn0:nxt<n'->¬Kn nxt) (hρ:∀x tv,g_ e x=some tv->dO S w Kn φ tv (ρ x))
  (h:bN call (.buildSlice (n+1) len ((dz (len*(n+1))).map fun i=>z.getD (i %(n+1)) undef) (parts.toList.map (·.1))) ((parts.toList.map (·.2)).map (g_ e)) H nxt=some (v,u,ap,n')):
  ct P o ρ S K w0 w Kn φ (au H) nxt n' v u:=by
 generalize hzs:((dz (len*(n+1))).map fun i=>z.getD (i %(n+1)) undef)=zs at h
 change (match cT ((parts.toList.map (·.2)).map (g_ e))with
  |some xs=>
   (match ig (dk zs) (((parts.toList.map fun(p:Nat×Operand)=>p.1).map fun i=>(i*(n+1),n+1)).zip xs)with
   |some cs=>
    (match cH H cs with
    |some (ds,ap)=>(match cq H ap ap with|some u=>some (TV.c (.dq (n+1) nxt 0 len),(nxt,some (Ob.aH (n+1) (js (n+1) len ds)))::u,ap,nxt+1)|none=>none)
    |none=>none)
   |none=>none)
  |none=>none)=_ at h
 split at h
 .rename_i xs hxs;split at h
  .rename_i cs hcs;split at h
   .rename_i ds ids' hv;split at h
    .rename_i u' hfz;obtain⟨rfl,rfl,rfl,rfl⟩:TV.c (.dq (n+1) nxt 0 len)=v/\(nxt,some (Ob.aH (n+1) (js (n+1) len ds)))::u'=u/\ids'=ap/\nxt+1=n':=by simpa using h
     have hn:=hn0 (aS _);obtain⟨hl,hr⟩:=oG hρ hxs;obtain⟨zv,hzr,hzl,hzp⟩:=kq hz w
     have hzp':∀x∈zs,ck x=true:=by
      intro x hx;rw[<-hzs]at hx;obtain⟨i,_,rfl⟩:=cU.1 hx;have hlt:i %(n+1)<z.length:=by rw[hlim.2];exact Nat.mod_lt _ (b_ _)
      have:z.getD (i %(n+1)) undef=z[i %(n+1)]:=by simp[List.getD,hlt]
      rw[this];exact hzp _ (List.getElem_mem hlt)
     have hzero:∃zc:Array Value,(len*(n+1)=0->zc= #[])/\(¬len*(n+1)=0->zc=zv.cells)/\
       ((gN (len*(n+1))).map (fun i=>zc[i %zc.size]!)).toList=zs:=by
      by_cases hc:len*(n+1)=0
      .refine ⟨#[],fun _=>rfl,fun h=>absurd hc h,?_⟩;rw[<-hzs,hc];simp
      .refine ⟨zv.cells,fun h=>absurd h hc,fun _=>rfl,?_⟩;rw[nN hzl hlim.2 (b_ _),hzs]
     obtain⟨zc,hzc,hzc1,hzc2⟩:=hzero
     obtain⟨arr',h3,h4⟩:=pM (S:=S) (w:=w) (Kn:=Kn) (φ:=φ) (ρ:=ρ) (fun i=>some (i*(n+1),n+1)) parts.toList _ xs (dk zs) cs ((gN (len*(n+1))).map (fun i=>zc[i %zc.size]!))
      (by simp) (fun i p q hp hq=>by simp only[aB,hp,bh]at hq;exact hq) (by simpa using hl)
      (fun i p x hp hx=>hr i p.2 x (by simp only[aB,hp,bh]) hx) (by rw[hzc2];exact wu hzp') hcs
     obtain⟨h5,h6⟩:=tV h4
     have hcl:cs.length=len*(n+1):=by
      have:∀(l:List ((Nat×Nat)×TV))(a b:List C),ig a l=some b->b.length=a.length:=by
       intro l;induction l with
       |nil=>
        intro a b h;obtain rfl:a=b:=by simpa[ig]using h
        rfl
       |cons p l ih=>
        intro a b h;obtain⟨⟨off,m⟩,x⟩:=p;simp only[ig]at h;split at h
        .split at h
         .rename_i hb;rw[ih _ _ h,c8 _ _ _ (by omega)]
         .simp at h
        .simp at h
      rw[this _ _ _ hcs,<-hzs];simp[dk]
     obtain⟨h7,h8⟩:=kU hI cs ds ids' hv (fun i=>arr'[i]?) (fun i c hi=>by
      have hlt:i<arr'.size:=by rw[<-h5];exact(ah.1 hi).1
      exact⟨arr'.getD i undef,by simp[hlt],h6 i c hi⟩)
     obtain⟨h9,h10⟩:=Be (n+1) len ds (by omega);have hI1:=hI.wI hfz
     have hrows:bS (SB S w φ (au H) ids') w (n+1) (fun i=>arr'[i]?) 0 (js (n+1) len ds):=by
      refine⟨fun i r hi=>(h10 i r hi).2,fun i r hi j x hj=>?_⟩;rw[(h10 i r hi).1,dh]at hj;split at hj
      .rw [bw]at hj;obtain⟨y,hy,hd⟩:=h8 _ x hj;exact⟨y,by rw[<-hy];simp,hd⟩
      .simp at hj
     have hD:=hO.aH (K:=K) (w0:=w0) hI1 hn (cap:=len) (aH:=arr') (sz:=n+1) el (b_ n) (by omega) (by omega) hrows;rw[h9]at hD;refine⟨.value _,_,_,?_,.inl rfl,hO.from (u1:=u') (SB.nT _) rfl hD⟩;have h3':Instr.fill (fun i=>some (i*(n+1),n+1)) ((gN (len*(n+1))).map (fun i=>zc[i %zc.size]!)) (parts.map fun p=>(p.1,ρ p.2)).toList=some arr':=by rw[<-h3];simp
     have hlim':¬len*(n+1)>2^24:=by have:=hlim.1;omega
     simp only[execOp,ho,Sem.run_bind,Instr.buildSlice,bp hu,Result.andThen_ok,eK hs,if_neg hlim'];by_cases hc:len*(n+1)=0
     .rw [hzc hc]at h3';simp only[if_pos hc,Sem.run_bind,Sem.run_pure,Result.andThen_ok,h3',newRow,run_newObj]
     .rw [hzc1 hc]at h3';simp only[if_neg hc,Sem.run_bind,hzr,Sem.run_pure,Result.andThen_ok,h3',newRow,run_newObj]
    .simp at h
   .simp at h
  .simp at h
 .simp at h
end
section
variable{P:Program}{S K:Nat->Prop}{w0 w:World}{Kn:Nat->Prop}{φ:Nat->eG}{H:bl}{e:gy}{ρ:Operand->Value}{o:Oper}{call:Call}
 {nxt n':Nat} {v:TV} {u:dD} {ap:List Nat}
theorem oF{el:TypeId}(h:ld P el=true):∃i,P.info? el=some i/\0<i.bytes/\i.bytes<=16384:=by
 unfold ld at h;split at h
 .rename_i i hi;simp only[Bool.and_eq_true,decide_eq_true_eq]at h;exact⟨i,hi,h.1,h.2⟩
 .simp at h
theorem qb{t el:TypeId}{n:Nat}{l c:Operand}{z:List Value}(ho:o.op=.makeSlice t l c)(hu:P.underlying t=some (.slice el))
  (hs:dN P el=some (n+1)) (hz:gr P el=some z) (hzl:z.length=n+1) (hb:ld P el=true)
  (hI:Inv S K w0 Kn φ (au H) w) (hn0:nxt<n'->¬Kn nxt) {tl tc:Option TV} (hl:∀y,tl=some y->dO S w Kn φ y (ρ l)) (hc:∀y,tc=some y->dO S w Kn φ y (ρ c))
  (h:bN call (.makeSlice z) [tl,tc] H nxt=some (v,u,ap,n')):ct P o ρ S K w0 w Kn φ (au H) nxt n' v u:=by
 change (match bL tl,bL tc with
  |some l,some c=>if 0<=l/\l<=c/\c<=yL then some (TV.c (.dq z.length nxt 0 l.toNat),[(nxt,some (Ob.aH z.length (aw l.toNat (cn z))))],([]:List Nat),nxt+1)else none
  |_,_=>none)=_ at h
 split at h
 .rename_i a b ha hb';split at h
  .rename_i hle;obtain⟨h0,h1,h2⟩:=hle;obtain⟨rfl,rfl,rfl,rfl⟩:TV.c (.dq z.length nxt 0 a.toNat)=v/\[(nxt,some (Ob.aH z.length (aw a.toNat (cn z))))]=u/\[]=ap/\nxt+1=n':=by simpa using h
   have hn:=hn0 (aS _);obtain⟨k1,hk1⟩:=fK ha hl;obtain⟨k2,hk2⟩:=fK hb' hc;obtain⟨i,hi,hby0,hby⟩:=oF hb;obtain⟨zv,hzr,hzv,hzp⟩:=kq hz w;simp only[yL]at h2;have hwa:IntKind.i64.wrap a=a:=pu h0 (by omega);have hwb:IntKind.i64.wrap b=b:=pu (by omega) (by omega);have hmul:(i.bytes:Int)*b<=16384*2147483648:=Int.mul_le_mul (by omega) (by omega) (by omega) (by omega);have hsz:(z.length)=zv.cells.size:=by rw[<-hzv];simp
   let aH:Array Value:=(gN (b.toNat*(n+1))).map (fun i=>zv.cells[i %zv.cells.size]!);have harr:aH.toList=(dz (b.toNat*(n+1))).map fun i=>z.getD (i %(n+1)) undef:=nN hzv hzl (b_ _);have hsize:aH.size=b.toNat*(n+1):=by simp[aH]
   have hrows:bS S w (n+1) (fun i=>aH[i]?) 0 (aw a.toNat (cn z)):=by
    refine⟨fun i r hi=>?_,fun i r hi j x hj=>?_⟩
    .obtain ⟨_,rfl⟩:i<a.toNat/\cn z=r:=by
      rw[cF]at hi;split at hi
      .rename_i hlt;exact⟨hlt,aa hi⟩
      .simp at hi
     simp[cn,hzl]
    .obtain ⟨hlt,rfl⟩:i<a.toNat/\cn z=r:=by
      rw[cF]at hi;split at hi
      .rename_i hlt;exact⟨hlt,aa hi⟩
      .simp at hi
     simp only[cn,aB]at hj;obtain⟨y,hy,rfl⟩:=aG.1 hj;have hjl:j<n+1:=by rw[<-hzl];exact(ah.1 hy).1
     refine⟨y,?_,.lit (hzp y (aT hy))⟩;have hidx:i*(n+1)+j<b.toNat*(n+1):=by have:(i+1)*(n+1)<=b.toNat*(n+1):=aF _ (by omega);rw[cM]at this;omega
     show aH[0+i*(n+1)+j]?=some y;rw[<-aU,harr,bD,aB,gA hidx];have e1:(i*(n+1)+j) %(n+1)=j:=by rw[Nat.add_comm,Nat.add_mul_mod_self_right];exact Nat.mod_eq_of_lt hjl
     simp[e1,List.getD,hy]
   have hD:=hO.aH (K:=K) (w0:=w0) hI hn (cap:=b.toNat) (aH:=aH) el (b_ n) (by simp;omega) (by rw[hsize];exact ak _) hrows;rw[cD]at hD;rw[hzl];refine⟨.value (.slice (some ⟨w.heap.size,0,none⟩) a.toNat b.toNat),_,_,?_,.inl rfl,hD⟩;have hinfo:∀w:World,(typeInfo el).run P w=.ok i w:=fun w=>by simp[typeInfo,hi]
   have harr0:∀zc:Array Value,(b.toNat*(n+1)=0->zc= #[])->(¬b.toNat*(n+1)=0->zc=zv.cells)->((gN (b.toNat*(n+1))).map (fun i=>zc[i %zc.size]!))=aH:=by
    intro zc h1 h2;by_cases hc0:b.toNat*(n+1)=0
    .apply Array.ext';rw[harr,hc0];simp
    .rw [h2 hc0]
   have hnl:¬(decide (b<0)||decide ((i.bytes:Int)*b>2^48))=true:=by simp only[cV,decide_eq_true_eq,not_or];constructor<;>omega
   simp only[execOp,ho,Sem.run_bind,Instr.makeSlice,bp hu,Result.andThen_ok,qH hk1,qH hk2,hinfo,hwa,hwb];rw[Sem.run_ite,if_neg (by simp only[cV,decide_eq_true_eq];simp only[cV,decide_eq_true_eq]at hnl;omega)];simp only[Sem.run_pure,Result.andThen_ok,Sem.run_bind,run_askRoom,eK hs];by_cases hc0:b.toNat*(n+1)=0
   .have:=harr0 #[] (fun _=>rfl) (fun h=>absurd hc0 h);simp only[if_pos hc0,Sem.run_bind,Sem.run_pure,Result.andThen_ok,newRow,run_newObj,this]
   .have:=harr0 zv.cells (fun h=>absurd h hc0) (fun _=>rfl);simp only[if_neg hc0,Sem.run_bind,hzr,Sem.run_pure,Result.andThen_ok,newRow,run_newObj,this]
  .simp at h
 .simp at h
theorem E1{t el:TypeId}{n m:Nat}{l c:Operand}{z:List Value}(ho:o.op=.makeSlice t l c)(hu:P.underlying t=some (.slice el))
  (hs:dN P el=some (n+1)) (hz:gr P el=some z) (hzl:z.length=n+1) (hb:ld P el=true) (hz1:AT z=true) (hm:0<m)
  (hI:Inv S K w0 Kn φ (au H) w) (hn0:nxt<n'->¬Kn nxt) {tl tc:Option TV} (hl:∀y,tl=some y->dO S w Kn φ y (ρ l)) (hc:∀y,tc=some y->dO S w Kn φ y (ρ c))
  (h:bN call (.ve m) [tl,tc] H nxt=some (v,u,ap,n')):ct P o ρ S K w0 w Kn φ (au H) nxt n' v u:=by
 obtain rfl:z=[.slice none 0 0]:=by
  unfold AT at hz1;split at hz1
  .rfl
  .simp at hz1
 change (match bL tl,bL tc with
  |some l,some c=>if 0<=l/\l<=c/\c<=yL then some (TV.c (.dq 1 nxt 0 l.toNat),[(nxt,some (Ob.nst m (aw l.toNat .nil)))],([]:List Nat),nxt+1)else none
  |_,_=>none)=_ at h
 split at h
 .rename_i a b ha hb';split at h
  .rename_i hle;obtain⟨rfl,rfl,rfl,rfl⟩:TV.c (.dq 1 nxt 0 a.toNat)=v/\[(nxt,some (Ob.nst m (aw a.toNat .nil)))]=u/\[]=ap/\nxt+1=n':=by simpa using h
   have hev:bN call (.makeSlice [.slice none 0 0]) [tl,tc] H nxt=some (TV.c (.dq 1 nxt 0 a.toNat),[(nxt,some (Ob.aH 1 (aw a.toNat (cn [.slice none 0 0]))))],[],nxt+1):=by
    show(match bL tl,bL tc with
     |some l,some c=>if 0<=l/\l<=c/\c<=yL then some (TV.c (.dq ([.slice none 0 0]:List Value).length nxt 0 l.toNat),[(nxt,some (Ob.aH ([.slice none 0 0]:List Value).length (aw l.toNat (cn [.slice none 0 0]))))],([]:List Nat),nxt+1)else none
     |_,_=>none)=_
    rw[ha,hb'];show(if 0<=a/\a<=b/\b<=yL then _ else _)=_;rw[if_pos hle];rfl
   obtain⟨nx,val,w',h1,h2,h3,S',φ',h4,h5,h6,h7⟩:=qb ho hu hs hz hzl hb hI hn0 hl hc hev;refine⟨nx,val,w',h1,h2,h3,S',φ',h4,h5,h6,?_⟩;have e1:a_ [(nxt,some (Ob.aH 1 (aw a.toNat (cn [.slice none 0 0]))))] (au H) nxt=some (.aH 1 (aw a.toNat (cn [.slice none 0 0]))):=by rw[bB,if_pos rfl]
   obtain⟨_,hro⟩:=h7.fC nxt _ e1
   have h8:=h7.Mu (o':=.nst m (aw a.toNat .nil)) e1 rfl (fun sz sl k rows e hk=>by
    cases e;rw[cF]at hk;split at hk<;>cases hk) (by
    cases hro with
    |aH hsz hl hS hK hown hext hfit hrr hv=>
     rw[cD]at hv hfit;refine .nst hm hl hS hK hown hext (by rw[cD];omega) (fun i s hi=>?_) (by rw[cD];exact hv);rw[cF]at hi;split at hi
     .rename_i hlt;obtain rfl:=aa hi;obtain⟨v,q1,q2⟩:=hrr.2 i (cn [.slice none 0 0]) (by rw[cF,if_pos hlt]) 0 _ rfl;cases q2 with|lit _=>exact⟨_,by rw[<-q1];simp,.nil⟩
     .cases hi)
   have e2:a_ [(nxt,some (Ob.nst m (aw a.toNat .nil)))] (a_ [(nxt,some (Ob.aH 1 (aw a.toNat (cn [.slice none 0 0]))))] (au H))=a_ [(nxt,some (Ob.nst m (aw a.toNat .nil)))] (au H):=by
    funext j;simp only[bB,dU];by_cases e:nxt=j
    .rw [if_pos e,if_pos e]
    .rw [if_neg e,if_neg e,if_neg e]
   rw[e2]at h8;exact h8
  .simp at h
 .simp at h
theorem CR.mono{S':Nat->Prop}{w':World}{Kn':Nat->Prop}{φ':Nat->eG}(hs:eM S w S' w')(hr:Ren Kn φ Kn' φ'){cs:List C}{vs:List Value}(h:CR S w Kn φ cs vs):CR S' w' Kn' φ' cs vs:=⟨h.1,fun i x y hx hy=>(h.2 i x y hx hy).mono hs hr⟩
theorem K6{cs:List C}{aH:Array Value}(h1:cs.length=aH.size)(h2:∀(i:Nat)(x:C),cs[i]?=some x->RC S w Kn φ x (aH.getD i undef)):CR S w Kn φ cs aH.toList:=by
 refine⟨by simpa using h1,fun i x y hx hy=>?_⟩;have:=h2 i x hx;rw[aU]at hy;have e1:aH.getD i undef=y:=by simp[hy]
 rwa[e1]at this
theorem kh{b o n:Nat}{aH:Array Value}{vs:List Value}(ho:kN w b aH)(hn:vs.length=n):
  kN (w.setRow b (aH.toList.take o++vs++aH.toList.drop (o+n)).toArray) b (aV aH.toList o vs).toArray/\
  (∀c,c≠b->(w.setRow b (aH.toList.take o++vs++aH.toList.drop (o+n)).toArray).heap[c]?=w.heap[c]?)/\
  (w.setRow b (aH.toList.take o++vs++aH.toList.drop (o+n)).toArray).heap.size=w.heap.size/\
  (∀a,(w.setRow b (aH.toList.take o++vs++aH.toList.drop (o+n)).toArray).frozen? a=w.frozen? a)/\
  (o+n<=aH.size->∀arr1,kN w b arr1->∃arr',kN (w.setRow b (aH.toList.take o++vs++aH.toList.drop (o+n)).toArray) b arr'/\arr'.size=arr1.size):=by
 rw[JN hn];refine⟨sV ho,fun c hc=>setRow_other w b c _ hc,by simp,uA ho,fun hle arr1 h1=>⟨_,sV ho,?_⟩⟩;obtain⟨t1,h1⟩:=h1;obtain⟨t2,h2⟩:=ho;rw[h1]at h2;obtain rfl:arr1=aH:=by simp at h2;exact h2.1
 simp only[fg];rw[c8 _ _ _ (by simp;omega)];simp
theorem Inv.uO{hf hf':Nat->Option Ob}{S':Nat->Prop}{w':World}(_:Inv S K w0 Kn φ hf w)(hs:eM S w S' w')(hI:Inv S' K w0 Kn φ hf' w'){u:dD}{n:Nat}(he:hf'=a_ u hf):
  hO S K w0 w Kn φ hf n n (.eU []) u undef w':=
 ⟨ak _,S',φ,hs,lT _ _,.eU rfl (fun i x hi=>by simp at hi),he▸hI.kn fun _ h=>.inl h⟩
theorem xQ{sz aL dv off:Nat}{rows:List (List D)}{r ds:List D}{aH:Array Value}{vs:List Value}(h:bS S w sz (fun i=>aH[i]?) aL rows)(hrow:rows[dv]?=some r)
  (hfit:off+ds.length<=r.length) (hl:ds.length=vs.length) (hd:∀(i:Nat)(x:D),ds[i]?=some x->∃y,vs[i]?=some y/\RD S w x y) (hsz:aL+rows.length*sz<=aH.size):
  bS S w sz (fun i=>(aV aH.toList (aL+dv*sz+off) vs).toArray[i]?) aL (rows.set dv (aV r off ds)):=by
 have hrl:=h.1 dv r hrow;have hlt:dv<rows.length:=(ah.1 hrow).1;have hmul:(dv+1)*sz<=rows.length*sz:=aF _ (by omega);rw[cM]at hmul;have hget:∀k,(aV aH.toList (aL+dv*sz+off) vs).toArray[k]?=if k<aL+dv*sz+off then aH[k]?else if k<aL+dv*sz+off+vs.length then vs[k-(aL+dv*sz+off)]?else aH[k]?:=by intro k;rw[<-aU];show(aV aH.toList _ vs)[k]?=_;rw[gu _ _ _ (by simp;omega)];simp only[aU]
 have hsetr:∀i q,(rows.set dv (aV r off ds))[i]?=some q->(i=dv/\q=aV r off ds)\/(i≠dv/\rows[i]?=some q):=by
  intro i q hi;by_cases e1:i=dv
  .subst e1;rw[gU hlt]at hi;exact .inl ⟨rfl,(aa hi).symm⟩
  .rw [List.getElem?_set_ne (fun e=>e1 e.symm)]at hi;exact .inr ⟨e1,hi⟩
 refine⟨fun i q hi=>?_,fun i q hi j z hj=>?_⟩
 .rcases hsetr i q hi with⟨rfl,rfl⟩|⟨_,h1⟩
  .rw [c8 _ _ _ hfit];exact hrl
  .exact h.1 i q h1
 .simp only[hget];rcases hsetr i q hi with⟨rfl,rfl⟩|⟨hne,h1⟩
  .rw [gu _ _ _ hfit]at hj;by_cases c1:j<off
   .rw [if_pos c1]at hj;rw[if_pos (by omega)];exact h.2 i r hrow j z hj
   .rw [if_neg c1]at hj;by_cases c2:j<off+ds.length
    .rw [if_pos c2]at hj;obtain⟨y,hy,hr⟩:=hd _ z hj;rw[if_neg (by omega),if_pos (by omega)];refine⟨y,?_,hr⟩;rw[<-hy];congr 1;omega
    .rw [if_neg c2]at hj;rw[if_neg (by omega),if_neg (by omega)];exact h.2 i r hrow j z hj
  .have hjl:j<sz:=by rw[<-h.1 i q h1];exact(ah.1 hj).1
   have hout:aL+i*sz+j<aL+dv*sz+off\/aL+dv*sz+off+vs.length<=aL+i*sz+j:=by
    rcases Nat.lt_or_gt_of_ne hne with hlt2|hgt
    .have:(i+1)*sz<=dv*sz:=aF _ (by omega);rw[cM]at this;omega
    .have:(dv+1)*sz<=i*sz:=aF _ (by omega);rw[cM]at this;omega
   rcases hout with c|c
   .rw [if_pos c];exact h.2 i q h1 j z hj
   .rw [if_neg (by omega),if_neg (by omega)];exact h.2 i q h1 j z hj
theorem Hh{α:Type}{l:List α}{o:Nat}{v:α}(h:o<l.length):aV l o [v]=l.set o v:=by rw[List.set_eq_take_append_cons_drop,if_pos h];simp[aV]
theorem Hw{id dv sz:Nat}{slots:List iq}{cs:List C}{vs:List Value}{u:dD}{ap:List Nat}{aH:Array Value}(hI:Inv S K w0 Kn φ (au H) w)(hob:au H id=some (.nst sz slots))(hrow:dv<slots.length)
  (hcr:CR S w Kn φ cs vs) (hlen:cs.length=1) (hown:kN w (φ id).bU aH) (hfit:(φ id).aL+dv<aH.size) (h:nn id dv sz slots cs H=some (u,ap)):
  eM S w S (w.setRow (φ id).bU (aH.toList.take ((φ id).aL+dv)++vs++aH.toList.drop ((φ id).aL+dv+1)).toArray)/\
   Inv S K w0 Kn φ (a_ u (au H)) (w.setRow (φ id).bU (aH.toList.take ((φ id).aL+dv)++vs++aH.toList.drop ((φ id).aL+dv+1)).toArray):=by
 have hvl:vs.length=1:=by rw[<-hcr.1];exact hlen
 obtain⟨p1,p2,p3,p4,_⟩:=kh (w:=w) (b:=(φ id).bU) (o:=(φ id).aL+dv) (n:=1) (vs:=vs) hown hvl;have hio:Io w (w.setRow (φ id).bU (aH.toList.take ((φ id).aL+dv)++vs++aH.toList.drop ((φ id).aL+dv+1)).toArray):=⟨rfl,rfl,rfl,ak _⟩
 generalize w.setRow (φ id).bU (aH.toList.take ((φ id).aL+dv)++vs++aH.toList.drop ((φ id).aL+dv+1)).toArray=w' at*
 obtain⟨x,rfl⟩:∃x,vs=[x]:=by
  match vs,hvl with|[x],_=>exact⟨x,rfl⟩
 rw[Hh (by simpa using hfit)]at p1
 have key:∀s',(eM S w S w'->ug S K w' Kn φ sz s' x)->(∀rows,s'≠.bf rows)->eM S w S w'/\Inv S K w0 Kn φ (a_ [(id,some (.nst sz (slots.set dv s')))] (au H)) w':=fun s' h1 h2=>
  hI.vZ hob hown p1 (by simp) p2 p3 p4 hio (fun i hi=>by
   rw[bz,List.getElem?_set_ne (by omega),aU]) (fun _=>by
   rw[bz,gU (by simpa using hfit)]) h1 h2
 unfold nn at h;split at h
 .obtain ⟨rfl,rfl⟩:[(id,some (Ob.nst sz (slots.set dv .nil)))]=u/\[id]=ap:=by simpa using h
  have hx:=hcr.2 0 _ x rfl rfl;cases hx with
  |d hd=>cases hd with|lit _=>exact key .nil (fun _=>.nil) (fun _ e=>by cases e)
 .rename_i sz' id2 len;split at h
  .rename_i sz2 rows h2;split at h
   .rename_i hc;obtain⟨rfl,rfl,hne⟩:=hc;obtain⟨rfl,rfl⟩:[(id,some (Ob.nst sz' (slots.set dv (.bf rows)))),(id2,none)]=u/\[id,id2]=ap:=by simpa using h
    obtain⟨q1,q2⟩:=key (.out id2 rows.length) (fun hs=>.out ((hcr.2 0 _ x rfl rfl).mono hs (Ren.refl _ _))) (fun _ e=>by cases e);refine⟨q1,?_⟩;have e1:a_ [(id,some (Ob.nst sz' (slots.set dv (.out id2 rows.length))))] (au H) id=some (.nst sz' (slots.set dv (.out id2 rows.length))):=by rw[bB,if_pos rfl]
    have e2:a_ [(id,some (Ob.nst sz' (slots.set dv (.out id2 rows.length))))] (au H) id2=some (.aH sz2 rows):=by rw[bB,if_neg (fun e=>hne e.symm),dU,h2]
    have q3:=q2.GN e1 (gU hrow) e2;rw[List.set_set]at q3
    have e3:a_ [(id,some (Ob.nst sz' (slots.set dv (.bf rows)))),(id2,none)] (a_ [(id,some (Ob.nst sz' (slots.set dv (.out id2 rows.length))))] (au H))=a_ [(id,some (Ob.nst sz' (slots.set dv (.bf rows)))),(id2,none)] (au H):=by
     funext j;simp only[bB,dU];by_cases e:id=j
     .rw [if_pos e,if_pos e]
     .rw [if_neg e,if_neg e,if_neg e]
    rw[e3]at q3;exact q3
   .simp at h
  .simp at h
 .simp at h
theorem E0{t:TypeId}{n:Nat}{a x:Operand}(ho:o.op=.store t a x)(hs:dN P t=some n)(hI:Inv S K w0 Kn φ (au H) w)
  {ta tx:Option TV} (ha:∀y,ta=some y->dO S w Kn φ y (ρ a)) (hx:∀y,tx=some y->dO S w Kn φ y (ρ x))
  (h:bN call (.store n) [ta,tx] H nxt=some (v,u,ap,n')):ct P o ρ S K w0 w Kn φ (au H) nxt n' v u:=by
 match ta,tx,h,ha,hx with
 |some (.c p),some tv,h,ha,hx=>
  change (match jg n p tv H with|some (u,ap)=>some (TV.eU [],u,ap,nxt)|none=>none)=_ at h;split at h
  .rename_i u' ids' dm;obtain⟨rfl,rfl,rfl,rfl⟩:TV.eU []=v/\u'=u/\ids'=ap/\nxt=n':=by simpa using h
   unfold jg at dm;split at dm
   .simp at dm
   .rename_i cs hcs;split at dm
    .rename_i hlen;have hcr:=(hx _ rfl).cr hcs;obtain⟨_,_,hone⟩:=(hx _ rfl).cells hcs;have hvl:(ρ x).cells.size=n:=by have:=hcr.1;simp at this;omega
     have hr:=ha _ rfl;generalize hv0:ρ a=val at hr
     have run:∀b off aH,val=.pointer (some ⟨b,off,none⟩)->kN w b aH->off+n<=aH.size->
       (execOp ρ o).run P w=.ok .skip (w.setRow b (aH.toList.take off++(ρ x).cells.toList++aH.toList.drop (off+n)).toArray):=by
      intro b off aH hv hown hfit;simp[execOp,ho,hv0,hv,Instr.storeAt,Instr.sureAddr,Hl hs hown hvl hfit hone]
     cases hr with
     |c hr=>
     split at dm
     .rename_i id dv off;split at dm
      .rename_i sz rows hob;split at dm
       .rename_i r ds ids1 hrow hvw;split at dm
        .rename_i u1 hfz;split at dm
         .rename_i hb;obtain⟨hb1,hb2⟩:=hb;obtain⟨rfl,rfl⟩:(id,some (Ob.aH sz (rows.set dv (aV r off ds))))::u1=u'/\id::ids1=ids':=by simpa using dm
          have hnm:id∉ids1:=by simpa using hb2
          obtain⟨hdl,hds⟩:=kU hI cs ds ids1 hvw (fun i=>(ρ x).cells.toList[i]?) (fun i c hi=>by
           have hlt:i<(ρ x).cells.toList.length:=by rw[<-hcr.1];exact(ah.1 hi).1
           exact⟨_,ai hlt,hcr.2 i c _ hi (ai hlt)⟩)
          have hI1:=hI.wI hfz;have hob1:a_ u1 (au H) id=some (.aH sz rows):=by simp only[a_,(gS ids1 u1 hfz id).2 hnm,hob]
          obtain⟨hk,h0⟩:=hI1.fC _ _ hob1;generalize hphi:φ id=l at*;cases h0 with
          |@aH _ _ aH hsz hl hS hK hown hext hfit hrr hvis=>
           cases hr with
           |ep hk'=>
            rw[hphi]at run;subst hl;have hrl:=hrr.1 dv r hrow;have hrowlt:dv<rows.length:=(ah.1 hrow).1;have hmul:(dv+1)*l.sz<=rows.length*l.sz:=aF _ (by omega);rw[cM]at hmul;have hfit2:l.aL+dv*l.sz+off+n<=aH.size:=by rw[hext];omega
            obtain⟨p1,p2,p3,p4,p5⟩:=kh (w:=w) (b:=l.bU) (o:=l.aL+dv*l.sz+off) (n:=n) (vs:=(ρ x).cells.toList) hown (by simpa using hvl);have hset:=hI1.set (o':=.aH l.sz (rows.set dv (aV r off ds))) hob1 rfl (by rw[hphi];exact p2) p3 p4 (by rw[hphi];exact p5 hfit2) ⟨rfl,rfl,rfl,ak _⟩ (fun dm=>by rw[hphi];have h5:=(xQ (off:=off) (vs:=(ρ x).cells.toList) hrr hrow (by omega) (by rw[hdl];exact hcr.1) hds (by omega)).mono dm;exact .aH hsz rfl hS hK p1 (by simp only[fg];rw[c8 _ _ _ (by simp;omega)];simpa using hext) (by simpa using hfit) h5 (by simpa using hvis));refine⟨.skip,undef,_,run _ _ _ rfl hown hfit2,.inr ⟨rfl,rfl⟩,hI.uO ((SB.nT ids1).trans hset.1) hset.2 ?_⟩;rw[<-cK];rfl
         .simp at dm
        .simp at dm
       .simp at dm
      .rename_i sz slots hob;split at dm
       .rename_i hc;obtain⟨rfl,rfl,hrow⟩:=hc;obtain⟨hk,h0⟩:=hI.fC _ _ hob;cases h0 with
        |@nst _ _ aH hsz hl hS hK hown hext hfit hrr hvis=>cases hr with|ep hk'=>obtain⟨q1,q2⟩:=Hw hI hob hrow hcr hlen hown (by omega) dm;have hrun:=run (φ id).bU ((φ id).aL+dv*(φ id).sz+0) aH rfl hown (by rw[hl];omega);rw[hl,iC,cN]at hrun;refine⟨.skip,undef,_,hrun,.inr ⟨rfl,rfl⟩,hI.uO q1 q2 rfl⟩
       .simp at dm
      .simp at dm
     .rename_i id off;split at dm
      .rename_i cells hob;split at dm
       .rename_i hb;obtain⟨rfl,rfl⟩:[(id,some (Ob.box (aV cells off cs)))]=u'/\[id]=ids':=by simpa using dm
        obtain⟨hk,h0⟩:=hI.fC _ _ hob;generalize hphi:φ id=l at*;cases h0 with
        |@box _ aH hbase hS hK hown hlen2 hrr=>cases hr with|op hk'=>rw[hphi,hbase,bD]at run;obtain⟨p1,p2,p3,p4,p5⟩:=kh (w:=w) (b:=l.bU) (o:=off) (n:=n) (vs:=(ρ x).cells.toList) hown (by simpa using hvl);have hset:=hI.set (o':=.box (aV cells off cs)) hob rfl (by rw[hphi];exact p2) p3 p4 (by rw[hphi];exact p5 (by omega)) ⟨rfl,rfl,rfl,ak _⟩ (fun dm=>by rw[hphi];have h5:=((K6 hlen2 hrr).aV hcr off (by omega)).mono dm (Ren.refl _ _);obtain⟨h6,h7⟩:=tV (aH:=(aV aH.toList off (ρ x).cells.toList).toArray) (by rw[List.toList_toArray];exact h5);exact .box hbase hS hK p1 h6 h7);exact⟨.skip,undef,_,run _ _ _ rfl hown (by omega),.inr ⟨rfl,rfl⟩,hI.uO hset.1 hset.2 rfl⟩
       .simp at dm
      .simp at dm
     .simp at dm
    .simp at dm
  .simp at h
end
section
variable{P:Program}{S K:Nat->Prop}{w0 w:World}{Kn:Nat->Prop}{φ:Nat->eG}{H:bl}{e:gy}{ρ:Operand->Value}{o:Oper}{call:Call}
 {nxt n':Nat} {v:TV} {u:dD} {ap:List Nat}
theorem mC{sz b addr:Nat}{rows:List (List D)}(hsz:0<sz)(h:bS S w sz (fun i=>w.cell? ⟨b,i,none⟩) addr rows):
  ∃aH,(∀w':World,w'.heap=w.heap->(loadCells ⟨b,addr,none⟩ (rows.length*sz)).run P w'=.ok aH w')/\aH.size=rows.length*sz/\bS S w sz (fun i=>aH[i]?) 0 rows/\∀x∈aH.toList,one x=true:=by
 have hcell:∀k,k<rows.length*sz->∃y,w.cell? ⟨b,addr+k,none⟩=some y/\one y=true:=by
  intro k hk;have h1:k/sz<rows.length:=Nat.div_lt_of_lt_mul (by rw[Nat.mul_comm];exact hk);have h2:=h.1 (k/sz) rows[k/sz] (ai h1);have h3:k %sz<rows[k/sz].length:=by rw[h2];exact Nat.mod_lt _ hsz
  obtain⟨y,hy,hr⟩:=h.2 (k/sz) rows[k/sz] (ai h1) (k %sz) _ (ai h3);refine⟨y,?_,hr.one⟩;rw[<-hy];have:=Nat.div_add_mod k sz;rw[Nat.mul_comm]at this;show w.cell? ⟨b,addr+k,none⟩=w.cell? ⟨b,addr+k/sz*sz+k %sz,none⟩;congr 2;omega
 refine⟨((dz (rows.length*sz)).map fun j=>(w.cell? ⟨b,addr+j,none⟩).getD undef).toArray,fun w' hw=>run_loadCells w' ⟨b,addr,none⟩ _ (fun j=>(w.cell? ⟨b,addr+j,none⟩).getD undef) fun j hj=>?_,by simp,
  ⟨h.1,fun i r hi j x hj=>?_⟩,fun x hx=>?_⟩
 .obtain ⟨y,hy,_⟩:=hcell j hj;have:w'.cell? ⟨b,addr+j,none⟩=w.cell? ⟨b,addr+j,none⟩:=by unfold World.cell?;rw[hw]
  rw[kL,this,hy];rfl
 .obtain ⟨y,hy,hr⟩:=h.2 i r hi j x hj;refine⟨y,?_,hr⟩;have hil:i<rows.length:=(ah.1 hi).1;have hjl:j<sz:=by rw[<-h.1 i r hi];exact(ah.1 hj).1
  have hm:(i+1)*sz<=rows.length*sz:=aF _ hil;rw[cM]at hm;simp only at hy;have hlt:0+i*sz+j<rows.length*sz:=by omega
  have e1:addr+(0+i*sz+j)=addr+i*sz+j:=by omega
  show(((dz (rows.length*sz)).map fun j=>(w.cell? ⟨b,addr+j,none⟩).getD undef).toArray)[0+i*sz+j]?=some y;rw[<-aU,aB,gA hlt];simp only[bh,e1,hy,dn]
 .simp only[cU,List.mem_range]at hx;obtain⟨k,hk,rfl⟩:=hx;obtain⟨y,hy,h1⟩:=hcell k hk;rw[hy];exact h1
def GU(P:Program)(S:Nat->Prop)(w:World)(sz:Nat)(xv:Value)(new:List (List D))(aH:Array Value):Prop:=
 (∀w':World,w'.heap=w.heap->(Builtin.lenOf xv).run P w'=.ok new.length w'/\(Builtin.firstCells sz new.length xv).run P w'=.ok aH w')/\
 aH.size=new.length*sz/\bS S w sz (fun i=>aH[i]?) 0 new/\∀x∈aH.toList,one x=true
theorem vv{sz b addr len cap:Nat}{new:List (List D)}(hsz:0<sz)(hl:new.length=len)(h:bS S w sz (fun i=>w.cell? ⟨b,i,none⟩) addr new):
  ∃aH,GU P S w sz (.slice (some ⟨b,addr,none⟩) len cap) new aH:=by
 subst hl;obtain⟨aH,h1,h2,h3,h4⟩:=mC (P:=P) hsz h;exact⟨aH,fun w' hw=>⟨rfl,h1 w' hw⟩,h2,h3,h4⟩
theorem Ab{sz:Nat}{x:C}{xv:Value}{new:List (List D)}(hsz:0<sz)(hI:Inv S K w0 Kn φ (au H) w)(hr:RC S w Kn φ x xv)(h:ga sz H x=some (new,ap)):
  ∃aH,GU P S w sz xv new aH:=by
 unfold ga at h;split at h
 .obtain ⟨rfl,rfl⟩:[]=new/\[]=ap:=by simpa using h
  cases hr with
  |d hd=>cases hd with|lit hp=>exact⟨#[],fun w' _=>⟨rfl,rfl⟩,by simp,⟨fun i r hi=>by simp at hi,fun i r hi=>by simp at hi⟩,fun x hx=>by simp at hx⟩
 .rename_i sz' rows;split at h
  .rename_i e1;subst e1;obtain⟨rfl,rfl⟩:rows=new/\[]=ap:=by simpa using h
   cases hr with
   |d hd=>cases hd with
    |sl f hb hsz0 hcap hrow hcell hrd=>exact vv hsz rfl ⟨hrow,fun i r hi j x hj=>⟨_,hcell i r hi j x hj,hrd i r hi j x hj⟩⟩
    |nV hsz0=>exact⟨#[],fun w' _=>⟨rfl,by
      have h0:([]:List (List D)).length*sz'=0:=by simp
      simp only[Builtin.firstCells,h0];rfl⟩,by simp,⟨fun i r hi=>by simp at hi,fun i r hi=>by simp at hi⟩,fun x hx=>by simp at hx⟩
  .simp at h
 .rename_i sz' id off len
  have key:∀szo rows,(au H id=some (.aH szo rows)\/au H id=some (.lB szo rows))->(if sz'=sz/\off+len<=rows.length then some ((rows.drop off).take len,[id])else none)=some (new,ap)->
    ∃aH,GU P S w sz xv new aH:=by
   intro szo rows ho hq;split at hq
   .rename_i hb;obtain⟨e1,hle⟩:=hb;subst e1;obtain⟨rfl,rfl⟩:=ad (aa hq);obtain⟨hsz1,hl,hR⟩:=kf hI ho;subst hl;cases hr with|dq hk hcap haddr hext=>exact vv hsz1 (by simp;omega) (hR.rE off len fun h=>haddr (by omega))
   .simp at hq
  split at h
  .exact key _ _ (.inl (by assumption)) h
  .exact key _ _ (.inr (by assumption)) h
  .simp at h
 .simp at h
theorem Ii(need:Nat)(c:Nat):Builtin.growBy need 4 c<=3*c+3072:=by
 simp only[Builtin.growBy]
 repeat' split
 all_goals omega
theorem Fb{need cap:Nat}(h1:need<=2147483648)(h2:cap<need):Builtin.nextslicecap need cap<=6442454016:=by
 unfold Builtin.nextslicecap;split
 .omega
 .split
  .omega
  .have:=Ii need cap;omega
theorem Inv.LF{hf:Nat->Option Ob}{w':World}{b:Nat}(h:Inv S K w0 Kn φ hf w)(hS:¬S b)(hK:¬K b)(hfree:∀i o,hf i=some o->bP o=true->b∉fc w φ hf i)
  (hother:∀c,c≠b->w'.heap[c]?=w.heap[c]?) (hsize:w'.heap.size=w.heap.size) (hfrz:∀a,w'.frozen? a=w.frozen? a)
  (hsz:∀aH,kN w b aH->∃arr',kN w' b arr'/\arr'.size=aH.size) (hio:Io w w'):eM S w S w'/\Inv S K w0 Kn φ hf w':=by
 have hs:eM S w S w':=⟨fun _ h=>h,fun c hc=>hother c (fun e=>hS (e▸hc))⟩
 refine⟨hs,h.ll hs (Ren.refl _ _) (fun c hc=>hsize▸h.pU c hc) h.sk ⟨h.j8.AN,fun c hc=>(hother c (fun e=>hK (e▸hc))).trans (h.j8.jT c hc),hsize▸h.j8.grow,fun a ha=>(hfrz a).trans (h.j8.vi a ha),h.j8.sU hother hsz,h.j8.io.trans hio⟩ ?_ h.kJ fun id sz sl hi=>⟨hi,hother _ fun e=>hfree id _ hi rfl (e▸ik id),fun k x hp=>⟨hother x fun e=>hfree id _ hi rfl (cS.2 (.inr ⟨sz,sl,k,hi,e▸hp⟩)),(h.C3 hi hp).1,(h.rp id sz sl k x hi hp).1⟩⟩⟩;intro id o ho;exact .inl ⟨ho,fun hown=>⟨hother _ fun e=>hfree id o ho hown (e▸ik id),((h.fC id o ho).2.bf hown).1⟩⟩
theorem vJ{w':World}{hf:Nat->Option Ob}{i:Nat}(h:w'.heap[(φ i).bU]?=w.heap[(φ i).bU]?):fc w' φ hf i=fc w φ hf i:=by
 have key:∀(l:eG),w'.heap[l.bU]?=w.heap[l.bU]?->∀(sl:List iq)(k:Nat),m_ w' l sl k=m_ w l sl k:=by
  intro l hl sl;induction sl with
  |nil=>intro k;rfl
  |cons s sl ih=>intro k;cases s with|bf rows=>simp only[m_,ih,jt hl]|_=>exact ih (k+1)
 unfold fc;congr 1;split
 .exact key _ h _ _
 .rfl
theorem lS{sz aL:Nat}{a b:List (List D)}{get:Nat->Option Value}(h1:bS S w sz get aL a)(h2:bS S w sz get (aL+a.length*sz) b):bS S w sz get aL (a++b):=by
 have key:∀(i:Nat)(r:List D),(a++b)[i]?=some r->a[i]?=some r\/(a.length<=i/\b[i-a.length]?=some r):=by
  intro i r hi;by_cases hc:i<a.length
  .rw [List.getElem?_append_left hc]at hi;exact .inl hi
  .rw [List.getElem?_append_right (by omega)]at hi;exact .inr ⟨by omega,hi⟩
 refine⟨fun i r hi=>?_,fun i r hi j x hj=>?_⟩
 .rcases key i r hi with h|⟨_,h⟩
  .exact h1.1 i r h
  .exact h2.1 _ r h
 .rcases key i r hi with h|⟨hle,h⟩
  .exact h1.2 i r h j x hj
  .obtain ⟨y,hy,hr⟩:=h2.2 _ r h j x hj;refine⟨y,?_,hr⟩;rw[<-hy];congr 1;have:a.length*sz+(i-a.length)*sz=i*sz:=by rw[<-bv];congr 1;omega
   omega
theorem RC.gQ{sz id off len:Nat}{v:Value}(h:RC S w Kn φ (.dq sz id off len) v):∃cap addr,v=.slice (some ⟨(φ id).bU,addr,none⟩) len cap/\(φ id).sz=sz/\Kn id/\len<=cap/\
  (0<cap->addr=(φ id).aL+off*(φ id).sz)/\addr+cap*(φ id).sz<=(φ id).ext/\off+cap=(φ id).cap:=by
 cases h with|dq hk hcap haddr hext hc=>exact⟨_,_,rfl,rfl,hk,hcap,haddr,hext,hc⟩
theorem De{c:j6}{s x:Operand}{st xt el el2:TypeId}{n:Nat}{z:List Value}(ho:o.op=.call c)(hcal:c.callee=.builtin .append)(hargs:c.args= #[s,x])(hts:c.argTypes= #[st,xt])
  (hus:P.underlying st=some (.slice el)) (hux:P.underlying xt=some (.slice el2)) (hsz:dN P el=some (n+1)) (hz:gr P el=some z) (hzl:z.length=n+1) (hby:ld P el=true)
  (hI:Inv S K w0 Kn φ (au H) w) (hn0:nxt<n'->¬Kn nxt) {ta tx:Option TV} (ha:∀y,ta=some y->dO S w Kn φ y (ρ s)) (hx:∀y,tx=some y->dO S w Kn φ y (ρ x))
  (h:bN call (.append (n+1)) [ta,tx] H nxt=some (v,u,ap,n')):ct P o ρ S K w0 w Kn φ (au H) nxt n' v u:=by
 obtain⟨inf,hinf,hb0,hb1⟩:=oF hby;obtain⟨zv,hzr,hzv,_⟩:=kq hz w
 match ta,tx,h,ha,hx with
 |some (.c sc),some (.c xc),h,ha,hx=>
  change kC (n+1) sc xc H nxt=_ at h;unfold kC at h;split at h
  .simp at h
  .rename_i new ids1 hrx;cases hx _ rfl with
   |c hxr=>
   obtain⟨narr,hel,hns,hnR,hnone⟩:=Ab (P:=P) (sz:=n+1) (b_ n) hI hxr hrx;have hinfo:∀w:World,(typeInfo el).run P w=.ok inf w:=fun w=>by simp[typeInfo,hinf]
   have hzr':∀w:World,(zeroValue el).run P w=.ok zv w:=by intro w';simp only[zeroValue,typeInfo,Sem.run_bind,run_program,Result.andThen_ok,hinf,Sem.run_pure]at hzr|-;cases hzz:inf.zero with|none=>rw[hzz]at hzr;simp at hzr|some q=>rw[hzz]at hzr;simp at hzr|-;exact hzr
   have hunx:∀w:World,(underlying xt).run P w=.ok (.slice el2) w:=bp hux
   -- what the model does where there is no fS
   have grows:∀(aL:Option Addr)(sLen sCap:Nat)(old:Array Value),ρ s=.slice aL sLen sCap->sCap<sLen+new.length->sLen+new.length<=2147483648->
     (∀w':World,w'.heap=w.heap->(Builtin.firstCells (n+1) sLen (.slice aL sLen sCap)).run P w'=.ok old w')->
     ∃newCap,sLen+new.length<=newCap/\(execOp ρ o).run P w=.ok (.value (.slice (some ⟨w.heap.size,0,none⟩) (sLen+new.length) newCap))
      {({w with drawn:=w.drawn+1}:World)with heap:=w.heap.push (.cells (old++narr++Builtin.zeroCells zv.cells (newCap-(sLen+new.length))) el)}:=by
    intro aL sLen sCap old hs hlt hle hold;refine⟨(Question.appendCap (sLen+new.length) sCap el).cut (w.tape w.drawn (.appendCap (sLen+new.length) sCap el)),by simp[Question.cut],?_⟩;have hcap:¬Builtin.nextslicecap (sLen+new.length) sCap*inf.bytes>2^48:=by have h1:=Fb hle hlt;have h2:Builtin.nextslicecap (sLen+new.length) sCap*inf.bytes<=6442454016*16384:=Nat.mul_le_mul h1 hb1;omega
    have hbz:¬inf.bytes=0:=by omega
    have hnle:¬sLen+new.length<=sCap:=by omega
    have ho2:=hold {w with drawn:=w.drawn+1} rfl;have hn2:=(hel {w with drawn:=w.drawn+1} rfl).2;have hl2:=(hel w rfl).1
    simp only[execOp,ho,hcal,resolve,hargs,Sem.run_bind,Sem.run_pure,Result.andThen_ok,invoke,builtin,Builtin.append_,hts,cu,aq,aR,hs,bz,
     bF,ce,bp hus,eK hsz,hunx,hl2,hnle,if_false,hinfo,hcap,hbz,aM,or_self,and_false,run_choose,Question.forced,run_askRoom,ho2,hn2,hzr',newRow,run_newObj,j7,if_true]
   have room_new:¬Kn nxt->∀(k:Nat)(_:w.drawn<=k)(hf:Nat->Option Ob)(rows:List (List D))(aH:Array Value)(cap:Nat),Inv S K w0 Kn φ hf w->rows.length<=cap->cap*(n+1)<=aH.size->bS S w (n+1) (fun i=>aH[i]?) 0 rows->
     hO S K w0 w Kn φ hf nxt (nxt+1) (.c (.dq (n+1) nxt 0 rows.length)) [(nxt,some (.aH (n+1) rows))] (.slice (some ⟨w.heap.size,0,none⟩) rows.length cap)
      {({w with drawn:=k}:World)with heap:=w.heap.push (.cells aH el)}:=by
    intro hn k hk hf rows aH cap hI1 h1 h2 h3;obtain⟨a1,S',φ',a2,a3,a4,a5⟩:=hO.aH (hI1.pf k hk) hn el (b_ n) h1 h2 (h3.mono (eM.pf S w k));exact⟨a1,S',φ',(eM.pf S w k).trans a2,a3,a4,a5⟩
   have zsize:∀m,(Builtin.zeroCells zv.cells m).size=m*(n+1):=by
    intro m;have:zv.cells.size=n+1:=by rw[<-hzl,<-hzv];simp
    simp[Builtin.zeroCells,this]
   split at h
   .--a nil slice
    split at h
    .rename_i hle;simp only[yL]at hle;obtain⟨hv,_⟩:=(ha _ rfl).lit;cases new with
     |nil=>
      obtain⟨rfl,rfl,rfl,rfl⟩:TV.c (.d (.lit (.slice none 0 0)))=v/\[]=u/\ids1=ap/\nxt=n':=by simpa using h
      refine ct.pure hI ?_ (ha _ rfl);have hl2:=(hel w rfl).1;have hn2:=(hel w rfl).2;simp only[hP]at hl2 hn2
      simp only[execOp,ho,hcal,resolve,hargs,Sem.run_bind,Sem.run_pure,Result.andThen_ok,invoke,builtin,Builtin.append_,hts,cu,aq,aR,hv,bz,
       bF,ce,bp hus,eK hsz,hunx,hl2,ak,if_true,j7,hn2,aM,if_false,cN]
     |cons q new=>
      obtain⟨rfl,rfl,rfl,rfl⟩:TV.c (.dq (n+1) nxt 0 (q::new).length)=v/\[(nxt,some (Ob.aH (n+1) (q::new)))]=u/\ids1=ap/\nxt+1=n':=by simpa using h
      obtain⟨newCap,hnc,hrun⟩:=grows none 0 0 #[] hv (by simp) (by simpa using hle) (fun w' _=>rfl);rw[bD]at hrun hnc;refine⟨.value _,_,_,hrun,.inl rfl,room_new (hn0 (aS _)) _ (bg _) _ _ _ _ hI hnc ?_ ?_⟩
      .simp only[fh,hns,zsize,fg,hP];rw[bD,<-bv];exact aF _ (by omega)
      .refine ⟨hnR.1,fun i r hi j x hj=>?_⟩;obtain⟨y,hy,hr⟩:=hnR.2 i r hi j x hj;refine⟨y,?_,hr⟩;have hlt:=(aP.1 hy).1;simp only at hy|-;rw[bY (by simp;omega)];simpa using hy
    .simp at h
   .--a slice of one's bf
    rename_i sz' id off len;split at h
    .rename_i szo rows hob;split at h
     .rename_i hb;obtain⟨e1,hle,hlim⟩:=hb;subst e1;simp only[yL]at hlim;obtain⟨rfl,rfl,rfl,rfl⟩:TV.c (.dq (n+1) nxt 0 (len+new.length))=v/\[(id,none),(nxt,some (Ob.aH (n+1) ((rows.drop off).take len++new++rows.drop (off+len+new.length))))]=u/\id::ids1=ap/\nxt+1=n':=by simpa using h
      have hn:=hn0 (aS _);have hr:=ha _ rfl;generalize hv0:ρ s=val at hr;cases hr with
      |c hr=>
      have hlen:((rows.drop off).take len).length=len:=by simp;omega
      have hlen2:((rows.drop off).take len++new).length=len+new.length:=by simp;omega
      have hku:∀hf:Nat->Option Ob,a_ [(id,none),(nxt,some (Ob.aH (n+1) ((rows.drop off).take len++new++rows.drop (off+len+new.length))))] hf=a_ [(nxt,some (Ob.aH (n+1) ((rows.drop off).take len++new++rows.drop (off+len+new.length))))] (a_ [(id,none)] hf):=by intro hf;have hne:id≠nxt:=fun e=>hn (e▸(hI.fC _ _ hob).1);rw[<-cK];exact jw (u:=[(id,none)]) fun p hp q hq=>by obtain rfl:=am.1 hp;obtain rfl:=am.1 hq;exact hne
      have hkill:Inv S K w0 Kn φ (a_ [(id,none)] (au H)) w:=hI.i_ fun i o ho=>by
       rw[bB]at ho;split at ho
       .simp at ho
       .exact ho
      obtain⟨hk0,h0⟩:=hI.fC _ _ hob;generalize hphi:φ id=l at*;cases h0 with
      |@aH _ _ aH hsz0 hl hS hK hown hext hfit hrr hvis=>
      obtain⟨cap,addr,rfl,hszl,hk,hcap,haddr,hextc,hcl⟩:=hr.gQ;rw[hphi]at hv0 haddr hextc hszl hcl;have e2:szo=n+1:=by rw[<-hl,hszl]
      subst e2;rw[hl]at haddr hextc;have hR:∀len',len'=len->bS S w (n+1) (fun i=>aH[i]?) addr ((rows.drop off).take len'):=fun len' e=>by subst e;exact hrr.rE off len' fun h=>haddr (by omega)
      have hRc:bS S w (n+1) (fun i=>w.cell? ⟨l.bU,i,none⟩) addr ((rows.drop off).take len):=⟨(hR len rfl).1,fun i r hi j x hj=>let⟨y,hy,hd⟩:=(hR len rfl).2 i r hi j x hj;⟨y,(hown.cell _).trans hy,hd⟩⟩
      by_cases hroom:len+new.length<=cap
      .--there is fS
       have hl2:=(hel w rfl).1;have hn2:=(hel w rfl).2;have hcm:(len+new.length)*(n+1)<=cap*(n+1):=aF _ hroom;rw[bv]at hcm;obtain⟨ty,hty⟩:=hown;have dm:=run_storeCells_at P l.bU (addr+len*(n+1)) ty narr.toList 0 aH w hty (by simp only[dW,hns];omega) (fun v hv=>by rw[lq];exact hnone v hv);simp only[cN,dW,hns]at dm;have hown:kN w l.bU aH:=⟨ty,hty⟩
       obtain⟨p1,p2,p3,p4,p5⟩:=kh (w:=w) (b:=l.bU) (o:=addr+len*(n+1)) (n:=new.length*(n+1)) (vs:=narr.toList) hown (by simpa using hns);have hio:Io w (w.setRow l.bU (aH.toList.take (addr+len*(n+1))++narr.toList++aH.toList.drop (addr+len*(n+1)+new.length*(n+1))).toArray):=⟨rfl,rfl,rfl,ak _⟩
       generalize hw':w.setRow l.bU (aH.toList.take (addr+len*(n+1))++narr.toList++aH.toList.drop (addr+len*(n+1)+new.length*(n+1))).toArray=w' at*
       have hrun:(execOp ρ o).run P w=.ok (.value (.slice (some ⟨l.bU,addr,none⟩) (len+new.length) cap)) w':=by
        simp only[execOp,ho,hcal,resolve,hargs,Sem.run_bind,Sem.run_pure,Result.andThen_ok,invoke,builtin,Builtin.append_,hts,cu,aq,aR,hv0,bz,
         bF,ce,bp hus,eK hsz,hunx,hl2,hroom,if_true,j7,hn2,aM,if_false,kL,dm]
       have hfree:∀i o,a_ [(id,none)] (au H) i=some o->bP o=true->l.bU∉fc w φ (a_ [(id,none)] (au H)) i:=by
        intro i o hi ho hm;have hi':=hi;rw[bB]at hi';split at hi'
        .simp at hi'
        .rename_i hne;rw[eC rfl (hi.trans hi'.symm)]at hm;exact kj hI hi' hob ho rfl (fun e=>hne e.symm) hm (by rw[<-hphi];exact ik id)
       obtain⟨hs1,hI1⟩:=hkill.LF hS hK hfree p2 p3 p4 (p5 (by omega)) hio;have hget:∀k,(aV aH.toList (addr+len*(n+1)) narr.toList).toArray[k]?=if k<addr+len*(n+1)then aH[k]?else if k<addr+len*(n+1)+narr.size then narr[k-(addr+len*(n+1))]?else aH[k]?:=by intro k;rw[<-aU];show(aV aH.toList _ narr.toList)[k]?=_;rw[gu _ _ _ (by simp only[dW,hns];omega)];simp only[aU,dW]
       have hrows:bS S w' (n+1) (fun i=>(aV aH.toList (addr+len*(n+1)) narr.toList).toArray[i]?) addr ((rows.drop off).take len++new):=by
        refine lS (bS.mono hs1 ⟨(hR len rfl).1,fun i r hi j x hj=>?_⟩) (bS.mono hs1 ⟨hnR.1,fun i r hi j x hj=>?_⟩)
        .obtain ⟨y,hy,hd⟩:=(hR len rfl).2 i r hi j x hj;refine⟨y,?_,hd⟩;have hil:i<len:=by rw[<-hlen];exact(ah.1 hi).1
         have hjl:j<n+1:=by rw[<-(hR len rfl).1 i r hi];exact(ah.1 hj).1
         have hm:(i+1)*(n+1)<=len*(n+1):=aF _ hil;rw[cM]at hm;show(aV aH.toList (addr+len*(n+1)) narr.toList).toArray[_]?=_;rw[hget,if_pos (by omega)];exact hy
        .obtain ⟨y,hy,hd⟩:=hnR.2 i r hi j x hj;refine⟨y,?_,hd⟩;have hlt:=(aP.1 hy).1;show(aV aH.toList (addr+len*(n+1)) narr.toList).toArray[_]?=_;rw[hlen,hget,if_neg (by omega),if_pos (by omega)];rw[<-hy];show narr[_]?=narr[_]?;congr 1;omega
       have hsz':(aV aH.toList (addr+len*(n+1)) narr.toList).toArray.size=l.ext:=by simp only[fg];rw[c8 _ _ _ (by simp only[dW,hns];omega)];simpa using hext
       have hLl:(rows.drop (off+len+new.length)).length=rows.length-(off+len+new.length):=by simp
       have hLR:bS S w (n+1) (fun i=>aH[i]?) (addr+(len+new.length)*(n+1)) (rows.drop (off+len+new.length)):=by
        have h7:=hrr.rE (addr:=addr+(len+new.length)*(n+1)) (off+len+new.length) (rows.length-(off+len+new.length)) fun h=>by have:=haddr (by omega);rw[this,cg off len new.length,bv off (len+new.length)];omega
        rwa[List.take_of_length_le (by rw[hLl];omega)]at h7
       have hrows2:bS S w' (n+1) (fun i=>(aV aH.toList (addr+len*(n+1)) narr.toList).toArray[i]?) addr ((rows.drop off).take len++new++rows.drop (off+len+new.length)):=by refine lS hrows ?_;rw[hlen2];refine bS.mono hs1 ⟨hLR.1,fun i r hi j x hj=>?_⟩;obtain⟨y,hy,hd⟩:=hLR.2 i r hi j x hj;refine⟨y,?_,hd⟩;show(aV aH.toList (addr+len*(n+1)) narr.toList).toArray[_]?=_;rw[hget,if_neg (by rw[bv];omega),if_neg (by rw[hns,bv];omega)];exact hy
       have hlen3:((rows.drop off).take len++new++rows.drop (off+len+new.length)).length<=cap:=by rw[List.length_append,hlen2,hLl];omega
       have hname:=hI1.name hn ⟨l.bU,addr,n+1,l.ext,cap⟩ (.aH (n+1) ((rows.drop off).take len++new++rows.drop (off+len+new.length))) (fun _ j b hj hb hm=>hfree j b hj hb (by rwa[vJ (p2 _ fun e=>hfree j b hj hb (e▸ik j))]at hm))
        (.aH (b_ n) rfl hS hK p1 hsz' (by have h8:=aF (n+1) hlen3;simp only;omega) hrows2 hlen3)
       refine⟨.value _,_,_,hrun,.inl rfl,bg _,S,_,hs1,⟨fun _ h=>.inl h,(fW _ hn).same⟩,.c ?_,(hku (au H)▸hname).qj fun j=>ky j⟩;have e:ext φ nxt ⟨l.bU,addr,n+1,l.ext,cap⟩ nxt=⟨l.bU,addr,n+1,l.ext,cap⟩:=by simp[ext]
       have:=RC.dq (S:=S) (w:=w') (Kn:=kF Kn nxt (nxt+1)) (φ:=ext φ nxt ⟨l.bU,addr,n+1,l.ext,cap⟩) (id:=nxt) (off:=0) (len:=len+new.length) (cap:=cap) (addr:=addr)
        (.inr (by omega)) hroom (by rw[e];simp) (by rw[e];exact hextc) (by rw[e];simp)
       rw[e]at this;exact this
      .--there is none
       obtain⟨old,hold,hos,hoR,hoone⟩:=mC (P:=P) (sz:=n+1) (b_ n) hRc;rw[hlen]at hold hos;obtain⟨newCap,hnc,hrun⟩:=grows (some ⟨l.bU,addr,none⟩) len cap old hv0 (by omega) hlim (fun w' hw=>hold w' hw);refine⟨.value _,_,_,hrun,.inl rfl,?_⟩
       have hD:=room_new hn (w.drawn+1) (bg _) (a_ [(id,none)] (au H)) ((rows.drop off).take len++new) (old++narr++Builtin.zeroCells zv.cells (newCap-(len+new.length))) newCap hkill (by rw[hlen2];exact hnc)
        (by simp only[fh,hos,hns,zsize];rw[<-bv,<-bv];exact aF _ (by omega))
        (by
         refine lS ⟨hoR.1,fun i r hi j x hj=>?_⟩ ⟨hnR.1,fun i r hi j x hj=>?_⟩
         .obtain ⟨y,hy,hd⟩:=hoR.2 i r hi j x hj;refine⟨y,?_,hd⟩;have hlt:=(aP.1 hy).1;show(old++narr++_)[_]?=_;rw[bY (by rw[fh];omega),bY hlt];exact hy
         .obtain ⟨y,hy,hd⟩:=hnR.2 i r hi j x hj;refine⟨y,?_,hd⟩;have hlt:=(aP.1 hy).1;show(old++narr++_)[_]?=_;rw[hlen,bY (by rw[fh,hos];omega),Array.getElem?_append_right (by rw[hos];omega)];rw[<-hy,hos];show narr[_]?=narr[_]?;congr 1;omega)
       rw[hlen2]at hD;obtain⟨q1,S',φ',q2,q3,q4,q5⟩:=hD;have hL0:rows.drop (off+len+new.length)=[]:=List.drop_eq_nil_of_le (by omega);exact⟨q1,S',φ',q2,q3,q4,by rw[hku,hL0,List.append_nil];exact q5⟩
     .simp at h
    .simp at h
   .simp at h
end
end Go.Ev
