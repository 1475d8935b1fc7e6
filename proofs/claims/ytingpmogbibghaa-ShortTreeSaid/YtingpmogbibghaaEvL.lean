/- The model's operations, one by one, against the abstract machine's. Conditions: the relation of XEvC. -/
import Derived.Test.YtingpmogbibghaaEvF
open Array renaming getElem?_append_left->dq,getElem?_eq_some_iff->bm,getElem?_toList->bf,length_toList->gb,size_append->iQ
open Bool renaming false_eq_true->aO,not_false->oG,or_eq_true->dl
open Ieee renaming Datum->e_,Format->fR
open Ieee.Format renaming read->mM
open List renaming all_eq_true->aT,getD->nP,getElem?_cons_succ->fJ,getElem?_cons_zero->cW,getElem?_drop->bR,getElem?_eq_getElem->aB,getElem?_eq_some_iff->ao,getElem?_map->aK,getElem?_range->kG,getElem?_replicate->dC,getElem?_set_self->lp,getElem?_take->e9,getElem?_toArray->cJ,length->jp,length_cons->cg,length_nil->iU,length_replicate->a_,map_cons->aD,map_nil->aZ,map_toArray->fq,mem_map->bv,mem_of_getElem?->aR,mem_singleton->aq,range->bN,replicate->ak,size_toArray->iP
open Nat renaming add_assoc->cX,add_mul->bB,add_zero->cT,le_refl->am,le_succ->bE,lt_succ_self->bc,mod_lt->nF,mul_comm->gQ,mul_le_mul_right->aH,mul_one->lh,sub_self->mJ,succ_mul->dR,succ_pos->dv,zero_add->bJ
open Option renaming getD_some->fV,map_eq_some_iff->aG,map_some->bK
open Option.some renaming inj->aa
open Prod.mk renaming inj->af
namespace Go.Ev
abbrev Cq:=FuncId->Bool×List Bool
def ew(P:Program)(fields:Array Field):List Nat->Option (List (Nat×Nat))
 |[]=>some []
 |i::r=>
  match fields[i]?,ew P fields r with
  |some f,some l=>match fX P f.type with|some n=>some ((f.offset,n)::l)|none=>none
  |_,_=>none
def pw:Nat->Value
 |0=>.slice none 0 0
 |1=>.pointer none
 |_=>.nilFunc
def xJ:Nat->Operand->Bool
 |0,.const (.slice none 0 0)|1,.const (.pointer none)|2,.const .nilFunc=>true
 |_,_=>false
def Qp(P:Program)(g:TypeId->Option (List Kd)):List Field->Nat->Option (List Kd)
 |[],_=>some []
 |f::r,o=>
  if f.offset=o/\f.name≠ "_" then
   match g f.type with|some ks=>if fX P f.type=some ks.length then(match Qp P g r (o+ks.length)with|some l=>some (ks++l)|none=>none)else none|none=>none
  else none
def A5(P:Program):Nat->TypeId->Option (List Kd)
 |0,_=>none
 |d+1,t=>
  match P.underlying t with
  |some .bool=>if fX P t=some 1 then some [.b]else none
  |some (.int q)=>if fX P t=some 1 then some [.i q]else none
  |some .string=>if fX P t=some 1 then some [.s]else none
  |some (.array n e)=>match A5 P d e with|some ks=>if fX P e=some ks.length/\fX P t=some (n*ks.length)then some (ak n ks).flatten else none|none=>none
  |some (.struct fs)=>match Qp P (A5 P d) fs.toList 0 with|some ks=>if P.stoodInHeld t=false/\fX P t=some ks.length then some ks else none|none=>none
  |_=>none
def F4(P:Program)(t:TypeId):Option Bool:=((P.info? t).bind (·.zero)).map fun|.agg _=>true|_=>false
def z9(P:Program)(k e:TypeId):Option (Bool×List Kd×Bool×List Value):=match YW P k,A5 P 8 k,YW P e,kH P e with|some ka,some ks,some va,some z=>if F4 P e=some va then some (ka,ks,va,z)else none|_,_,_,_=>none
def rm(kind:Nat)(neg:Bool)(x y:Operand):K×List Operand:=if xJ kind y then(.ss kind neg,[x])else if xJ kind x then(.ss kind neg,[y])else(.gG,[])
def IZ(P:Program)(op:BinOp)(t:TypeId)(x y:Operand):K×List Operand:=
 match op with
 |.eql|.neq=>
  match P.underlying t with
  |some .bool=>(.vH (op==.neq),[x,y])
  |some (.int _)|some (.float _)|some .string=>(.AL op,[x,y])
  |some (.slice _)=>rm 0 (op==.neq) x y
  |some (.pointer _)=>rm 1 (op==.neq) x y
  |some (.func _ _ _)=>rm 2 (op==.neq) x y
  |some (.struct _)|some (.array _ _)=>match A5 P 8 t with|some ks=>if P.eqGuardType P.depth t=false then(.Ay (op==.neq) ks,[x,y])else(.gG,[])|none=>(.gG,[])
  |_=>(.gG,[])
 |op=>(.AL op,[x,y])
def qg(P:Program)(e:TypeId):Bool:=match P.info? e with|some i=>decide (0<i.bytes)&&decide (i.bytes<=16384)|none=>false
def um(P:Program)(b:Builtin)(args:List Operand)(ts:List TypeId):K×List Operand:=
 match b,ts with
 |.len,[t]=>match P.underlying t with|some .string=>(.len true,args)|some (.slice _)=>(.len false,args)|_=>(.gG,[])
 |.max,_=>(.tg true,args)
 |.min,_=>(.tg false,args)
 |.append,[s,x]=>
  match P.underlying s,P.underlying x with
  |some (.slice e),some (.slice _)=>match fX P e,kH P e with|some (n+1),some z=>if qg P e=true/\z.length=n+1 then(.append (n+1),args)else(.gG,[])|_,_=>(.gG,[])
  |some (.slice e),some (.int _)=>match fX P e,kH P e with|some (n+1),some z=>if qg P e=true/\z.length=n+1 then(.TB z,args)else(.gG,[])|_,_=>(.gG,[])
  |_,_=>(.gG,[])
 |.cap,[t]=>match P.underlying t with|some (.slice _)=>(.Nk,args)|_=>(.gG,[])
 |.copy,[d,_]=>
  match P.underlying d with
  |some (.slice e)=>match fX P e with|some (n+1)=>(.copy (n+1),args)|_=>(.gG,[])
  |_=>(.gG,[])
 |.clear,[s]=>
  match P.underlying s with
  |some (.slice e)=>match fX P e,kH P e with|some (n+1),some z=>if z.length=n+1 then(.clear z,args)else(.gG,[])|_,_=>(.gG,[])
  |_=>(.gG,[])
 |_,_=>(.gG,[])
def Mw(P:Program)(f:FuncId):Bool:=
 match P.funcs[f]?with
 |some fn=>
  !(fn.name== "runtime.NumGoroutine")&&fn.body.isNone&&(Extern.findNext fn).isNone&&(Extern.allGenericRows.lookup fn.name).isNone&&(Extern.allTypedRows.lookup fn.name).isNone&&(Extern.allRows.lookup fn.name).isNone&&fn.origin== "slices.overlaps" &&
  (match fn.params.toList with
   |t::_=>(match P.underlying t with|some (.slice e)=>(match fX P e with|some (_+1)=>true|_=>false)|_=>false)
   |[]=>false)
 |none=>false
def Hc:List Value->Bool
 |[.slice none 0 0]=>true
 |_=>false
def PW(P:Program)(cE:Cq)(e:TypeId)(z:List Value):Option Nat:=if(cE 1000000000).1=true/\Hc z=true then(match P.underlying e with|some (.slice ee)=>(match fX P ee with|some (m+1)=>some (m+1)|_=>none)|_=>none)else none
def Fh(P:Program)(t:TypeId):Bool:=match P.underlying t with|some (.slice _)=>true|_=>false
def yq(P:Program)(cE:Cq):Op->K×List Operand
 |.move x|.assign x=>(.mv,[x])
 |.pick c a b=>(.pick,[c,a,b])
 |.alloc e=>match kH P e with|some z=>(.alloc z,[])|none=>(.gG,[])
 |.box _ x=>(.box,[x])
 |.build t parts=>
  match P.underlying t,kH P t with
  |some (.struct fields),some z=>match ew P fields (parts.toList.map (·.1))with|some pl=>if fields.toList.all (fun f=>(fX P f.type).isSome)then(.build z pl,parts.toList.map (·.2))else(.gG,[])|none=>(.gG,[])
  |some (.array _ e),some z=>match fX P e with|some n=>(.build z (parts.toList.map fun p=>(p.1*n,n)),parts.toList.map (·.2))|none=>(.gG,[])
  |_,_=>(.gG,[])
 |.buildSlice t len parts=>
  match P.underlying t with
  |some (.slice e)=>match fX P e,kH P e with|some (n+1),some z=>if len*(n+1)<=4096/\z.length=n+1 then(.buildSlice (n+1) len ((bN (len*(n+1))).map fun i=>z.getD (i %(n+1)) undef) (parts.toList.map (·.1)),parts.toList.map (·.2))else(.gG,[])|_,_=>(.gG,[])
  |_=>(.gG,[])
 |.load t a=>match YW P t,fX P t with|some g,some n=>(if(cE 1000000000).1=true/\Fh P t=true/\g=false/\n=1 then .u6 else .load g n,[a])|_,_=>(.gG,[])
 |.store t a x=>match fX P t with|some n=>(.store n,[a,x])|none=>(.gG,[])
 |.nilCheck x=>(.nilCheck,[x])
 |.binOp op t x y _=>IZ P op t x y
 |.unOp op _ x=>(.un op,[x])
 |.convert s d x=>match P.underlying s,P.underlying d with|some (.int _),some (.int k)=>(.wN k,[x])|some (.int _),some (.float k)=>(.FG k,[x])|some .string,some .string=>(.ul,[x])|_,_=>(.gG,[])
 |.makeFunc (.func f) first captured=>if first.isEmpty then(.J1 f,captured.toList)else(.gG,[])
 |.makeSlice t l c=>
  match P.underlying t with
  |some (.slice e)=>match fX P e,kH P e with|some (n+1),some z=>if z.length=n+1/\qg P e=true then(match PW P cE e z with|some m=>.BX m|none=>.makeSlice z,[l,c])else(.gG,[])|_,_=>(.gG,[])
  |_=>(.gG,[])
 |.slice t x lo hi none=>
  match P.underlying t with
  |some .string=>(.slice true 1 lo.isSome hi.isSome,x::lo.toList++hi.toList)
  |some (.slice e)=>match fX P e with|some n=>(.slice false n lo.isSome hi.isSome,x::lo.toList++hi.toList)|none=>(.gG,[])
  |_=>(.gG,[])
 |.slice t x (some l) (some u) (some m)=>
  match P.underlying t with
  |some (.slice e)=>match fX P e with|some n=>(.CE n,[x,l,u,m])|none=>(.gG,[])
  |_=>(.gG,[])
 |.fieldAddr s x f=>
  match P.underlying s with
  |some (.struct fields)=>match fields[f]?with|some fl=>(match fX P fl.type with|some (m+1)=>(.fieldAddr fl.offset (m+1),[x])|_=>(.gG,[]))|none=>(.gG,[])
  |_=>(.gG,[])
 |.field s x f=>
  match P.underlying s with
  |some (.struct fields)=>match fields[f]?with|some fl=>(match YW P fl.type,fX P fl.type with|some g,some n=>(.field g fl.offset n,[x])|_,_=>(.gG,[]))|none=>(.gG,[])
  |_=>(.gG,[])
 |.indexAddr t x i=>
  match P.underlying t with
  |some (.slice e)=>match fX P e with|some n=>(.indexAddr none n,[x,i])|none=>(.gG,[])
  |some (.array len e)=>match fX P e with|some n=>(.indexAddr (some len) n,[x,i])|none=>(.gG,[])
  |_=>(.gG,[])
 |.index t x i=>
  match P.underlying t with
  |some .string=>(.qG,[x,i])
  |some (.array len e)=>match YW P e,fX P e with|some g,some n=>(.index g len n,[x,i])|_,_=>(.gG,[])
  |_=>(.gG,[])
 |.extract x i=>(.extract i,[x])
 |.makeMap t none=>
  match P.underlying t with
  |some (.map k e)=>match YW P k,YW P e with|some ka,some va=>(.makeMap ka va,[])|_,_=>(.gG,[])
  |_=>(.gG,[])
 |.lookup t x ix ok=>
  match P.underlying t with
  |some (.map k e)=>match z9 P k e with|some (ka,ks,va,z)=>(.lookup ka ks va z ok,[x,ix])|none=>(.gG,[])
  |_=>(.gG,[])
 |.mapEntry t m k=>
  match P.underlying t with
  |some (.map kt e)=>match z9 P kt e with|some (ka,ks,va,z)=>(.mapEntry ka ks va z,[m,k])|none=>(.gG,[])
  |_=>(.gG,[])
 |.entryStore t m s x=>
  match P.underlying t with
  |some (.map kt e)=>match z9 P kt e with|some (_,_,va,z)=>(.entryStore va z.length,[m,s,x])|none=>(.gG,[])
  |_=>(.gG,[])
 |.call c=>match c.callee with|.builtin b=>um P b c.args.toList c.argTypes.toList|.value (.func f)=>if(cE f).2.length=9 then(if Mw P f=true then(.Sx,c.args.toList)else(.gG,[]))else(.call (cE f).1 (cE f).2,.func f::c.args.toList)|.value f=>(.call false [],f::c.args.toList)|.invoke _ _=>(.gG,[])
 |_=>(.gG,[])
section
variable{P:Program}{S K:Nat->Prop}{w0 w:World}{Kn:Nat->Prop}{φ:Nat->gW}{hf:Nat->Option Ob}
def lV(S K:Nat->Prop)(w0 w:World)(Kn:Nat->Prop)(φ:Nat->gW)(hf:Nat->Option Ob)(nxt n':Nat)(v:TV)(u:fN)(val:Value)(w':World):Prop:=nxt<=n'/\∃S' φ',ia S w S' w'/\uO Kn φ (qi Kn nxt n') φ'/\gw S' w' (qi Kn nxt n') φ' v val/\Inv S' K w0 (qi Kn nxt n') φ' (bn u hf) w'
theorem gw.kn{Kn':Nat->Prop}{c:TV}{v:Value}(h:gw S w Kn φ c v)(hs:∀i,Kn i->Kn' i):gw S w Kn' φ c v:=h.mono (ia.refl _ _) ⟨hs,fun _ _=>rfl⟩
theorem lV.pure{n:Nat}{v:TV}{val:Value}(hI:Inv S K w0 Kn φ hf w)(h:gw S w Kn φ v val):lV S K w0 w Kn φ hf n n v [] val w:=⟨am _,S,φ,ia.refl _ _,rb _ _,h.kn fun _ hi=>.inl hi,hI.kn fun _ hi=>.inl hi⟩
def dL(P:Program)(o:Oper)(ρ:Operand->Value)(S K:Nat->Prop)(w0 w:World)(Kn:Nat->Prop)(φ:Nat->gW)(hf:Nat->Option Ob)(nxt n':Nat)(v:TV)(u:fN):Prop:=∃nx val w',(execOp ρ o).run P w=.ok nx w'/\(nx=.value val\/(nx=.skip/\val=undef))/\lV S K w0 w Kn φ hf nxt n' v u val w'
theorem M7{v:Value}{tv:TV}(h:cv v=some tv):gw S w Kn φ tv v:=by
 unfold cv at h;split at h
 .rename_i cs;split at h
  .rename_i hp;obtain rfl:=aa h;refine .agg (by simp) fun i x hi=>?_;rw[aK]at hi;obtain⟨y,hy,rfl⟩:=aG.1 hi;have hlt:i<cs.size:=by simpa using(ao.1 hy).1
   have e:cs.getD i undef=y:=by rw[bf]at hy;simp[hy]
   rw[e];exact .d (.lit (aT.1 hp y (aR hy)))
  .simp at h
 .split at h
  .rename_i hp;obtain rfl:=aa h;exact .c (.d (.lit hp))
  .simp at h
def kA.ok(S:Nat->Prop)(w:World)(Kn:Nat->Prop)(φ:Nat->gW)(e:kA)(tmps:Array Value):Prop:=∀t x,cn e t=some x->gw S w Kn φ x (tmps.getD t undef)
theorem uF{e:kA}{a:Act}(hg:DB S w)(hE:kA.ok S w Kn φ e a.tmps){x:Operand}{tv:TV}(h:lN e x=some tv):gw S w Kn φ tv (a.eval x):=by
 cases x with
 |tmp t=>exact hE t tv h
 |const v=>exact M7 h
 |global g=>obtain⟨d,hd,rfl⟩:=aG.1 (show(Ta g).map (fun d=>TV.c (.d d))=some tv from h);exact .c (.d (hg g d hd))
 |func f=>
  obtain rfl:TV.c (.d (.fn f []))=tv:=by simpa[lN]using h
  exact .c (.d (.fn rfl fun j x hj=>by simp at hj))
inductive rK:Value->Value->Prop
 |lit {v:Value} (h:fg v=true):rK v v
 |nan {k:FloatKind} {n m:Nat} (hn:yl k n) (hm:yl k m):rK (.float k n) (.float k m)
 |ex {k:FloatKind} {n:Nat}:rK (.complex k n 0) (.float k n)
theorem gw.JT{v val:Value}(h:gw S w Kn φ (.c (.d (.lit v))) val):rK v val:=by
 cases h with
 |c h=>cases h with
  |d h=>cases h with|lit h=>exact .lit h|nan hn hm=>exact .nan hn hm|ex=>exact .ex
def Rb:Value->Bool
 |.float _ _|.complex _ _ _=>true
 |_=>false
theorem gw.lit{v val:Value}(h:gw S w Kn φ (.c (.d (.lit v))) val)(hf:Rb v=false:=by rfl):val=v/\fg v=true:=by cases h.JT with|lit hp=>exact⟨rfl,hp⟩|nan=>cases hf|ex=>cases hf
theorem gw.GY{v val:Value}(h:rK v val):gw S w Kn φ (lv v) val:=by cases h with|lit h=>exact .c (.d (.lit h))|nan hn hm=>exact .c (.d (.nan hn hm))|ex=>exact .c (.d .ex)
theorem yl.eq{k:FloatKind}{n:Nat}(h:yl k n):∃s t,k.format.read n=.nan s t:=by
 unfold yl e_.isNaN at h;split at h
 .exact ⟨_,_,by assumption⟩
 .cases h
theorem Iu{k:FloatKind}{n:Nat}(h:yl k n)(y:Nat):k.format.add n y=none/\k.format.sub n y=none/\k.format.mul n y=none/\k.format.div n y=none/\k.format.order n y=none:=by obtain⟨s,t,h⟩:=h.eq;simp[fR.add,fR.sub,fR.mul,fR.div,fR.order,h,e_.sum,e_.product,e_.quotient,e_.order]
theorem It{k:FloatKind}{n:Nat}(h:yl k n)(y:Nat):k.format.add y n=none/\k.format.sub y n=none/\k.format.mul y n=none/\k.format.div y n=none/\k.format.order y n=none:=by obtain⟨s,t,h⟩:=h.eq;cases hy:k.format.read y<;>simp[fR.add,fR.sub,fR.mul,fR.div,fR.order,h,hy,e_.opposite,e_.sum,e_.product,e_.quotient,e_.order]
theorem Ns{op:BinOp}{k:FloatKind}{n m:Nat}(hn:yl k n)(hm:yl k m)(y:Value):o7 op (.float k n) y=o7 op (.float k m) y:=by cases y with|float k' y=>unfold o7 pM CW;obtain⟨a1,a2,a3,a4,a5⟩:=Iu hn y;obtain⟨b1,b2,b3,b4,b5⟩:=Iu hm y;simp only[a1,a2,a3,a4,a5,b1,b2,b3,b4,b5]|_=>rfl
theorem Nr{op:BinOp}{k:FloatKind}{n m:Nat}(hn:yl k n)(hm:yl k m)(y:Value):o7 op y (.float k n)=o7 op y (.float k m):=by
 cases y with
 |float k' y=>
  by_cases hk:k'=k
  .subst hk;unfold o7 pM CW;obtain⟨a1,a2,a3,a4,a5⟩:=It hn y;obtain⟨b1,b2,b3,b4,b5⟩:=It hm y;simp only[a1,a2,a3,a4,a5,b1,b2,b3,b4,b5]
  .unfold o7 pM CW;simp only[if_neg hk]
 |_=>rfl
theorem HK{op:BinOp}{a b va vb v:Value}(ha:rK a va)(hb:rK b vb)(h:o7 op a b=some v):o7 op va vb=some v:=by
 cases ha with
 |ex=>cases hb<;>(unfold o7 pM CW at h;cases h)
 |lit _=>cases hb with|lit _=>exact h|nan hn hm=>rw[<-Nr hn hm];exact h|ex=>exfalso;unfold o7 pM CW at h;cases a<;>cases h
 |nan hn hm=>cases hb with|lit _=>rw[<-Ns hn hm];exact h|nan hn' hm'=>rw[<-Ns hn hm,<-Nr hn' hm'];exact h|ex=>unfold o7 pM CW at h;cases h
theorem IE(k:FloatKind)(x y t:Nat):yl k ((Question.nanBits k x y).cut t):=by
 cases k with
 |f32=>
  show((mM Ieee.single) ((t %2)*2^31+0x7f800000+1+(t/2) %(2^23-1))).isNaN=true;have h1:((t %2)*2^31+0x7f800000+1+(t/2) %(2^23-1)) %2147483648=0x7f800001+(t/2) %8388607:=by omega
  unfold mM;show(e_.isNaN (if((t %2)*2^31+0x7f800000+1+(t/2) %(2^23-1)) %2147483648<8388608 then _ else if((t %2)*2^31+0x7f800000+1+(t/2) %(2^23-1)) %2147483648<2139095040 then _ else if((t %2)*2^31+0x7f800000+1+(t/2) %(2^23-1)) %2147483648=2139095040 then _ else _))=true;rw[h1,if_neg (by omega),if_neg (by omega),if_neg (by omega)];rfl
 |f64=>
  show((mM Ieee.double) ((t %2)*2^63+0x7ff0000000000000+1+(t/2) %(2^52-1))).isNaN=true;have h1:((t %2)*2^63+0x7ff0000000000000+1+(t/2) %(2^52-1)) %9223372036854775808=0x7ff0000000000001+(t/2) %4503599627370495:=by omega
  unfold mM;show(e_.isNaN (if((t %2)*2^63+0x7ff0000000000000+1+(t/2) %(2^52-1)) %9223372036854775808<4503599627370496 then _ else if((t %2)*2^63+0x7ff0000000000000+1+(t/2) %(2^52-1)) %9223372036854775808<9218868437227405312 then _ else if((t %2)*2^63+0x7ff0000000000000+1+(t/2) %(2^52-1)) %9223372036854775808=9218868437227405312 then _ else _))=true;rw[h1,if_neg (by omega),if_neg (by omega),if_neg (by omega)];rfl
theorem Fi(k:FloatKind):yl k (uS k):=by cases k<;>(unfold yl;decide)
theorem gw.rI{v:Value}(h:fg v=true):gw S w Kn φ (lv v) v:=.c (.d (.lit h))
theorem Lm{op:BinOp}{t:TypeId}{x y v:Value}(h:pM op x y=some v):(binOp op t x y).run P w=.ok v w/\fg v=true/\(∀a b,(eqGuard op t a b x y).run P w=.ok () w):=by
 have hg:∀a b,(match x,y with|.nilIface,.nilIface=>False|.agg _,.agg _=>False|_,_=>True)->(eqGuard op t a b x y).run P w=.ok () w:=by intro a b hxy;unfold eqGuard;cases op<;>simp<;>(cases x<;>cases y<;>simp_all)
 unfold pM at h;split at h
 .rename_i k a k' b;refine(fun⟨h1,h2⟩=>⟨h1,h2,fun a b=>hg a b trivial⟩:(_/\_)->_) ?_;split at h
  .split at h
   .simp at h
   .rename_i hb;obtain rfl:=aa h;simp[binOp,Op.shift,hb,fg]
  .split at h
   .simp at h
   .rename_i hb;obtain rfl:=aa h;simp[binOp,Op.shift,hb,fg]
  .rename_i op hshl hshr;split at h
   .rename_i hk;subst hk
    split at h<;>first
     |(simp at h;done)
     |(split at h
       .simp at h
       .rename_i hb;obtain rfl:=aa h;simp[binOp,Op.intDiv,hb,fg])
     |(obtain rfl:=aa h
       simp[binOp,Op.intArith,Op.intBits,Op.intCmp,fg])
   .simp at h
 .rename_i k a k' b;refine(fun⟨h1,h2⟩=>⟨h1,h2,fun a b=>hg a b trivial⟩:(_/\_)->_) ?_;split at h
  .rename_i hk;subst hk
   split at h<;>first
    |(simp at h;done)
    |(obtain⟨r,hr,rfl⟩:=aG.1 h
      simp[binOp,Op.floatArith,hr,fg])
    |(obtain rfl:=aa h
      simp[binOp,Op.floatCmp,fg])
  .simp at h
 .rename_i x y;refine(fun⟨h1,h2⟩=>⟨h1,h2,fun a b=>hg a b trivial⟩:(_/\_)->_) ?_
  split at h<;>first
   |(simp at h;done)
   |(split at h
     .simp at h
     .rename_i hb;obtain rfl:=aa h;refine⟨?_,rfl⟩;simp only[binOp,Op.stringOp,if_neg hb,Sem.run_pure])
   |(obtain rfl:=aa h
     simp[binOp,Op.stringOp,fg])
 .simp at h
theorem Ln{op:BinOp}{t:TypeId}{x y v:Value}(h:o7 op x y=some v):∃v' n,(binOp op t x y).run P w=.ok v' {w with drawn:=n}/\w.drawn<=n/\rK v v'/\(∀a b,(eqGuard op t a b x y).run P w=.ok () w):=by
 unfold o7 at h;split at h
 .rename_i z hz;obtain rfl:=aa h;obtain⟨h1,h2,h3⟩:=Lm (P:=P) (w:=w) (t:=t) hz;exact⟨_,w.drawn,h1,am _,.lit h2,h3⟩
 .rename_i hz;clear hz;unfold CW at h;split at h
  .rename_i k a k' b;split at h
   .rename_i hk;subst hk
    have key:∀op',(op'=.add\/op'=.sub\/op'=.mul\/op'=.quo)->op=op'->(Op.floatArith op k a b=(do pure (.float k (<-choose (.nanBits k a b)))))->some (Value.float k (uS k))=some v->
      ∃v' n,(binOp op t (.float k a) (.float k b)).run P w=.ok v' {w with drawn:=n}/\w.drawn<=n/\rK v v'/\(∀x y,(eqGuard op t x y (.float k a) (.float k b)).run P w=.ok () w):=by
     intro op' ho he hf hv;obtain rfl:=aa hv;refine⟨.float k ((Question.nanBits k a b).cut (w.tape w.drawn (.nanBits k a b))),w.drawn+1,?_,bE _,.nan (Fi k) (IE _ _ _ _),?_⟩
     .have e:binOp op t (.float k a) (.float k b)=Op.floatArith op k a b:=by subst he;rcases ho with rfl|rfl|rfl|rfl<;>simp[binOp]
      rw[e,hf];simp[run_choose,Question.forced]
     .intro x y;subst he;rcases ho with rfl|rfl|rfl|rfl<;>simp[eqGuard]
    split at h
    .split at h
     .rename_i e;exact key .add (by simp) rfl (by unfold Op.floatArith;simp[e]) h
     .cases h
    .split at h
     .rename_i e;exact key .sub (by simp) rfl (by unfold Op.floatArith;simp[e]) h
     .cases h
    .split at h
     .rename_i e;exact key .mul (by simp) rfl (by unfold Op.floatArith;simp[e]) h
     .cases h
    .split at h
     .rename_i e;exact key .quo (by simp) rfl (by unfold Op.floatArith;simp[e]) h
     .cases h
    .cases h
   .cases h
  .cases h
theorem H9{op:UnOp}{x v:Value}(h:Qn op x=some v):(Op.unary op x).run P w=.ok v w/\fg v=true:=by
 unfold Qn at h;split at h
 .split at h
  .obtain rfl:=aa h;simp[Op.unary,fg]
  .simp at h
 .split at h
  .obtain rfl:=aa h;simp[Op.unary,Op.intArith,fg]
  .obtain rfl:=aa h;simp[Op.unary,Op.intBits,fg]
  .simp at h
 .split at h
  .obtain rfl:=aa h;simp[Op.unary,fg]
  .simp at h
 .simp at h
end
section
variable{P:Program}{S K:Nat->Prop}{w0 w:World}{Kn:Nat->Prop}{φ:Nat->gW}{H:bD}{e:kA}{ρ:Operand->Value}{o:Oper}{call:Call}
 {nxt n':Nat} {v:TV} {u:fN} {aw:List Nat}
theorem qF(j:Nat):(Kn j\/j=nxt)<->qi Kn nxt (nxt+1) j:=by
 unfold qi;constructor
 .rintro (h|rfl)
  .exact .inl h
  .exact .inr (by omega)
 .rintro (h|h)
  .exact .inl h
  .exact .inr (by omega)
theorem Is(hI:Inv S K w0 Kn φ (az H) w):¬S w.heap.size/\¬K w.heap.size:=⟨fun h=>Nat.lt_irrefl _ (hI.vY _ h),fun h=>by have:=hI.oJ.G8 _ h;have:=hI.oJ.grow;omega⟩
theorem lV.box{hf:Nat->Option Ob}(hI:Inv S K w0 Kn φ (az H) w)(hh:hf=az H)(hn:¬Kn nxt){cs:List C}{aL:Array Value}(t:TypeId)(hlen:cs.length=aL.size)
  (h:∀(i:Nat)(x:C),cs[i]?=some x->RC S w Kn φ x (aL.getD i undef)):
  lV S K w0 w Kn φ hf nxt (nxt+1) (.c (.op nxt 0)) [(nxt,some (.box cs))] (.pointer (some ⟨w.heap.size,0,none⟩)) {w with heap:=w.heap.push (.cells aL t)}:=by
 subst hh;obtain⟨nS,nK⟩:=Is hI;have hs:=ia.push (w:=w) hI.vY (.cells aL t);refine⟨bE _,S,_,hs,⟨fun _ h=>.inl h,(kC _ hn).same⟩,.c ?_,(hI.alloc hn aL t 1 0 (.box cs) (.box rfl nS nK (Ez w aL t) hlen fun i x hi=>(h i x hi).mono hs (kC _ hn))).yB fun j=>qF j⟩;have:=RC.op (S:=S) (w:={w with heap:=w.heap.push (.cells aL t)}) (Kn:=qi Kn nxt (nxt+1)) (φ:=ext φ nxt ⟨w.heap.size,0,1,aL.size,0⟩) (id:=nxt) (off:=0) (.inr (by omega));simpa[ext]using this
theorem lV.aL{hf:Nat->Option Ob}(hI:Inv S K w0 Kn φ hf w)(hn:¬Kn nxt){sz cap:Nat}{rows:List (List D)}{aL:Array Value}(t:TypeId)(hsz:0<sz)
  (hcap:rows.length<=cap) (hfit:cap*sz<=aL.size) (h:cO S w sz (fun i=>aL[i]?) 0 rows):
  lV S K w0 w Kn φ hf nxt (nxt+1) (.c (.fK sz nxt 0 rows.length)) [(nxt,some (.aL sz rows))] (.slice (some ⟨w.heap.size,0,none⟩) rows.length cap) {w with heap:=w.heap.push (.cells aL t)}:=by
 have nS:¬S w.heap.size:=fun h=>Nat.lt_irrefl _ (hI.vY _ h);have nK:¬K w.heap.size:=fun h=>by have:=hI.oJ.G8 _ h;have:=hI.oJ.grow;omega
 have hs:=ia.push (w:=w) hI.vY (.cells aL t);have hrl:rows.length*sz<=cap*sz:=aH _ hcap;refine⟨bE _,S,_,hs,⟨fun _ h=>.inl h,(kC _ hn).same⟩,.c ?_,(hI.alloc hn aL t sz cap (.aL sz rows) (.aL hsz rfl nS nK (Ez w aL t) rfl (by simp only;omega) (h.mono hs) hcap)).yB fun j=>qF j⟩;have e:ext φ nxt ⟨w.heap.size,0,sz,aL.size,cap⟩ nxt=⟨w.heap.size,0,sz,aL.size,cap⟩:=by simp[ext]
 have:=RC.fK (S:=S) (w:={w with heap:=w.heap.push (.cells aL t)}) (Kn:=qi Kn nxt (nxt+1)) (φ:=ext φ nxt ⟨w.heap.size,0,sz,aL.size,cap⟩) (id:=nxt) (off:=0) (len:=rows.length) (cap:=cap) (addr:=0)
  (.inr (by omega)) hcap (by rw[e];simp) (by rw[e];simpa using hfit) (by rw[e];simp)
 rw[e]at this;simpa using this
theorem zI(t:TypeId)(val:Value):(newVar t val).run P w=.ok ⟨w.heap.size,0,none⟩ {w with heap:=w.heap.push (.cells val.cells t)}:=by simp[newVar,newRow,newObj,Sem.run]
theorem Md{z:List Value}{aL:Array Value}(hz:aL.toList=z)(hp:∀x∈z,fg x=true):(fL z).length=aL.size/\∀(i:Nat)(x:C),(fL z)[i]?=some x->RC S w Kn φ x (aL.getD i undef):=by
 subst hz;refine⟨by simp[fL],fun i x hi=>?_⟩;simp only[fL,aK]at hi;obtain⟨y,hy,rfl⟩:=aG.1 hi;have e:aL.getD i undef=y:=by rw[bf]at hy;simp[hy]
 rw[e];exact .d (.lit (hp y (aR hy)))
theorem LR{t:TypeId}{z:List Value}(ho:o.op=.alloc t)(hz:kH P t=some z)(hI:Inv S K w0 Kn φ (az H) w)(hn0:nxt<n'->¬Kn nxt)
  (h:cI call (.alloc z) [] H nxt=some (v,u,aw,n')):dL P o ρ S K w0 w Kn φ (az H) nxt n' v u:=by
 obtain⟨rfl,rfl,rfl,rfl⟩:TV.c (.op nxt 0)=v/\[(nxt,some (.box (fL z)))]=u/\[]=aw/\nxt+1=n':=by simpa[cI]using h
 have hn:=hn0 (bc _);obtain⟨val,hv,hc,hp⟩:=qt hz w;obtain⟨h1,h2⟩:=Md (S:=S) (w:=w) (Kn:=Kn) (φ:=φ) hc hp;refine⟨.value _,_,_,?_,.inl rfl,lV.box hI rfl hn t h1 h2⟩;simp[execOp,ho,Instr.alloc,hv,zI]
theorem QO{t:TypeId}{x:Operand}(ho:o.op=.box t x)(hI:Inv S K w0 Kn φ (az H) w)(hn0:nxt<n'->¬Kn nxt){tv:Option TV}(hx:∀y,tv=some y->gw S w Kn φ y (ρ x))
  (h:cI call .box [tv] H nxt=some (v,u,aw,n')):dL P o ρ S K w0 w Kn φ (az H) nxt n' v u:=by
 cases tv with
 |none=>simp[cI]at h
 |some y=>
  simp only[cI]at h;split at h
  .rename_i cs hcs;obtain⟨rfl,rfl,rfl,rfl⟩:TV.c (.op nxt 0)=v/\[(nxt,some (.box cs))]=u/\[]=aw/\nxt+1=n':=by simpa using h
   have hn:=hn0 (bc _);obtain⟨h1,h2,_⟩:=(hx y rfl).cells hcs;refine⟨.value _,_,_,?_,.inl rfl,lV.box hI rfl hn t h1 h2⟩;simp[execOp,ho,Instr.box,zI]
  .simp at h
theorem Jo{t:TypeId}{agg:Bool}{n:Nat}(ha:YW P t=some agg)(hs:fX P t=some n)(hI:Inv S K w0 Kn φ (az H) w){p:C}{pv:Value}(hp:RC S w Kn φ p pv)(hn0:nxt<n'->¬Kn nxt)
  (h:mF agg n p H nxt=some (v,u,aw,n')):∃val,(Instr.loadAt t pv).run P w=.ok val w/\lV S K w0 w Kn φ (az H) nxt n' v u val w:=by
 unfold mF at h;split at h
 case h_2=>simp at h
 rename_i id bw;split at h
 case h_2=>simp at h
 rename_i sz slots ho;split at h
 case isFalse=>simp at h
 rename_i hag;obtain⟨rfl,rfl⟩:=hag;obtain⟨hk,hro⟩:=hI.jy id _ ho;have hl:(φ id).sz=1:=by cases hro with|nst hsz hl=>exact hl
 cases hp with
 |ep hk'=>
  have ea:(⟨(φ id).cQ,(φ id).aN+bw*(φ id).sz+0,none⟩:Addr)=⟨(φ id).cQ,(φ id).aN+bw,none⟩:=by rw[hl,lh,cT]
  rw[ea];split at h
  .rename_i hsl;obtain⟨rfl,rfl,rfl,rfl⟩:TV.c (.d (.lit (.slice none 0 0)))=v/\[]=u/\[id]=aw/\nxt=n':=by simpa using h
   cases hro with
   |nst hsz hl hS hK hown hext hfit hr hv=>
    obtain⟨x,h1,h2⟩:=hr bw _ hsl;cases h2
    obtain⟨val,q1,q2⟩:=xr (S:=S) (Kn:=Kn) (φ:=φ) ha hs (cells:=[.d (.lit (.slice none 0 0))]) (b:=(φ id).cQ) (o:=(φ id).aN+bw) (fun j x hj=>by
     cases j with
     |succ j=>simp at hj
     |zero=>
      obtain rfl:C.d (.lit (.slice none 0 0))=x:=by simpa using hj
      exact⟨_,(hown.cell _).trans h1,.d (.lit rfl)⟩) (v:=TV.c (.d (.lit (.slice none 0 0)))) rfl
    exact⟨val,by simp[Instr.loadAt,Instr.sureAddr,q1],lV.pure hI q2⟩
  .rename_i rows hsl;obtain⟨rfl,rfl,rfl,rfl⟩:TV.c (.fK sz nxt 0 rows.length)=v/\[(nxt,some (Ob.aL sz rows)),(id,some (Ob.nst sz (slots.set bw (.ez nxt rows.length))))]=u/\[id]=aw/\nxt+1=n':=by simpa using h
   have hn:=hn0 (bc _);obtain⟨l,x,h1,h2,h3⟩:=hI.split ho hsl hn
   obtain⟨val,q1,q2⟩:=xr (S:=S) (Kn:=fun j=>Kn j\/j=nxt) (φ:=ext φ nxt l) ha hs (cells:=[.fK sz nxt 0 rows.length]) (b:=(φ id).cQ) (o:=(φ id).aN+bw) (fun j x' hj=>by
     cases j with
     |succ j=>simp at hj
     |zero=>
      obtain rfl:C.fK sz nxt 0 rows.length=x':=by simpa using hj
      exact⟨x,h1,h2⟩) (v:=TV.c (.fK sz nxt 0 rows.length)) rfl
   refine⟨val,by simp[Instr.loadAt,Instr.sureAddr,q1],bE _,S,ext φ nxt l,ia.refl _ _,⟨fun i hi=>.inl hi,(kC l hn).same⟩,q2.kn fun i=>(qF i).1,h3.yB fun i=>qF i⟩
  .simp at h
theorem Ik{t:TypeId}{x:Operand}{agg:Bool}{n:Nat}(ho:o.op=.load t x)(ha:YW P t=some agg)(hs:fX P t=some n)(hI:Inv S K w0 Kn φ (az H) w)
  {tv:Option TV} (hx:∀y,tv=some y->gw S w Kn φ y (ρ x)) (h:cI call (.load agg n) [tv] H nxt=some (v,u,aw,n')):dL P o ρ S K w0 w Kn φ (az H) nxt n' v u:=by
 cases tv with
 |none=>simp[cI]at h
 |some y=>
  cases y with
  |c p=>
   change (match iC agg n p H with|some (v,aw)=>some (v,[],aw,nxt)|none=>none)=_ at h;split at h
   .rename_i v' ids' hl;obtain⟨rfl,rfl,rfl,rfl⟩:v'=v/\[]=u/\ids'=aw/\nxt=n':=by simpa using h
    cases hx _ rfl with|c hp=>obtain⟨val,h1,h2⟩:=zK ha hs hI hp hl;refine⟨.value _,_,_,?_,.inl rfl,lV.pure hI h2⟩;simp[execOp,ho,h1]
   .simp at h
  |_=>simp[cI]at h
theorem LK{t:TypeId}{x:Operand}(ho:o.op=.load t x)(ha:YW P t=some false)(hs:fX P t=some 1)(hI:Inv S K w0 Kn φ (az H) w)(hn0:nxt<n'->¬Kn nxt)
  {tv:Option TV} (hx:∀y,tv=some y->gw S w Kn φ y (ρ x)) (h:cI call .u6 [tv] H nxt=some (v,u,aw,n')):dL P o ρ S K w0 w Kn φ (az H) nxt n' v u:=by
 cases tv with
 |none=>simp[cI]at h
 |some y=>
  cases y with
  |c p=>
   change (match iC false 1 p H with|some (v,aw)=>some (v,[],aw,nxt)|none=>mF false 1 p H nxt)=_ at h;split at h
   .rename_i v' ids' hl;exact Ik (call:=call) ho ha hs hI (tv:=some (.c p)) hx (by show(match iC false 1 p H with|some (v,aw)=>some (v,[],aw,nxt)|none=>none)=_;rw[hl];exact h)
   .cases hx _ rfl with|c hp=>obtain⟨val,h1,h2⟩:=Jo ha hs hI hp hn0 h;refine⟨.value _,_,_,?_,.inl rfl,h2⟩;simp[execOp,ho,h1]
  |_=>simp[cI]at h
theorem dL.pure{val:Value}(hI:Inv S K w0 Kn φ (az H) w)(hr:(execOp ρ o).run P w=.ok (.value val) w)(h:gw S w Kn φ v val):dL P o ρ S K w0 w Kn φ (az H) nxt nxt v []:=⟨.value val,val,w,hr,.inl rfl,lV.pure hI h⟩
theorem PU{x:Operand}(ho:o.op=.move x\/o.op=.assign x)(hI:Inv S K w0 Kn φ (az H) w){tv:Option TV}(hx:∀y,tv=some y->gw S w Kn φ y (ρ x))
  (h:cI call .mv [tv] H nxt=some (v,u,aw,n')):dL P o ρ S K w0 w Kn φ (az H) nxt n' v u:=by
 cases tv with
 |none=>simp[cI]at h
 |some y=>
  obtain⟨rfl,rfl,rfl,rfl⟩:y=v/\[]=u/\[]=aw/\nxt=n':=by simpa[cI]using h
  refine dL.pure hI ?_ (hx _ rfl);rcases ho with ho|ho<;>simp[execOp,ho]
theorem OF{c x y:Operand}(ho:o.op=.pick c x y)(hI:Inv S K w0 Kn φ (az H) w){tc tx ty:Option TV}(hc:∀z,tc=some z->gw S w Kn φ z (ρ c))
  (hx:∀z,tx=some z->gw S w Kn φ z (ρ x)) (hy:∀z,ty=some z->gw S w Kn φ z (ρ y))
  (h:cI call .pick [tc,tx,ty] H nxt=some (v,u,aw,n')):dL P o ρ S K w0 w Kn φ (az H) nxt n' v u:=by
 match tc,h,hc with
 |some (.c (.d (.lit (.bool b)))),h,hc=>
  change (match(if b then tx else ty)with|some v=>some (v,[],[],nxt)|none=>none)=_ at h;obtain⟨hb,_⟩:=(hc _ rfl).lit;cases b
  .simp only[aO,if_false]at h;cases ty with
   |none=>simp at h
   |some z=>
    obtain⟨rfl,rfl,rfl,rfl⟩:z=v/\[]=u/\[]=aw/\nxt=n':=by simpa using h
    exact dL.pure hI (by simp[execOp,ho,hb,asBool]) (hy _ rfl)
  .simp only[if_true]at h;cases tx with
   |none=>simp at h
   |some z=>
    obtain⟨rfl,rfl,rfl,rfl⟩:z=v/\[]=u/\[]=aw/\nxt=n':=by simpa using h
    exact dL.pure hI (by simp[execOp,ho,hb,asBool]) (hx _ rfl)
theorem EH{x:Operand}(ho:o.op=.nilCheck x)(hI:Inv S K w0 Kn φ (az H) w){tv:Option TV}(hx:∀y,tv=some y->gw S w Kn φ y (ρ x))
  (h:cI call .nilCheck [tv] H nxt=some (v,u,aw,n')):dL P o ρ S K w0 w Kn φ (az H) nxt n' v u:=by
 match tv,h,hx with
 |some (.c c),h,hx=>
  have key:(∃a,ρ x=.pointer (some a))\/(∃g vs,ρ x=.func (.func g) #[] vs)->some (TV.c c,([]:fN),([]:List Nat),nxt)=some (v,u,aw,n')->dL P o ρ S K w0 w Kn φ (az H) nxt n' v u:=by
   intro hc h;obtain⟨rfl,rfl,rfl,rfl⟩:TV.c c=v/\[]=u/\[]=aw/\nxt=n':=by simpa using h
   refine dL.pure hI ?_ (hx _ rfl);rcases hc with⟨a,hc⟩|⟨g,vs,hc⟩<;>simp[execOp,ho,hc]
  have hr:=hx _ rfl;generalize hv0:ρ x=val at hr;cases hr with
  |c hr=>
   cases hr with
   |d hd=>cases hd with|lit hp=>simp[cI]at h|nan=>simp[cI]at h|ex=>simp[cI]at h|sl=>simp[cI]at h|uB=>simp[cI]at h|pt f hb=>exact key (.inl ⟨_,hv0⟩) h|fn hl hr=>exact key (.inr ⟨_,_,hv0⟩) h
   |fK=>simp[cI]at h
   |ep hk=>exact key (.inl ⟨_,hv0⟩) h
   |op hk=>exact key (.inl ⟨_,hv0⟩) h
   |pS hl hr=>exact key (.inr ⟨_,_,hv0⟩) h
   |om hk=>simp[cI]at h
theorem My{k:FloatKind}{n m:Nat}(h:n %k.format.signWeight=m %k.format.signWeight)(hn:yl k n):yl k m:=by
 unfold yl mM at*;rw[h]at hn;dsimp only at hn|-;split at hn
 .cases hn
 .rw [if_neg (by assumption)];split at hn
  .cases hn
  .rw [if_neg (by assumption)];split at hn
   .cases hn
   .rw [if_neg (by assumption)];rfl
theorem ES{k:FloatKind}{n:Nat}(h:yl k n):yl k (Op.negFloat k n):=by refine My ?_ h;unfold Op.negFloat fR.signWeight;rw[Nat.xor_mod_two_pow,Nat.mod_self,Nat.xor_zero]
theorem I8{op:UnOp}{a va v:Value}(ha:rK a va)(h:Qn op a=some v):∃v',Qn op va=some v'/\rK v v':=by
 cases ha with
 |lit _=>exact⟨v,h,.lit (H9 (P:=default) (w:=default) h).2⟩
 |ex=>cases h
 |nan hn hm=>unfold Qn at h|-;cases op with|neg=>obtain rfl:=aa h;exact⟨_,rfl,.nan (ES hn) (ES hm)⟩|_=>cases h
theorem Sy{t:TypeId}{op:UnOp}{x:Operand}(ho:o.op=.unOp op t x)(hI:Inv S K w0 Kn φ (az H) w){tv:Option TV}(hx:∀y,tv=some y->gw S w Kn φ y (ρ x))
  (h:cI call (.un op) [tv] H nxt=some (v,u,aw,n')):dL P o ρ S K w0 w Kn φ (az H) nxt n' v u:=by
 match tv,h,hx with
 |some (.c (.d (.lit z))),h,hx=>
  change (match Qn op z with|some v=>some (lv v,[],[],nxt)|none=>none)=_ at h;split at h
  .rename_i r hr;obtain⟨rfl,rfl,rfl,rfl⟩:lv r=v/\[]=u/\[]=aw/\nxt=n':=by simpa using h
   obtain⟨r',h3,h4⟩:=I8 (hx _ rfl).JT hr;obtain⟨h1,h2⟩:=H9 (P:=P) (w:=w) h3;exact dL.pure hI (by simp[execOp,ho,h1]) (.GY h4)
  .simp at h
theorem QP{t ty:TypeId}{op:BinOp}{x y:Operand}(ho:o.op=.binOp op t x y ty)(hI:Inv S K w0 Kn φ (az H) w){tx tz:Option TV}(hx:∀z,tx=some z->gw S w Kn φ z (ρ x))
  (hy:∀z,tz=some z->gw S w Kn φ z (ρ y)) (h:cI call (.AL op) [tx,tz] H nxt=some (v,u,aw,n')):dL P o ρ S K w0 w Kn φ (az H) nxt n' v u:=by
 match tx,tz,h,hx,hy with
 |some (.c (.d (.lit a))),some (.c (.d (.lit b))),h,hx,hy=>
  change (match o7 op a b with|some v=>some (lv v,[],[],nxt)|none=>none)=_ at h;split at h
  .rename_i r hr;obtain⟨rfl,rfl,rfl,rfl⟩:lv r=v/\[]=u/\[]=aw/\nxt=n':=by simpa using h
   have hr:=HK (hx _ rfl).JT (hy _ rfl).JT hr;obtain⟨r',n,h1,hle,h4,h3⟩:=Ln (P:=P) (w:=w) (t:=t) hr;exact⟨.value r',r',_,by simp[execOp,ho,h1,h3],.inl rfl,am _,S,φ,ia.drew _ _ _,rb _ _,.GY h4,(hI.drew n hle).kn fun _ hi=>.inl hi⟩
  .simp at h
theorem zL{t:TypeId}(hu:P.underlying t=some .bool)(a b:Bool):(Op.equal t (.bool a) (.bool b)).run P w=.ok (a==b) w:=by show(Op.equalIn (9999+1) t (.bool a) (.bool b)).run P w=_;unfold Op.equalIn;rw[Sem.run_bind,bZ hu];rfl
theorem JM{t ty:TypeId}{op:BinOp}{x y:Operand}(ho:o.op=.binOp op t x y ty)(hop:op=.eql\/op=.neq)(hu:P.underlying t=some .bool)(hI:Inv S K w0 Kn φ (az H) w)
  {tx tz:Option TV} (hx:∀z,tx=some z->gw S w Kn φ z (ρ x)) (hy:∀z,tz=some z->gw S w Kn φ z (ρ y))
  (h:cI call (.vH (op==.neq)) [tx,tz] H nxt=some (v,u,aw,n')):dL P o ρ S K w0 w Kn φ (az H) nxt n' v u:=by
 match tx,tz,h,hx,hy with
 |some (.c (.d (.lit (.bool a)))),some (.c (.d (.lit (.bool b)))),h,hx,hy=>
  obtain⟨ha,_⟩:=(hx _ rfl).lit;obtain⟨hb,_⟩:=(hy _ rfl).lit;change some (lv (.bool (if(op==.neq)then !(a==b)else a==b)),([]:fN),([]:List Nat),nxt)=_ at h;obtain⟨rfl,rfl,rfl,rfl⟩:lv (.bool (if(op==.neq)then !(a==b)else a==b))=v/\[]=u/\[]=aw/\nxt=n':=by simpa using h
  refine dL.pure hI ?_ (.rI rfl);rcases hop with rfl|rfl
  .simp [execOp,ho,ha,hb,eqGuard,binOp,zL hu]
  .simp [execOp,ho,ha,hb,eqGuard,binOp,zL hu]
theorem GX{s d:TypeId}{k k':IntKind}{x:Operand}(ho:o.op=.convert s d x)(hs:P.underlying s=some (.int k'))(hd:P.underlying d=some (.int k))(hI:Inv S K w0 Kn φ (az H) w)
  {tv:Option TV} (hx:∀y,tv=some y->gw S w Kn φ y (ρ x)) (h:cI call (.wN k) [tv] H nxt=some (v,u,aw,n')):dL P o ρ S K w0 w Kn φ (az H) nxt n' v u:=by
 match tv,h,hx with
 |some (.c (.d (.lit (.int k0 n)))),h,hx=>
  obtain⟨ha,_⟩:=(hx _ rfl).lit;obtain⟨rfl,rfl,rfl,rfl⟩:lv (.int k (k.wrap n))=v/\[]=u/\[]=aw/\nxt=n':=by simpa[cI]using h
  exact dL.pure hI (by simp[execOp,ho,ha,convert,bZ hs,bZ hd,Conv.intToInt]) (.rI rfl)
theorem LP{s d:TypeId}{k':IntKind}{k:FloatKind}{x:Operand}(ho:o.op=.convert s d x)(hs:P.underlying s=some (.int k'))(hd:P.underlying d=some (.float k))(hI:Inv S K w0 Kn φ (az H) w)
  {tv:Option TV} (hx:∀y,tv=some y->gw S w Kn φ y (ρ x)) (h:cI call (.FG k) [tv] H nxt=some (v,u,aw,n')):dL P o ρ S K w0 w Kn φ (az H) nxt n' v u:=by
 match tv,h,hx with
 |some (.c (.d (.lit (.int k0 n)))),h,hx=>
  obtain⟨ha,_⟩:=(hx _ rfl).lit;obtain⟨rfl,rfl,rfl,rfl⟩:lv (.float k (k.nearest n))=v/\[]=u/\[]=aw/\nxt=n':=by simpa[cI]using h
  exact dL.pure hI (by simp[execOp,ho,ha,convert,bZ hs,bZ hd,Conv.intToFloat]) (.rI rfl)
theorem EM{s d:TypeId}{x:Operand}(ho:o.op=.convert s d x)(hs:P.underlying s=some .string)(hd:P.underlying d=some .string)(hI:Inv S K w0 Kn φ (az H) w)
  {tv:Option TV} (hx:∀y,tv=some y->gw S w Kn φ y (ρ x)) (h:cI call .ul [tv] H nxt=some (v,u,aw,n')):dL P o ρ S K w0 w Kn φ (az H) nxt n' v u:=by
 match tv,h,hx with
 |some (.c (.d (.lit (.string s0)))),h,hx=>
  obtain⟨ha,_⟩:=(hx _ rfl).lit;obtain⟨rfl,rfl,rfl,rfl⟩:lv (.string s0)=v/\[]=u/\[]=aw/\nxt=n':=by simpa[cI]using h
  exact dL.pure hI (by simp[execOp,ho,ha,convert,bZ hs,bZ hd]) (.rI rfl)
theorem GW{x:Operand}{i:Nat}(ho:o.op=.extract x i)(hI:Inv S K w0 Kn φ (az H) w){tv:Option TV}(hx:∀y,tv=some y->gw S w Kn φ y (ρ x))
  (h:cI call (.extract i) [tv] H nxt=some (v,u,aw,n')):dL P o ρ S K w0 w Kn φ (az H) nxt n' v u:=by
 match tv,h,hx with
 |some (.jA xs),h,hx=>
  change (match xs[i]?with|some v=>some (v,[],[],nxt)|none=>none)=_ at h;split at h
  .rename_i y hy;obtain⟨rfl,rfl,rfl,rfl⟩:y=v/\[]=u/\[]=aw/\nxt=n':=by simpa using h
   have hr:=hx _ rfl;generalize hv0:ρ x=val at hr;cases hr with
   |@jA _ aL hlen hr=>
    have hlt:i<aL.size:=by rw[<-hlen];exact(ao.1 hy).1
    refine dL.pure (val:=aL.getD i undef) hI ?_ (hr i y hy);simp[execOp,ho,hv0,Instr.extract,hlt]
  .simp at h
theorem CU{s:TypeId}{f n:Nat}{fields:Array Field}{fl:Field}{x:Operand}(ho:o.op=.fieldAddr s x f)(hu:P.underlying s=some (.struct fields))(hf:fields[f]?=some fl)
  (hs:fX P fl.type=some (n+1)) (hI:Inv S K w0 Kn φ (az H) w) {tv:Option TV} (hx:∀y,tv=some y->gw S w Kn φ y (ρ x))
  (h:cI call (.fieldAddr fl.offset (n+1)) [tv] H nxt=some (v,u,aw,n')):dL P o ρ S K w0 w Kn φ (az H) nxt n' v u:=by
 match tv,h,hx with
 |some (.c c),h,hx=>
  change (match lg fl.offset (n+1) c with|some y=>some (TV.c y,[],[],nxt)|none=>none)=_ at h;split at h
  .rename_i y hy;obtain⟨rfl,rfl,rfl,rfl⟩:TV.c y=v/\[]=u/\[]=aw/\nxt=n':=by simpa using h
   have run:∀b off,ρ x=.pointer (some ⟨b,off,none⟩)->(execOp ρ o).run P w=.ok (.value (.pointer (some ⟨b,off+fl.offset,none⟩))) w:=by intro b off hv;simp[execOp,ho,hv,Instr.fieldAt,bZ hu,hf,Instr.sureAddr,fieldPlace,iA hs,qO]
   have hr:=hx _ rfl;generalize hv0:ρ x=val at hr;cases hr with
   |c hr=>
    cases hr with
    |d hd=>
     cases hd with
     |@pt cells b off g hb hcell hrd=>
      simp only[lg]at hy;split at hy
      .obtain rfl:=aa hy;refine dL.pure hI (run _ _ hv0) (.c (.d (.zR hb fun j z hj=>?_)));rw[e9]at hj;split at hj
       .rw [bR]at hj;exact⟨_,by rw[cX];exact hcell _ _ hj,hrd _ _ hj⟩
       .simp at hj
      .simp at hy
     |_=>simp[lg]at hy
    |@op id off hk=>
     obtain rfl:C.op id (off+fl.offset)=y:=by simpa[lg]using hy
     refine dL.pure hI (run _ _ hv0) (.c ?_);rw[cX];exact .op hk
    |@ep id bw off hk=>
     obtain rfl:C.ep id bw (off+fl.offset)=y:=by simpa[lg]using hy
     refine dL.pure hI (run _ _ hv0) (.c ?_);rw[cX];exact .ep hk
    |_=>simp[lg]at hy
  .simp at h
theorem LL{str:Bool}{t:TypeId}{x:Operand}{c:Go.Call}(ho:o.op=.call c)(hcal:c.callee=.builtin .len)(hargs:c.args= #[x])(hts:c.argTypes= #[t])
  (hu:if str then P.underlying t=some .string else∃b,P.underlying t=some (.slice b)) (hI:Inv S K w0 Kn φ (az H) w) {tv:Option TV} (hx:∀y,tv=some y->gw S w Kn φ y (ρ x))
  (h:cI call (.len str) [tv] H nxt=some (v,u,aw,n')):dL P o ρ S K w0 w Kn φ (az H) nxt n' v u:=by
 match tv,h,hx with
 |some (.c y),h,hx=>
  change (match vc str y with|some n=>some (lv (.int .i64 n),[],[],nxt)|none=>none)=_ at h;split at h
  .rename_i n hn;obtain⟨rfl,rfl,rfl,rfl⟩:lv (.int .i64 n)=v/\[]=u/\[]=aw/\nxt=n':=by simpa using h
   refine dL.pure hI ?_ (.rI rfl);have hr:=hx _ rfl;generalize hv0:ρ x=val at hr;cases str with
   |true=>
    simp only[if_true]at hu
    match y,hn,hr with
    |.d (.lit (.string s)),hn,hr=>
     obtain⟨rfl,_⟩:=hr.lit;obtain rfl:(s.size:Int)=n:=by simpa[vc]using hn
     simp[execOp,ho,hcal,hargs,hts,resolve,invoke,builtin,hv0,Builtin.len_,bZ hu,goInt]
   |false=>
    simp only[aO,if_false]at hu;obtain⟨b,hu⟩:=hu;have hsl:∀a l k,val=.slice a l k->n=(l:Int)->(execOp ρ o).run P w=.ok (.value (.int .i64 n)) w:=by intro a l k e1 e2;simp[execOp,ho,hcal,hargs,hts,resolve,invoke,builtin,hv0,e1,e2,Builtin.len_,bZ hu,goInt]
    match y,hn,hr with
    |.d (.lit (.slice none 0 0)),hn,hr=>obtain⟨rfl,_⟩:=hr.lit;exact hsl _ _ _ rfl (by simpa[vc]using hn.symm)
    |.d (.sl sz rows),hn,hr=>
     cases hr with
     |c hr=>cases hr with
      |d hd=>cases hd with|sl=>exact hsl _ _ _ rfl (by simpa[vc]using hn.symm)|uB=>exact hsl _ _ _ rfl (by simpa[vc]using hn.symm)
    |.fK sz id off len,hn,hr=>
     cases hr with
     |c hr=>cases hr with|fK=>exact hsl _ _ _ rfl (by simpa[vc]using hn.symm)
  .simp at h
theorem sT{op:BinOp}(hop:op=.eql\/op=.neq){t:TypeId}{x y:Value}{b:Bool}(a c:Operand)
  (h1:binOp .eql t x y=(do pure (.bool (<-Op.equal t x y)))) (h2:binOp .neq t x y=(do pure (.bool (!(<-Op.equal t x y)))))
  (hg:(eqGuard op t a c x y).run P w=.ok () w) (he:(Op.equal t x y).run P w=.ok b w):
  ((do eqGuard op t a c x y;binOp op t x y):Sem Value).run P w=.ok (.bool (if op==.neq then !b else b)) w:=by
 rcases hop with rfl|rfl
 .rw [Sem.run_bind,hg,Result.andThen_ok,h1,Sem.run_bind,he];rfl
 .rw [Sem.run_bind,hg,Result.andThen_ok,h2,Sem.run_bind,he];rfl
theorem si{op:BinOp}{t:TypeId}(a c:Operand){x y:Value}(h:match x,y with|.nilIface,.nilIface=>False|.agg _,.agg _=>False|_,_=>True):
  (eqGuard op t a c x y).run P w=.ok () w:=by
 unfold eqGuard;cases op<;>simp<;>(cases x<;>cases y<;>simp_all)
theorem sq(t:TypeId)(x y:Value):Op.equal t x y=Op.equalIn (9999+1) t x y:=rfl
def LY(P:Program)(t:TypeId):Nat->Prop
 |0=>∃x,P.underlying t=some (.slice x)
 |1=>∃x,P.underlying t=some (.pointer x)
 |2=>∃a b c,P.underlying t=some (.func a b c)
 |_=>False
theorem Jp{op:BinOp}(hop:op=.eql\/op=.neq){kind:Nat}{t:TypeId}{y:C}{val:Value}{b:Bool}(a c:Operand)(hu:LY P t kind)
  (hr:gw S w Kn φ (.c y) val) (hn:rk kind y=some b):
  ((do eqGuard op t a c val (pw kind);binOp op t val (pw kind)):Sem Value).run P w=.ok (.bool (if op==.neq then !b else b)) w/\
  ((do eqGuard op t a c (pw kind) val;binOp op t (pw kind) val):Sem Value).run P w=.ok (.bool (if op==.neq then !b else b)) w:=by
 have hsl:(∃x,P.underlying t=some (.slice x))->∀q l k,kind=0->val=.slice q l k->b=q.isNone->
   ((do eqGuard op t a c val (pw kind);binOp op t val (pw kind)):Sem Value).run P w=.ok (.bool (if op==.neq then !b else b)) w/\
   ((do eqGuard op t a c (pw kind) val;binOp op t (pw kind) val):Sem Value).run P w=.ok (.bool (if op==.neq then !b else b)) w:=by
  rintro⟨x,hu'⟩ q l k rfl rfl rfl;refine⟨sT hop a c rfl rfl (si a c trivial) ?_,sT hop a c rfl rfl (si a c trivial) ?_⟩
  all_goals
   rw[sq];unfold Op.equalIn;rw[Sem.run_bind,bZ hu'];cases q<;>rfl
 have hpt:(∃x,P.underlying t=some (.pointer x))->∀q,kind=1->val=.pointer q->b=q.isNone->
   ((do eqGuard op t a c val (pw kind);binOp op t val (pw kind)):Sem Value).run P w=.ok (.bool (if op==.neq then !b else b)) w/\
   ((do eqGuard op t a c (pw kind) val;binOp op t (pw kind) val):Sem Value).run P w=.ok (.bool (if op==.neq then !b else b)) w:=by
  rintro⟨x,hu'⟩ q rfl rfl rfl;refine⟨sT hop a c ?_ ?_ (si a c trivial) ?_,sT hop a c ?_ ?_ (si a c trivial) ?_⟩
  .cases q<;>rfl
  .cases q<;>rfl
  .rw [sq];unfold Op.equalIn;rw[Sem.run_bind,bZ hu'];cases q<;>rfl
  .cases q<;>rfl
  .cases q<;>rfl
  .rw [sq];unfold Op.equalIn;rw[Sem.run_bind,bZ hu'];cases q<;>rfl
 have hfn:(∃x y z,P.underlying t=some (.func x y z))->kind=2->((val=.nilFunc/\b=true)\/((∃f p q,val=.func f p q)/\b=false))->
   ((do eqGuard op t a c val (pw kind);binOp op t val (pw kind)):Sem Value).run P w=.ok (.bool (if op==.neq then !b else b)) w/\
   ((do eqGuard op t a c (pw kind) val;binOp op t (pw kind) val):Sem Value).run P w=.ok (.bool (if op==.neq then !b else b)) w:=by
  rintro⟨x,y,z,hu'⟩ rfl (⟨rfl,rfl⟩|⟨⟨f,p,q,rfl⟩,rfl⟩)
  all_goals
   refine⟨sT hop a c rfl rfl (si a c trivial) ?_,sT hop a c rfl rfl (si a c trivial) ?_⟩
   all_goals
    rw[sq];unfold Op.equalIn;rw[Sem.run_bind,bZ hu'];rfl
 cases hr with
 |c hr=>
  match kind,y,hn,hr,hu with
  |0,.d (.lit (.slice none 0 0)),hn,hr,hu=>cases hr with|d hd=>cases hd with|lit hp=>exact hsl hu _ _ _ rfl rfl (by simpa[rk]using hn.symm)
  |0,.d (.sl _ _),hn,hr,hu=>cases hr with|d hd=>cases hd with|sl=>exact hsl hu _ _ _ rfl rfl (by simpa[rk]using hn.symm)|uB=>exact hsl hu _ _ _ rfl rfl (by simpa[rk]using hn.symm)
  |0,.fK _ _ _ _,hn,hr,hu=>cases hr with|fK=>exact hsl hu _ _ _ rfl rfl (by simpa[rk]using hn.symm)
  |1,.d (.lit (.pointer none)),hn,hr,hu=>cases hr with|d hd=>cases hd with|lit hp=>exact hpt hu _ rfl rfl (by simpa[rk]using hn.symm)
  |1,.d (.pt _),hn,hr,hu=>cases hr with|d hd=>cases hd with|pt=>exact hpt hu _ rfl rfl (by simpa[rk]using hn.symm)
  |1,.ep _ _ _,hn,hr,hu=>cases hr with|ep=>exact hpt hu _ rfl rfl (by simpa[rk]using hn.symm)
  |1,.op _ _,hn,hr,hu=>cases hr with|op=>exact hpt hu _ rfl rfl (by simpa[rk]using hn.symm)
  |2,.d (.lit .nilFunc),hn,hr,hu=>cases hr with|d hd=>cases hd with|lit hp=>exact hfn hu rfl (.inl ⟨rfl,by simpa[rk]using hn.symm⟩)
  |2,.d (.fn _ _),hn,hr,hu=>cases hr with|d hd=>cases hd with|fn=>exact hfn hu rfl (.inr ⟨⟨_,_,_,rfl⟩,by simpa[rk]using hn.symm⟩)
  |2,.pS _ _,hn,hr,hu=>cases hr with|pS=>exact hfn hu rfl (.inr ⟨⟨_,_,_,rfl⟩,by simpa[rk]using hn.symm⟩)
theorem yj{kind:Nat}{x:Operand}(h:xJ kind x=true):x=.const (pw kind):=by unfold xJ at h;split at h<;>first|rfl|simp at h
theorem EK{t ty:TypeId}{op:BinOp}{x y z:Operand}{kind:Nat}(ho:o.op=.binOp op t x y ty)(hop:op=.eql\/op=.neq)(hu:LY P t kind)(hI:Inv S K w0 Kn φ (az H) w)
  (hc:∀v,ρ (.const v)=v) (hz:(z=x/\xJ kind y=true)\/(z=y/\xJ kind x=true)) {tv:Option TV} (hx:∀y,tv=some y->gw S w Kn φ y (ρ z))
  (h:cI call (.ss kind (op==.neq)) [tv] H nxt=some (v,u,aw,n')):dL P o ρ S K w0 w Kn φ (az H) nxt n' v u:=by
 match tv,h,hx with
 |some (.c c),h,hx=>
  change (match rk kind c with|some b=>some (lv (.bool (if(op==BinOp.neq)then !b else b)),([]:fN),([]:List Nat),nxt)|none=>none)=_ at h;split at h
  .rename_i b hb;obtain⟨rfl,rfl,rfl,rfl⟩:lv (.bool (if(op==BinOp.neq)then !b else b))=v/\[]=u/\[]=aw/\nxt=n':=by simpa using h
   refine dL.pure hI ?_ (.rI rfl);obtain⟨h1,h2⟩:=Jp (P:=P) hop x y hu (hx _ rfl) hb;rcases hz with⟨rfl,hn⟩|⟨rfl,hn⟩
   .have e:=yj hn;simp only[execOp,ho,Sem.run_bind];rw[Sem.run_bind]at h1;rw[e]at h1|-;rw[hc,h1];rfl
   .have e:=yj hn;simp only[execOp,ho,Sem.run_bind];rw[Sem.run_bind]at h2;rw[e]at h2|-;rw[hc,h2];rfl
  .simp at h
end
section
variable{P:Program}{S K:Nat->Prop}{w0 w:World}{Kn:Nat->Prop}{φ:Nat->gW}{H:bD}{e:kA}{ρ:Operand->Value}{o:Oper}{call:Call}
 {nxt n':Nat} {v:TV} {u:fN} {aw:List Nat}
theorem yt{α:Type}:∀{l:List (Option α)}{xs:List α},eX l=some xs->l=xs.map some:=by
 intro l;induction l with
 |nil=>
  intro xs h;obtain rfl:[]=xs:=by simpa[eX]using h
  rfl
 |cons a l ih=>
  intro xs h;cases a with
  |none=>simp[eX]at h
  |some x=>
   simp only[eX]at h;split at h
   .rename_i ys hy;obtain rfl:=aa h;simp[ih hy]
   .simp at h
theorem wS{args:List Operand}{xs:List TV}(hρ:∀x tv,lN e x=some tv->gw S w Kn φ tv (ρ x))(h:eX (args.map (lN e))=some xs):
  xs.length=args.length/\∀(i:Nat)(x:Operand)(tv:TV),args[i]?=some x->xs[i]?=some tv->gw S w Kn φ tv (ρ x):=by
 have h1:=yt h;have hl:xs.length=args.length:=by have:=congrArg jp h1;simpa using this.symm
 refine⟨hl,fun i x tv hx htv=>hρ x tv ?_⟩;have h2:=congrArg (fun l=>l[i]?) h1;simp only[aK,hx,htv,bK]at h2;exact aa h2
theorem OG{f:FuncId}{first captured:Array Operand}(ho:o.op=.makeFunc (.func f) first captured)(hf:first.isEmpty=true)(hI:Inv S K w0 Kn φ (az H) w)
  (hρ:∀x tv,lN e x=some tv->gw S w Kn φ tv (ρ x)) (h:cI call (.J1 f) (captured.toList.map (lN e)) H nxt=some (v,u,aw,n')):dL P o ρ S K w0 w Kn φ (az H) nxt n' v u:=by
 change (match eX (captured.toList.map (lN e))with
  |some xs=>(match eX (xs.map fun(x:TV)=>match x with|.c c=>some c|_=>none)with|some cs=>some (TV.c (.pS f cs),([]:fN),([]:List Nat),nxt)|none=>none)
  |none=>none)=_ at h
 split at h
 .rename_i xs hxs;split at h
  .rename_i cs hcs;obtain⟨rfl,rfl,rfl,rfl⟩:TV.c (.pS f cs)=v/\[]=u/\[]=aw/\nxt=n':=by simpa using h
   obtain⟨hl,hr⟩:=wS hρ hxs;have h2:=yt hcs;have hl2:cs.length=xs.length:=by have:=congrArg jp h2;simpa using this.symm
   have hf':first= #[]:=by simpa using hf
   refine dL.pure (val:=.func (.func f) #[] (captured.map ρ)) hI (by simp[execOp,ho,Instr.makeFunc,hf']) (.c (.pS (by simp[hl2,hl]) fun j c hj=>?_));have hj':j<xs.length:=by rw[<-hl2];exact(ao.1 hj).1
   have h3:=congrArg (fun l=>l[j]?) h2;simp only[aK,hj,bK,aB hj']at h3;have h4:=aa h3;have hcap:j<captured.size:=by rw[hl]at hj';simpa using hj'
   have hx:=hr j captured[j] xs[j] (by simp[hcap]) (aB hj');have e1:(captured.map ρ).getD j undef=ρ captured[j]:=by simp[hcap]
   rw[e1];cases hy:xs[j]with
   |c y=>
    rw[hy]at h4 hx;obtain rfl:y=c:=by simpa using h4
    cases hx with|c hx=>exact hx
   |_=>rw[hy]at h4;simp at h4
  .simp at h
 .simp at h
theorem vg{n:Int}(h0:0<=n)(h1:n<=2147483648):IntKind.i64.wrap n=n:=by unfold IntKind.wrap IntKind.bits IntKind.signed;simp only[Bool.true_and,decide_eq_true_eq];have:n %(2^64:Int)=n:=Int.emod_eq_of_lt h0 (by omega);rw[this];split<;>omega
theorem xu{v:Value}{k:IntKind}{n:Int}(h:v=.int k n):(asInt v).run P w=.ok n w:=by subst h;simp[asInt,asIntOf]
theorem po{v:Value}{k:IntKind}{n:Int}(h:v=.int k n):(asIntOf v).run P w=.ok (k,n) w:=by subst h;simp[asIntOf]
theorem j6{tv:Option TV}{val:Value}{n:Int}(h:cA tv=some n)(hr:∀y,tv=some y->gw S w Kn φ y val):∃k,val=.int k n:=by
 unfold cA at h;split at h
 .obtain rfl:=aa h;obtain⟨hv,_⟩:=(hr _ rfl).lit;exact⟨_,hv⟩
 .simp at h
theorem kP{v:Value}{k:IntKind}{n:Int}{y:Nat}{code:BoundsCode}(h:v=.int k n)(h0:0<=n)(h1:n<=y):(Instr.sliceBound v y code).run P w=.ok n.toNat w:=by simp only[Instr.sliceBound,Sem.run_bind,po h,Result.andThen_ok,h0,h1,and_self,if_true,Sem.run_pure]
theorem sU{Fh:Bool}{len cap:Nat}{lo hi:Option Value}{l h:Option Int}(hlo':lo.isSome=l.isSome)(hl1:∀x,lo=some x->∃k n,x=.int k n/\l=some n)
  (hhi':hi.isSome=h.isSome) (hhi:∀x,hi=some x->∃k n,x=.int k n/\h=some n)
  (h0:0<=l.getD 0) (h1:l.getD 0<=h.getD len) (h2:h.getD len<=cap):
  (Instr.sliceBounds Fh len cap lo hi none).run P w=.ok ((l.getD 0).toNat,(h.getD len).toNat,cap) w:=by
 unfold Instr.sliceBounds;cases hi with
 |none=>
  cases h with
  |some _=>simp at hhi'
  |none=>
   cases lo with
   |none=>cases l with|some _=>simp at hlo'|none=>simp
   |some x=>obtain⟨k,n,rfl,rfl⟩:=hl1 x rfl;simp only[fV,Option.getD_none]at h0 h1;have:=kP (P:=P) (w:=w) (v:=.int k n) (y:=len) (code:=.sliceB) rfl h0 h1;simp[this]
 |some y=>
  obtain⟨k,n,rfl,rfl⟩:=hhi y rfl;simp only[fV]at h1 h2;have hb:=kP (P:=P) (w:=w) (v:=.int k n) (y:=cap) (code:=if Fh then .sliceAcap else .sliceAlen) rfl (by omega) h2;cases lo with
  |none=>cases l with|some _=>simp at hlo'|none=>simp[hb]
  |some x=>obtain⟨k',n',rfl,rfl⟩:=hl1 x rfl;simp only[fV]at h0 h1;have:=kP (P:=P) (w:=w) (v:=.int k' n') (y:=n.toNat) (code:=.sliceB) rfl h0 (by omega);simp[hb,this]
theorem D7{str:Bool}{sz:Nat}{t:TypeId}{x y:C}{val:Value}{lo hi:Option Value}{l h:Option Int}
  (hu:if str then P.underlying t=some .string else∃el,P.underlying t=some (.slice el)/\fX P el=some sz) (hr:RC S w Kn φ x val)
  (hlo':lo.isSome=l.isSome) (hl1:∀x,lo=some x->∃k n,x=.int k n/\l=some n) (hhi':hi.isSome=h.isSome) (hhi:∀x,hi=some x->∃k n,x=.int k n/\h=some n)
  (hs:ge str sz x l h=some y):∃val',(Instr.sliceAt t val lo hi none).run P w=.ok val' w/\RC S w Kn φ y val':=by
 unfold ge at hs;cases str with
 |true=>
  simp only[if_true]at hs hu;split at hs
  .rename_i s;split at hs
   .rename_i hb;obtain⟨hb1,hb2,hb3⟩:=hb;obtain rfl:=aa hs;cases hr with
    |d hd=>cases hd with|lit hp=>have:=sU (P:=P) (w:=w) (Fh:=false) (len:=s.size) (cap:=s.size) hlo' hl1 hhi' hhi hb1 hb2 hb3;exact⟨.string (s.extract (l.getD 0).toNat (h.getD s.size).toNat),by simp[Instr.sliceAt,Instr.slice,bZ hu,this],.d (.lit rfl)⟩
   .simp at hs
  .simp at hs
 |false=>
  simp only[aO,if_false]at hs hu;obtain⟨el,hu,hsz⟩:=hu
  have run:∀(a:Addr)(len cap:Nat),val=.slice (some a) len cap->0<=l.getD 0->l.getD 0<=h.getD len->h.getD len<=cap->(cap≠(l.getD 0).toNat->a.spot=none)->
    (Instr.sliceAt t val lo hi none).run P w=.ok (.slice (some (if cap=(l.getD 0).toNat then a else⟨a.block,a.off+(l.getD 0).toNat*sz,none⟩))
     ((h.getD len).toNat-(l.getD 0).toNat) (cap-(l.getD 0).toNat)) w:=by
   intro a len cap hv h0 h1 h2 hsp;have hb:=sU (P:=P) (w:=w) (Fh:=true) (len:=len) (cap:=cap) hlo' hl1 hhi' hhi h0 h1 h2;simp only[Instr.sliceAt,Instr.slice,Sem.run_bind,bZ hu,Result.andThen_ok,hv,hb,iA hsz,Sem.run_pure];congr 2;split
   .rfl
   .rename_i hne;obtain⟨b,off,spot⟩:=a;obtain rfl:spot=none:=hsp hne;simp[qO]
  split at hs
  .split at hs
   .rename_i hb;obtain⟨hb1,hb2,hb3⟩:=hb;obtain rfl:=aa hs;cases hr with
    |d hd=>cases hd with
     |lit hp=>
      have e1:l.getD 0=0:=by omega
      have e2:h.getD 0=0:=by omega
      have hb:=sU (P:=P) (w:=w) (Fh:=true) (len:=0) (cap:=0) hlo' hl1 hhi' hhi hb1 (by simpa using hb2) (by simpa using hb3);refine⟨.slice none 0 0,?_,.d (.lit rfl)⟩;have e3:h.getD (((0:Nat):Int))=0:=e2;rw[e1,e3]at hb;simp only[Instr.sliceAt,Instr.slice,Sem.run_bind,bZ hu,Result.andThen_ok,hb,iA hsz,Sem.run_pure];rfl
   .simp at hs
  .rename_i sz' id off len;split at hs
   .rename_i hb;obtain⟨hb0,hb1,hb2,hb3⟩:=hb;obtain rfl:=aa hs;cases hr with
    |@fK _ _ _ cap addr hk hcap haddr hext hcl=>
     subst hb0;refine⟨_,run _ len cap rfl hb1 hb2 (by omega) (fun _=>rfl),?_⟩;have hle:(l.getD 0).toNat<=cap:=by omega
     by_cases e:cap=(l.getD 0).toNat
     .rw [if_pos e];exact .fK hk (by omega) (fun h=>by omega) (by rw[<-e,mJ];omega) (by omega)
     .rw [if_neg e];have ha:=haddr (by omega);refine .fK hk (by omega) (fun _=>?_) ?_ (by omega)
      .show addr+_=_;rw[ha,bB];omega
      .have:(l.getD 0).toNat*(φ id).sz+(cap-(l.getD 0).toNat)*(φ id).sz=cap*(φ id).sz:=by rw[<-bB];congr 1;omega
       show addr+_+_<=_;omega
   .simp at hs
  .rename_i sz' rows;split at hs
   .rename_i hb;obtain⟨hb0,hb1,hb2,hb3⟩:=hb;obtain rfl:=aa hs;cases hr with
    |d hd=>
     cases hd with
     |@sl _ _ b off cap g hb hsz0 hcap hrow hcell hrd=>
      subst hb0;refine⟨_,run _ rows.length cap rfl hb1 hb2 (by omega) (fun _=>rfl),?_⟩;have hR:cO S w sz' (fun i=>w.cell? ⟨b,i,none⟩) off rows:=⟨hrow,fun i r hi j x hj=>⟨_,hcell i r hi j x hj,hrd i r hi j x hj⟩⟩
      have hlen:((rows.drop (l.getD 0).toNat).take ((h.getD rows.length).toNat-(l.getD 0).toNat)).length=(h.getD rows.length).toNat-(l.getD 0).toNat:=by simp;omega
      by_cases e:cap=(l.getD 0).toNat
      .rw [if_pos e];exact .d (.BE hb hsz0 hlen (by omega) (hR.yy _ _ fun h=>by omega))
      .rw [if_neg e];exact .d (.BE hb hsz0 hlen (by omega) (hR.yy _ _ fun _=>rfl))
     |@uB _ a hsz0=>
      subst hb0;simp only[iU]at hb1 hb2 hb3;have e1:l.getD 0=0:=by have h2:l.getD 0<=h.getD 0:=hb2;have h3:h.getD 0<=0:=hb3;omega
      refine⟨_,run _ 0 0 rfl hb1 hb2 (by simpa using hb3) (fun hne=>absurd (by rw[e1];rfl) hne),?_⟩;rw[if_pos (by rw[e1];rfl)];have e2:(([]:List (List D)).drop (l.getD 0).toNat).take ((h.getD ([]:List (List D)).length).toNat-(l.getD 0).toNat)=[]:=by simp
      rw[e2];have e3:(h.getD ((0:Nat):Int)).toNat-(l.getD 0).toNat=0:=by have h3:h.getD 0<=0:=hb3;have h4:h.getD ((0:Nat):Int)=h.getD 0:=rfl;rw[h4];omega
      have e4:(0:Nat)-(l.getD 0).toNat=0:=by omega
      first
       |(rw[e3,e4];exact .d (.uB hsz0))
       |(simp[e1]at hb3|-;exact .d (.uB hsz0))
   .simp at hs
  .simp at hs
theorem zJ{str:Bool}{sz:Nat}{t:TypeId}{x y:C}{val:Value}{lo:Option Value}{hi:Value}{k2:IntKind}{l:Option Int}{h:Int}{aw:List Nat}(hI:Inv S K w0 Kn φ (az H) w)
  (hu:if str then P.underlying t=some .string else∃el,P.underlying t=some (.slice el)/\fX P el=some sz) (hr:RC S w Kn φ x val)
  (hlo':lo.isSome=l.isSome) (hl1:∀x,lo=some x->∃k n,x=.int k n/\l=some n) (hhi:hi=.int k2 h) (hs:o4 str sz x (l.getD 0) h H=some (y,aw)):∃val',(Instr.sliceAt t val lo (some hi) none).run P w=.ok val' w/\RC S w Kn φ y val':=by
 unfold o4 at hs;split at hs
 case h_2=>simp at hs
 rename_i sz' id off len;simp only[aO,if_false]at hu;obtain⟨el,hu,hsz⟩:=hu
 have key:sz'=sz/\0<=l.getD 0/\l.getD 0<=h/\off+h.toNat<=(φ id).cap/\y=.fK sz id (off+(l.getD 0).toNat) (h.toNat-(l.getD 0).toNat):=by
  split at hs
  .rename_i szo rows hob;split at hs
   case isFalse=>simp at hs
   rename_i hb;obtain⟨hb0,hb1,hb2,hb3⟩:=hb;obtain⟨rfl,_⟩:=af (aa hs);obtain⟨_,h0⟩:=hI.jy _ _ hob;have hvis:rows.length<=(φ id).cap:=by cases h0 with|aL hsz0 hl hS hK hown hext hfit hrr hvis=>exact hvis
   exact⟨hb0,hb1,hb2,by omega,rfl⟩
  .rename_i szo rows cp hob;split at hs
   case isFalse=>simp at hs
   rename_i hb;obtain⟨hb0,hb1,hb2,hb3⟩:=hb;obtain⟨rfl,_⟩:=af (aa hs);obtain⟨_,h0⟩:=hI.jy _ _ hob;have hvis:(φ id).cap=cp:=by cases h0 with|cap hsz0 hl hS hK hown hext hfit hrr hvis hc=>exact hc
   exact⟨hb0,hb1,hb2,by omega,rfl⟩
  .simp at hs
 obtain⟨hb0,hb1,hb2,hvis,rfl⟩:=key;cases hr with
 |@fK _ _ _ cap addr hk hcap haddr hext hcl=>
  subst hb0;have hc:h<=cap:=by omega
  have hbd:=sU (P:=P) (w:=w) (Fh:=true) (len:=len) (cap:=cap) (lo:=lo) (hi:=some hi) (l:=l) (h:=some h) hlo' hl1 rfl (fun x hx=>⟨k2,h,by rw[<-aa hx,hhi],rfl⟩) hb1 hb2 hc;simp only[fV]at hbd;generalize l.getD 0=l at*;refine⟨.slice (some (if cap=l.toNat then⟨(φ id).cQ,addr,none⟩else⟨(φ id).cQ,addr+l.toNat*(φ id).sz,none⟩)) (h.toNat-l.toNat) (cap-l.toNat),?_,?_⟩
  .simp only[Instr.sliceAt,Instr.slice,Sem.run_bind,bZ hu,Result.andThen_ok,hbd,iA hsz,Sem.run_pure];congr 2;split
   .rfl
   .simp [qO]
  .have hle:l.toNat<=cap:=by omega
   by_cases e:cap=l.toNat
   .rw [if_pos e];exact .fK hk (by omega) (fun h=>by omega) (by rw[<-e,mJ];omega) (by omega)
   .rw [if_neg e];have ha:=haddr (by omega);refine .fK hk (by omega) (fun _=>?_) ?_ (by omega)
    .rw [ha,bB];omega
    .have:l.toNat*(φ id).sz+(cap-l.toNat)*(φ id).sz=cap*(φ id).sz:=by rw[<-bB];congr 1;omega
     omega
theorem JK{sz:Nat}{t:TypeId}{el:TypeId}{x a b c:Operand}(ho:o.op=.slice t x (some a) (some b) (some c))
  (hu:P.underlying t=some (.slice el)) (hsz:fX P el=some sz) (hI:Inv S K w0 Kn φ (az H) w) (hn0:nxt<n'->¬Kn nxt)
  (hρ:∀x tv,lN e x=some tv->gw S w Kn φ tv (ρ x))
  (h:cI call (.CE sz) ([x,a,b,c].map (lN e)) H nxt=some (v,u,aw,n')):dL P o ρ S K w0 w Kn φ (az H) nxt n' v u:=by
 simp only[aD,aZ]at h;cases hx:lN e x with
 |none=>rw[hx]at h;simp[cI]at h
 |some tv=>
  rw[hx]at h;cases tv with
  |agg cs=>simp[cI]at h
  |jA xs=>simp[cI]at h
  |c xc=>
   have hr:=hρ x _ hx;cases hr with
   |c hr=>
   change (match cA (lN e a),cA (lN e b),cA (lN e c)with
    |some l,some u,some m=>(match MZ sz xc l u m nxt with|some y=>some (TV.c y,([]:fN),([]:List Nat),nxt+1)|none=>none)
    |_,_,_=>none)=_ at h
   split at h
   .rename_i l hh m hl hhh hm;obtain⟨k1,e1⟩:=j6 hl (hρ a);obtain⟨k2,e2⟩:=j6 hhh (hρ b);obtain⟨k3,e3⟩:=j6 hm (hρ c);split at h
    .rename_i y hy;obtain⟨rfl,rfl,rfl,rfl⟩:TV.c y=v/\[]=u/\[]=aw/\nxt+1=n':=by simpa using h
     unfold MZ at hy;split at hy
     .rename_i sz' id off len;split at hy
      .rename_i hb;obtain⟨hb0,hb1,hb2,hb3,hb4⟩:=hb;obtain rfl:=aa hy;have hn:=hn0 (bc _);generalize hv0:ρ x=val at hr;cases hr with
       |@fK _ _ _ cap addr hk hcap haddr hext hcl=>
        subst hb0;have s1:=kP (P:=P) (w:=w) (v:=.int k3 m) (y:=cap) (code:=.slice3Acap) rfl (by omega) (by omega);have s2:=kP (P:=P) (w:=w) (v:=.int k2 hh) (y:=m.toNat) (code:=.slice3B) rfl (by omega) (by omega);have s3:=kP (P:=P) (w:=w) (v:=.int k1 l) (y:=hh.toNat) (code:=.slice3C) rfl (by omega) (by omega);have hbd:(Instr.sliceBounds true len cap (some (.int k1 l)) (some (.int k2 hh)) (some (.int k3 m))).run P w=.ok (l.toNat,hh.toNat,m.toNat) w:=by unfold Instr.sliceBounds;simp[s1,s2,s3]
        let loc:gW:=⟨(φ id).cQ,if m.toNat=l.toNat then addr else addr+l.toNat*(φ id).sz,(φ id).sz,(φ id).ext,m.toNat-l.toNat⟩
        have hlt:l.toNat*(φ id).sz+(m.toNat-l.toNat)*(φ id).sz<=cap*(φ id).sz:=by rw[<-bB];exact aH _ (by omega)
        refine⟨.value (.slice (some (if m.toNat=l.toNat then⟨(φ id).cQ,addr,none⟩else⟨(φ id).cQ,addr+l.toNat*(φ id).sz,none⟩)) (hh.toNat-l.toNat) (m.toNat-l.toNat)),_,w,?_,.inl rfl,bE _,S,ext φ nxt loc,ia.refl _ _,⟨fun _ h=>.inl h,(kC _ hn).same⟩,.c ?_,?_⟩
        .simp only[execOp,ho,bK,hv0,e1,e2,e3,Instr.sliceAt,Instr.slice,Sem.run_bind,bZ hu,Result.andThen_ok,hbd,iA hsz,Sem.run_pure];congr 3;split
         .rfl
         .simp [qO]
        .have e:ext φ nxt loc nxt=loc:=by simp[ext]
         have:=RC.fK (S:=S) (w:=w) (Kn:=qi Kn nxt (nxt+1)) (φ:=ext φ nxt loc) (id:=nxt) (off:=0) (len:=hh.toNat-l.toNat) (cap:=m.toNat-l.toNat) (addr:=loc.aN)
          (.inr (by omega)) (by omega) (by rw[e];simp) (by
           rw[e];show(if m.toNat=l.toNat then addr else addr+l.toNat*(φ id).sz)+(m.toNat-l.toNat)*(φ id).sz<=(φ id).ext;split
           .rename_i q;rw[q,mJ];omega
           .omega) (by rw[e];exact bJ _)
         rw[e]at this;have e4:(if m.toNat=l.toNat then(⟨(φ id).cQ,addr,none⟩:Addr)else⟨(φ id).cQ,addr+l.toNat*(φ id).sz,none⟩)=⟨(φ id).cQ,if m.toNat=l.toNat then addr else addr+l.toNat*(φ id).sz,none⟩:=by split<;>rfl
         rw[e4];exact this
        .have hren:=kC (Kn:=Kn) (φ:=φ) loc hn;have:=hI.nW (ia.refl _ _) hren hI.vY hI.sk hI.oJ (hf':=az H) (fun i o ho=>.inl ⟨ho,fun hown=>⟨rfl,((hI.jy i o ho).2.bq hown).1⟩⟩) (fun i j a b hi hj oa ob hne=>by rw[hren.same _ (hI.jy i a hi).1,hren.same _ (hI.jy j b hj).1];exact hI.pL i j a b hi hj oa ob hne) (hI.Ee hren fun _ _=>rfl);exact this.yB fun j=>qF j
      .simp at hy
     .simp at hy
    .simp at h
   .simp at h
theorem EG{str:Bool}{sz:Nat}{t:TypeId}{x:Operand}{lo hi:Option Operand}(ho:o.op=.slice t x lo hi none)
  (hu:if str then P.underlying t=some .string else∃el,P.underlying t=some (.slice el)/\fX P el=some sz) (hI:Inv S K w0 Kn φ (az H) w)
  (hρ:∀x tv,lN e x=some tv->gw S w Kn φ tv (ρ x))
  (h:cI call (.slice str sz lo.isSome hi.isSome) ((x::lo.toList++hi.toList).map (lN e)) H nxt=some (v,u,aw,n')):dL P o ρ S K w0 w Kn φ (az H) nxt n' v u:=by
 simp only[List.cons_append,aD,List.map_append]at h;cases hx:lN e x with
 |none=>rw[hx]at h;cases lo<;>cases hi<;>simp[cI]at h
 |some tv=>
  rw[hx]at h;cases tv with
  |agg cs=>cases lo<;>cases hi<;>simp[cI]at h
  |jA xs=>cases lo<;>cases hi<;>simp[cI]at h
  |c c=>
   have hr:=hρ x _ hx;cases hr with
   |c hr=>
   have rO:∀l h',lo.isSome=l.isSome->(∀y,lo=some y->cA (lN e y)=l)->hi.isSome=h'.isSome->(∀y,hi=some y->cA (lN e y)=h')->
     (match ge str sz c l h' with|some y=>some (TV.c y,([]:fN),([]:List Nat),nxt)|none=>none)=some (v,u,aw,n')->dL P o ρ S K w0 w Kn φ (az H) nxt n' v u:=by
    intro l h' e1 e2 e3 e4 hm;split at hm
    .rename_i y hy;obtain⟨rfl,rfl,rfl,rfl⟩:TV.c y=v/\[]=u/\[]=aw/\nxt=n':=by simpa using hm
     have conv:∀(q:Option Operand)(l:Option Int),q.isSome=l.isSome->(∀y,q=some y->cA (lN e y)=l)->∀x,q.map ρ=some x->∃k n,x=.int k n/\l=some n:=by
      intro q l e1 e2 x hq;cases q with
      |none=>simp at hq
      |some y=>
       obtain rfl:ρ y=x:=by simpa using hq
       cases l with|none=>simp at e1|some n=>obtain⟨k,hk⟩:=j6 (e2 y rfl) (hρ y);exact⟨k,n,hk,rfl⟩
     obtain⟨val',h1,h2⟩:=D7 (P:=P) (lo:=lo.map ρ) (hi:=hi.map ρ) hu hr (by simpa using e1) (conv lo l e1 e2) (by simpa using e3) (conv hi h' e3 e4) hy;exact dL.pure hI (by simp[execOp,ho,h1]) (.c h2)
    .simp at hm
   cases lo with
   |none=>
    cases hi with
    |none=>exact rO none none rfl (fun y hy=>by simp at hy) rfl (fun y hy=>by simp at hy) h
    |some z=>
     change (match cA (lN e z)with|some u=>(match ge str sz c none (some u)with|some y=>some (TV.c y,([]:fN),([]:List Nat),nxt)|none=>(match o4 str sz c 0 u H with|some (y,aw)=>some (TV.c y,([]:fN),aw,nxt)|none=>none))|none=>none)=_ at h;split at h
     .rename_i n hn;split at h
      .rename_i y hy;exact rO none (some n) rfl (fun y hy=>by simp at hy) rfl (fun y hy=>aa hy▸hn) (by rw[hy];exact h)
      .split at h
       .rename_i y ids1 hy;obtain⟨rfl,rfl,_,rfl⟩:TV.c y=v/\[]=u/\ids1=aw/\nxt=n':=by simpa using h
        obtain⟨k2,e2⟩:=j6 hn (hρ z);obtain⟨val',h1,h2⟩:=zJ (P:=P) (t:=t) (lo:=none) (l:=none) hI hu hr rfl (fun x hx=>by simp at hx) e2 hy;exact dL.pure hI (by simp[execOp,ho,h1]) (.c h2)
       .simp at h
     .simp at h
   |some q=>
    cases hi with
    |none=>
     change (match cA (lN e q)with|some l=>(match ge str sz c (some l) none with|some y=>some (TV.c y,([]:fN),([]:List Nat),nxt)|none=>none)|none=>none)=_ at h;split at h
     .rename_i n hn;exact rO (some n) none rfl (fun y hy=>aa hy▸hn) rfl (fun y hy=>by simp at hy) h
     .simp at h
    |some z=>
     change (match cA (lN e q),cA (lN e z)with
      |some l,some u=>(match ge str sz c (some l) (some u)with
       |some y=>some (TV.c y,([]:fN),([]:List Nat),nxt)
       |none=>(match o4 str sz c l u H with|some (y,aw)=>some (TV.c y,([]:fN),aw,nxt)|none=>none))
      |_,_=>none)=_ at h
     split at h
     .rename_i m n hm hn;split at h
      .rename_i y hy;exact rO (some m) (some n) rfl (fun y hy=>aa hy▸hm) rfl (fun y hy=>aa hy▸hn) (by rw[hy];exact h)
      .split at h
       .rename_i y ids1 hy;obtain⟨rfl,rfl,_,rfl⟩:TV.c y=v/\[]=u/\ids1=aw/\nxt=n':=by simpa using h
        obtain⟨k1,e1⟩:=j6 hm (hρ q);obtain⟨k2,e2⟩:=j6 hn (hρ z);obtain⟨val',h1,h2⟩:=zJ (P:=P) (t:=t) (lo:=some (ρ q)) (l:=some m) hI hu hr rfl (fun x hx=>⟨k1,m,by rw[<-aa hx,e1],rfl⟩) e2 hy;exact dL.pure hI (by simp[execOp,ho,h1]) (.c h2)
       .simp at h
     .simp at h
theorem wu{t:TypeId}{x i:Operand}{aL:Option Nat}{sz:Nat}(ho:o.op=.indexAddr t x i)
  (hu:match aL with|none=>∃el,P.underlying t=some (.slice el)/\fX P el=some sz|some len=>∃el,P.underlying t=some (.array len el)/\fX P el=some sz)
  (hI:Inv S K w0 Kn φ (az H) w) {tx ti:Option TV} (hx:∀y,tx=some y->gw S w Kn φ y (ρ x)) (hi:∀y,ti=some y->gw S w Kn φ y (ρ i))
  (h:cI call (.indexAddr aL sz) [tx,ti] H nxt=some (v,u,aw,n')):dL P o ρ S K w0 w Kn φ (az H) nxt n' v u:=by
 match tx,h,hx with
 |some (.c c),h,hx=>
  change (match cA ti with|some i=>(match jo aL sz c i with|some y=>some (TV.c y,([]:fN),([]:List Nat),nxt)|none=>none)|none=>none)=_ at h;split at h
  .rename_i n hn;obtain⟨k,hk⟩:=j6 hn hi;split at h
   .rename_i y hy;obtain⟨rfl,rfl,rfl,rfl⟩:TV.c y=v/\[]=u/\[]=aw/\nxt=n':=by simpa using h
    have hr:=hx _ rfl;generalize hv0:ρ x=val at hr;cases hr with
    |c hr=>
    cases aL with
    |none=>
     obtain⟨el,hu,hsz⟩:=hu;simp only[jo]at hy;have run:∀b off len cap,val=.slice (some ⟨b,off,none⟩) len cap->0<=n->n<len->(execOp ρ o).run P w=.ok (.value (.pointer (some ⟨b,off+n.toNat*sz,none⟩))) w:=by intro b off len cap hv h0 h1;simp[execOp,ho,hv0,hv,Instr.indexAt,po hk,bZ hu,h0,h1,iA hsz,qO]
     split at hy
     .rename_i sz' id off len;split at hy
      .rename_i hb;obtain⟨h0,h1,rfl⟩:=hb;obtain rfl:=aa hy;cases hr with
       |@fK _ _ _ cap addr hkn hcap haddr hext=>
        refine dL.pure hI (run _ _ _ _ rfl h0 h1) (.c ?_);have ha:=haddr (by omega);have e1:addr+n.toNat*(φ id).sz=(φ id).aN+(off+n.toNat)*(φ id).sz+0:=by rw[ha,bB];omega
        rw[e1];exact .ep hkn
      .simp at hy
     .rename_i sz' rows;split at hy
      .rename_i hb;obtain⟨h0,rfl⟩:=hb;split at hy
       .rename_i r hr';obtain rfl:=aa hy;cases hr with
        |d hd=>cases hd with|@sl _ _ b off cap g hb hsz0 hcap hrow hcell hrd=>have hlt:n.toNat<rows.length:=(ao.1 hr').1;refine dL.pure hI (run _ _ _ _ rfl h0 (by omega)) (.c (.d (.zR hb fun j z hj=>⟨_,hcell _ _ hr' j z hj,hrd _ _ hr' j z hj⟩)))|uB=>simp at hr'
       .simp at hy
      .simp at hy
     .simp at hy
    |some len=>
     obtain⟨el,hu,hsz⟩:=hu;simp only[jo]at hy;split at hy
     .rename_i hb;obtain⟨h0,h1⟩:=hb;have run:∀b off,val=.pointer (some ⟨b,off,none⟩)->(execOp ρ o).run P w=.ok (.value (.pointer (some ⟨b,off+n.toNat*sz,none⟩))) w:=by intro b off hv;have hu':∀w,(underlying t).run P w=.ok (.array len el) w:=bZ hu;simp only[execOp,ho,hv0,hv,Instr.indexAt,Sem.run_bind,po hk,Result.andThen_ok,hu',Instr.sureAddr,Sem.run_pure,h0,h1,and_self,if_true,iA hsz,qO]
      split at hy
      .rename_i id off;obtain rfl:=aa hy;cases hr with|op hkn=>refine dL.pure hI (run _ _ rfl) (.c ?_);rw[cX];exact .op hkn
      .rename_i id bw off;obtain rfl:=aa hy;cases hr with|ep hkn=>refine dL.pure hI (run _ _ rfl) (.c ?_);rw[cX];exact .ep hkn
      .rename_i cells;split at hy
       .obtain rfl:=aa hy;cases hr with
        |d hd=>
         cases hd with
         |@pt _ b off g hb hcell hrd=>
          refine dL.pure hI (run _ _ rfl) (.c (.d (.zR hb fun j z hj=>?_)));rw[e9]at hj;split at hj
          .rw [bR]at hj;exact⟨_,by rw[cX];exact hcell _ _ hj,hrd _ _ hj⟩
          .simp at hj
       .simp at hy
      .simp at hy
     .simp at hy
   .simp at h
  .simp at h
theorem EJ{t:TypeId}{x i:Operand}(ho:o.op=.index t x i)(hu:P.underlying t=some .string)(hI:Inv S K w0 Kn φ (az H) w)
  {tx ti:Option TV} (hx:∀y,tx=some y->gw S w Kn φ y (ρ x)) (hi:∀y,ti=some y->gw S w Kn φ y (ρ i))
  (h:cI call .qG [tx,ti] H nxt=some (v,u,aw,n')):dL P o ρ S K w0 w Kn φ (az H) nxt n' v u:=by
 match tx,h,hx with
 |some (.c (.d (.lit (.string s)))),h,hx=>
  change (match cA ti with|some i=>(match(if 0<=i then s[i.toNat]?else none)with|some b=>some (lv (.int .u8 b.toNat),([]:fN),([]:List Nat),nxt)|none=>none)|none=>none)=_ at h;split at h
  .rename_i n hn;obtain⟨k,hk⟩:=j6 hn hi;split at h
   .rename_i b hb;obtain⟨rfl,rfl,rfl,rfl⟩:lv (.int .u8 b.toNat)=v/\[]=u/\[]=aw/\nxt=n':=by simpa using h
    obtain⟨hv,_⟩:=(hx _ rfl).lit;exact dL.pure hI (by simp[execOp,ho,hv,Instr.index,po hk,bZ hu,hb]) (.rI rfl)
   .simp at h
  .simp at h
theorem D6{t:TypeId}{agg:Bool}{n off:Nat}(ha:YW P t=some agg)(hn:fX P t=some n){cs:List C}{aL:Array Value}{v:TV}(hlen:cs.length=aL.size)
  (hc:∀(i:Nat)(x:C),cs[i]?=some x->RC S w Kn φ x (aL.getD i undef)) (h:Fb agg n (cs.drop off)=some v):∃val,(part t aL off).run P w=.ok val w/\gw S w Kn φ v val:=by
 unfold Fb at h;cases agg with
 |true=>
  simp only[if_true]at h;split at h
  .rename_i hle;obtain rfl:=aa h;simp only[List.length_drop]at hle;refine⟨.agg (aL.extract off (off+n)),by simp[part,uD ha,iA hn],.agg ?_ fun i x hi=>?_⟩
   .simp;omega
   .rw [e9]at hi;split at hi
    .rename_i hin;rw[bR]at hi;have hlt:off+i<aL.size:=by rw[<-hlen];exact(ao.1 hi).1
     have e1:(aL.extract off (off+n)).getD i undef=aL.getD (off+i) undef:=by
      have h1:(aL.extract off (off+n))[i]?=aL[off+i]?:=by rw[Array.getElem?_extract,if_pos (by omega)]
      simp only[Array.getD_eq_getD_getElem?,h1]
     rw[e1];exact hc _ _ hi
    .simp at hi
  .simp at h
 |false=>
  simp only[aO,if_false]at h;split at h
  .rename_i x r hd;obtain rfl:=aa h;have hx:cs[off]?=some x:=by have:=congrArg (fun l=>l[0]?) hd;simpa using this
   have hlt:off<aL.size:=by rw[<-hlen];exact(ao.1 hx).1
   refine⟨aL.getD off undef,?_,.c (hc _ _ hx)⟩;simp[part,uD ha,hlt]
  .simp at h
theorem LN{s:TypeId}{f n:Nat}{agg:Bool}{fields:Array Field}{fl:Field}{x:Operand}(ho:o.op=.field s x f)(hu:P.underlying s=some (.struct fields))(hf:fields[f]?=some fl)
  (ha:YW P fl.type=some agg) (hs:fX P fl.type=some n) (hI:Inv S K w0 Kn φ (az H) w) {tv:Option TV} (hx:∀y,tv=some y->gw S w Kn φ y (ρ x))
  (h:cI call (.field agg fl.offset n) [tv] H nxt=some (v,u,aw,n')):dL P o ρ S K w0 w Kn φ (az H) nxt n' v u:=by
 match tv,h,hx with
 |some (.agg cs),h,hx=>
  change (match Fb agg n (cs.drop fl.offset)with|some v=>some (v,([]:fN),([]:List Nat),nxt)|none=>none)=_ at h;split at h
  .rename_i y hy;obtain⟨rfl,rfl,rfl,rfl⟩:y=v/\[]=u/\[]=aw/\nxt=n':=by simpa using h
   have hr:=hx _ rfl;generalize hv0:ρ x=val at hr;cases hr with|agg hlen hc=>obtain⟨val,h1,h2⟩:=D6 ha hs hlen hc hy;exact dL.pure hI (by simp[execOp,ho,hv0,Instr.field,bZ hu,hf,asAgg,h1]) h2
  .simp at h
theorem LM{t el:TypeId}{len n:Nat}{agg:Bool}{x i:Operand}(ho:o.op=.index t x i)(hu:P.underlying t=some (.array len el))
  (ha:YW P el=some agg) (hs:fX P el=some n) (hI:Inv S K w0 Kn φ (az H) w) {tx ti:Option TV} (hx:∀y,tx=some y->gw S w Kn φ y (ρ x)) (hi:∀y,ti=some y->gw S w Kn φ y (ρ i))
  (h:cI call (.index agg len n) [tx,ti] H nxt=some (v,u,aw,n')):dL P o ρ S K w0 w Kn φ (az H) nxt n' v u:=by
 match tx,h,hx with
 |some (.agg cs),h,hx=>
  change (match cA ti with|some i=>(if 0<=i/\i<len then(match Fb agg n (cs.drop (i.toNat*n))with|some v=>some (v,([]:fN),([]:List Nat),nxt)|none=>none)else none)|none=>none)=_ at h;split at h
  .rename_i m hm;obtain⟨k,hk⟩:=j6 hm hi;split at h
   .rename_i hb;split at h
    .rename_i y hy;obtain⟨rfl,rfl,rfl,rfl⟩:y=v/\[]=u/\[]=aw/\nxt=n':=by simpa using h
     have hr:=hx _ rfl;generalize hv0:ρ x=val at hr;cases hr with|agg hlen hc=>obtain⟨val,h1,h2⟩:=D6 ha hs hlen hc hy;exact dL.pure hI (by simp[execOp,ho,hv0,Instr.index,po hk,bZ hu,hb.1,hb.2,iA hs,h1]) h2
    .simp at h
   .simp at h
  .simp at h
end
section
variable{P:Program}{S K:Nat->Prop}{w0 w:World}{Kn:Nat->Prop}{φ:Nat->gW}{H:bD}{e:kA}{ρ:Operand->Value}{o:Oper}{call:Call}
 {nxt n':Nat} {v:TV} {u:fN} {aw:List Nat}
def ON(m:Bool):Value->Value->Sem Value:=if m then Builtin.max2 else Builtin.min2
theorem PZ{m:Bool}{k:FloatKind}{a b:Nat}(hn:yl k a)(hm:yl k b)(y:Value):DF m (.float k a) y=DF m (.float k b) y:=by cases y with|float k' y=>unfold DF;obtain⟨_,_,_,_,a5⟩:=Iu hn y;obtain⟨_,_,_,_,b5⟩:=Iu hm y;simp only[a5,b5]|_=>rfl
theorem PY{m:Bool}{k:FloatKind}{a b:Nat}(hn:yl k a)(hm:yl k b)(y:Value):DF m y (.float k a)=DF m y (.float k b):=by
 cases y with
 |float k' y=>
  by_cases hk:k'=k
  .subst hk;unfold DF;obtain⟨_,_,_,_,a5⟩:=It hn y;obtain⟨_,_,_,_,b5⟩:=It hm y;simp only[a5,b5]
  .unfold DF;simp only[if_neg hk]
 |_=>rfl
theorem JZ{m:Bool}{a b va vb v:Value}(ha:rK a va)(hb:rK b vb)(h:DF m a b=some v):DF m va vb=some v:=by
 cases ha with
 |ex=>cases hb<;>(unfold DF at h;cases h)
 |lit _=>cases hb with|lit _=>exact h|nan hn hm=>rw[<-PY hn hm];exact h|ex=>exfalso;unfold DF at h;cases a<;>cases h
 |nan hn hm=>cases hb with|lit _=>rw[<-PZ hn hm];exact h|nan hn' hm'=>rw[<-PZ hn hm,<-PY hn' hm'];exact h|ex=>unfold DF at h;cases h
theorem Oh{m:Bool}{x y z:Value}(h:DF m x y=some z):∃z' n,(ON m x y).run P w=.ok z' {w with drawn:=n}/\w.drawn<=n/\rK z z':=by
 have key:(ON m x y).run P w=.ok z w/\fg z=true->∃z' n,(ON m x y).run P w=.ok z' {w with drawn:=n}/\w.drawn<=n/\rK z z':=fun h=>⟨z,w.drawn,h.1,am _,.lit h.2⟩;unfold DF at h;split at h
 .rename_i k a k' b;split at h
  .obtain rfl:=aa h;refine key ?_;cases m<;>simp[ON,Builtin.max2,Builtin.min2,fg]
  .simp at h
 .rename_i k a k' b;split at h
  .rename_i hk;subst hk;split at h
   .rename_i ho;obtain rfl:=aa h;refine⟨.float k ((Question.nanMinMax k m a b).cut (w.tape w.drawn (.nanMinMax k m a b))),w.drawn+1,?_,bE _,.nan (Fi k) ?_⟩
    .cases m<;>simp[ON,Builtin.max2,Builtin.min2,ho,run_choose,Question.forced]
    .have:∀t,(Question.nanMinMax k m a b).cut t=(Question.nanBits k a b).cut t:=by intro t;cases k<;>rfl
     rw[this];exact IE _ _ _ _
   .rename_i ho;obtain rfl:=aa h;refine key ?_;cases m<;>simp[ON,Builtin.max2,Builtin.min2,fg,ho]
   .rename_i ho;obtain rfl:=aa h;refine key ?_;cases m<;>simp[ON,Builtin.max2,Builtin.min2,fg,ho]
   .rename_i ho;obtain rfl:=aa h;refine key ?_;cases m<;>simp[ON,Builtin.max2,Builtin.min2,fg,ho]
  .simp at h
 .simp at h
theorem Og{m:Bool}(hρ:∀x y,lN e x=some (.c (.d (.lit y)))->rK y (ρ x)):∀(r:List Operand)(x z vx:Value)(w:World),rK x vx->L5 m x (r.map (lN e))=some z->
  ∃z' n,((r.map ρ).foldlM (ON m) vx).run P w=.ok z' {w with drawn:=n}/\w.drawn<=n/\rK z z':=by
 intro r;induction r with
 |nil=>
  intro x z vx w hx h;obtain rfl:x=z:=by simpa[L5]using h
  exact⟨vx,w.drawn,rfl,am _,hx⟩
 |cons a r ih=>
  intro x z vx w hx h;simp only[aD]at h|-
  match ha:lN e a,h with
  |some (.c (.d (.lit y))),h=>
   simp only[L5]at h;split at h
   .rename_i z' hz;have hz:=JZ hx (hρ a _ ha) hz;obtain⟨z1,n1,h1,l1,e1⟩:=Oh (P:=P) (w:=w) hz;obtain⟨z2,n2,h3,l2,e2⟩:=ih z' z z1 {w with drawn:=n1} e1 h;refine⟨z2,n2,?_,Nat.le_trans l1 l2,e2⟩;simp only[List.foldlM_cons,Sem.run_bind,h1,Result.andThen_ok,h3]
   .simp at h
theorem BT{m:Bool}{c:Go.Call}(ho:o.op=.call c)(hcal:c.callee=.builtin (if m then .max else .min))(hI:Inv S K w0 Kn φ (az H) w)
  (hρ:∀x tv,lN e x=some tv->gw S w Kn φ tv (ρ x)) (h:cI call (.tg m) (c.args.toList.map (lN e)) H nxt=some (v,u,aw,n')):dL P o ρ S K w0 w Kn φ (az H) nxt n' v u:=by
 generalize hargs:c.args.toList=args at h;cases args with
 |nil=>simp[cI]at h
 |cons a r=>
  simp only[aD]at h
  match ha:lN e a,h with
  |some (.c (.d (.lit x))),h=>
   change (match L5 m x (r.map (lN e))with|some v=>some (lv v,([]:fN),([]:List Nat),nxt)|none=>none)=_ at h;split at h
   .rename_i z hz;obtain⟨rfl,rfl,rfl,rfl⟩:lv z=v/\[]=u/\[]=aw/\nxt=n':=by simpa using h
    obtain⟨z',n,h1,hle,h4⟩:=Og (P:=P) (fun x y hx=>(hρ x _ hx).JT) r x z _ w (hρ a _ ha).JT hz;have e1:List.map ρ c.args.toList=ρ a::r.map ρ:=by rw[hargs,aD]
    refine⟨.value z',z',_,?_,.inl rfl,am _,S,φ,ia.drew _ _ _,rb _ _,.GY h4,(hI.drew n hle).kn fun _ hi=>.inl hi⟩;cases m
    .simp only[aO,if_false]at hcal;have h1':((r.map ρ).foldlM Builtin.min2 (ρ a)).run P w=.ok z' {w with drawn:=n}:=h1;simp[execOp,ho,hcal,resolve,invoke,builtin,Builtin.min_,e1,h1']
    .simp only[if_true]at hcal;have h1':((r.map ρ).foldlM Builtin.max2 (ρ a)).run P w=.ok z' {w with drawn:=n}:=h1;simp[execOp,ho,hcal,resolve,invoke,builtin,Builtin.max_,e1,h1']
   .simp at h
def CR(S:Nat->Prop)(w:World)(Kn:Nat->Prop)(φ:Nat->gW)(cs:List C)(vs:List Value):Prop:=cs.length=vs.length/\∀(i:Nat)(x:C)(y:Value),cs[i]?=some x->vs[i]?=some y->RC S w Kn φ x y
theorem CR.aW{cs ds:List C}{vs us:List Value}(h1:CR S w Kn φ cs vs)(h2:CR S w Kn φ ds us)(off:Nat)(hfit:off+ds.length<=cs.length):
  CR S w Kn φ (aW cs off ds) (aW vs off us):=by
 have hl1:=h1.1;have hl2:=h2.1;refine⟨by rw[fm _ _ _ hfit,fm _ _ _ (by omega)];exact h1.1,fun i x y hx hy=>?_⟩;rw[ki _ _ _ hfit]at hx;rw[ki _ _ _ (by omega)]at hy;by_cases c1:i<off
 .rw [if_pos c1]at hx hy;exact h1.2 i x y hx hy
 .rw [if_neg c1]at hx hy;by_cases c2:i<off+ds.length
  .rw [if_pos c2]at hx;rw[if_pos (by omega)]at hy;exact h2.2 _ x y hx hy
  .rw [if_neg c2]at hx;rw[if_neg (by omega)]at hy;exact h1.2 i x y hx hy
theorem gw.cr{tv:TV}{val:Value}{cs:List C}(h:gw S w Kn φ tv val)(hc:cellsOf tv=some cs):CR S w Kn φ cs val.cells.toList:=by
 obtain⟨h1,h2,_⟩:=h.cells hc;refine⟨by simpa using h1,fun i x y hx hy=>?_⟩;have:=h2 i x hx;have e1:val.cells.getD i undef=y:=by rw[bf]at hy;simp[hy]
 rwa[e1]at this
theorem Dm{cs:List C}{aL:Array Value}(h:CR S w Kn φ cs aL.toList):cs.length=aL.size/\∀(i:Nat)(x:C),cs[i]?=some x->RC S w Kn φ x (aL.getD i undef):=by
 have hl:cs.length=aL.size:=by simpa using h.1
 refine⟨hl,fun i x hx=>?_⟩;have hlt:i<aL.size:=by rw[<-hl];exact(ao.1 hx).1
 refine h.2 i x _ hx ?_;simp[hlt]
theorem Mh:∀(l:List Value)(k:Nat)(aL:Array Value)(off:Nat),off+k+l.length<=aL.size->
  ((l.zipIdx k).foldl (fun(cs:Array Value)(p:Value×Nat)=>cs.setIfInBounds (off+p.2) p.1) aL).toList=aW aL.toList (off+k) l:=by
 intro l;induction l with
 |nil=>intro k aL off _;simp[aW]
 |cons a l ih=>
  intro k aL off hfit;simp only[cg]at hfit;simp only[List.zipIdx_cons,List.foldl_cons];rw[ih (k+1) (aL.setIfInBounds (off+k) a) off (by simp;omega)];apply List.ext_getElem?;intro i;rw[ki _ _ _ (by simp;omega),ki _ _ _ (by simp;omega)];simp only[Array.toList_setIfInBounds,List.getElem?_set,cg];by_cases c1:i<off+k
  .have c3:i<off+(k+1):=by omega
   have c4:¬off+k=i:=by omega
   simp[c1,c3,c4]
  .by_cases c2:i=off+k
   .subst c2;have:off+k<off+(k+1):=by omega
    have c5:off+k<aL.size:=by omega
    simp[this,c5]
   .have c3:¬i<off+(k+1):=by omega
    have c4:¬off+k=i:=by omega
    by_cases c5:i<off+k+(l.length+1)
    .have c6:i<off+(k+1)+l.length:=by omega
     have c7:i-(off+k)=(i-(off+(k+1)))+1:=by omega
     simp[c1,c3,c5,c6,c7]
    .have c6:¬i<off+(k+1)+l.length:=by omega
     simp[c1,c3,c4,c5,c6]
theorem PA(vs aL:Array Value)(off:Nat)(hfit:off+vs.size<=aL.size):
  (vs.zipIdx.foldl (fun(cs:Array Value)(p:Value×Nat)=>cs.setIfInBounds (off+p.2) p.1) aL).toList=aW aL.toList off vs.toList:=by
 rw[<-Array.foldl_toList,Array.toList_zipIdx];have:=Mh vs.toList 0 aL off (by simpa using hfit);simpa using this
theorem Aq(iK:Nat->Option (Nat×Nat)):∀(parts:List (Nat×Operand))(pl:List (Nat×Nat))(xs:List TV)(cs cs':List C)(aL:Array Value),
  pl.length=parts.length->(∀(i:Nat)(p:Nat×Operand)(q:Nat×Nat),parts[i]?=some p->pl[i]?=some q->iK p.1=some q)->
  xs.length=parts.length->(∀(i:Nat)(p:Nat×Operand)(x:TV),parts[i]?=some p->xs[i]?=some x->gw S w Kn φ x (ρ p.2))->
  CR S w Kn φ cs aL.toList->ot cs (pl.zip xs)=some cs'->
  ∃arr',Instr.fill iK aL (parts.map fun p=>(p.1,ρ p.2))=some arr'/\CR S w Kn φ cs' arr'.toList:=by
 intro parts;induction parts with
 |nil=>
  intro pl xs cs cs' aL h1 _ h2 _ hcr h;have e1:pl=[]:=List.length_eq_zero_iff.1 h1;subst e1;obtain rfl:cs=cs':=by simpa[ot]using h
  exact⟨aL,rfl,hcr⟩
 |cons p parts ih=>
  intro pl xs cs cs' aL h1 hpl h2 hxs hcr h;cases pl with
  |nil=>simp at h1
  |cons q pl=>
   cases xs with
   |nil=>simp at h2
   |cons x xs=>
    obtain⟨off,n⟩:=q;simp only[List.zip_cons_cons,ot]at h;split at h
    .rename_i ds hds;split at h
     .rename_i hb;obtain⟨hb1,hb2⟩:=hb;have hp:=hpl 0 p (off,n) rfl rfl;have hx:=(hxs 0 p x rfl rfl).cr hds;have hsz:(ρ p.2).cells.size=n:=by have:=hx.1;simp at this;omega
      have hal:cs.length=aL.size:=by simpa using hcr.1
      have hcr':=hcr.aW hx off (by omega);rw[<-PA (ρ p.2).cells aL off (by omega)]at hcr'
      obtain⟨arr',h3,h4⟩:=ih pl xs _ cs' _ (by simpa using h1) (fun i p q hp hq=>hpl (i+1) p q (by simpa using hp) (by simpa using hq)) (by simpa using h2)
       (fun i p x hp hx=>hxs (i+1) p x (by simpa using hp) (by simpa using hx)) hcr' h
      refine⟨arr',?_,h4⟩;simp only[aD,Instr.fill,hp];rw[if_neg (by simp[hsz];omega)];exact h3
     .simp at h
    .simp at h
theorem IA{z:List Value}(hp:∀x∈z,fg x=true):CR S w Kn φ (fL z) z:=by refine⟨by simp[fL],fun i x y hx hy=>?_⟩;simp only[fL,aK,hy,bK]at hx;obtain rfl:=aa hx;exact .d (.lit (hp y (aR hy)))
theorem GK{fields:Array Field}:∀{is:List Nat}{pl:List (Nat×Nat)},ew P fields is=some pl->pl.length=is.length/\
  ∀(k i:Nat)(q:Nat×Nat),is[k]?=some i->pl[k]?=some q->∃f,fields[i]?=some f/\q.1=f.offset/\fX P f.type=some q.2:=by
 intro is;induction is with
 |nil=>
  intro pl h;obtain rfl:[]=pl:=by simpa[ew]using h
  exact⟨rfl,fun k i q hk=>by simp at hk⟩
 |cons i is ih=>
  intro pl h;simp only[ew]at h;split at h
  .rename_i f l hf hl;split at h
   .rename_i n hn;obtain rfl:=aa h;obtain⟨h1,h2⟩:=ih hl;refine⟨by simp[h1],fun k j q hk hq=>?_⟩;cases k with
    |zero=>
     obtain rfl:i=j:=by simpa using hk
     obtain rfl:(f.offset,n)=q:=by simpa using hq
     exact⟨f,hf,rfl,hn⟩
    |succ k=>exact h2 k j q (by simpa using hk) (by simpa using hq)
   .simp at h
  .simp at h
theorem Gs(g:Field->Nat×Nat):∀(l:List Field),(∀f∈l,∃n,fX P f.type=some n/\g f=(f.offset,n))->
  (l.mapM fun f=>(do pure (f.offset,<-sizeOf f.type):Sem (Nat×Nat))).run P w=.ok (l.map g) w:=by
 intro l;induction l with|nil=>intro _;rfl|cons f l ih=>intro h;obtain⟨n,hn,hg⟩:=h f (by simp);have:=ih fun f hf=>h f (by simp[hf]);simp only[List.mapM_cons,Sem.run_bind,iA hn,Result.andThen_ok,Sem.run_pure,this,aD,hg]
theorem EN{t:TypeId}{parts:Array (Nat×Operand)}{z:List Value}{pl:List (Nat×Nat)}(ho:o.op=.build t parts)(hz:kH P t=some z)
  (hu:(∃fields,P.underlying t=some (.struct fields)/\ew P fields (parts.toList.map (·.1))=some pl/\fields.toList.all (fun f=>(fX P f.type).isSome)=true)\/
   (∃len el n,P.underlying t=some (.array len el)/\fX P el=some n/\pl=parts.toList.map fun p=>(p.1*n,n)))
  (hI:Inv S K w0 Kn φ (az H) w) (hρ:∀x tv,lN e x=some tv->gw S w Kn φ tv (ρ x))
  (h:cI call (.build z pl) ((parts.toList.map (·.2)).map (lN e)) H nxt=some (v,u,aw,n')):dL P o ρ S K w0 w Kn φ (az H) nxt n' v u:=by
 change (match eX ((parts.toList.map (·.2)).map (lN e))with
  |some xs=>(match ot (fL z) (pl.zip xs)with|some cs=>some (TV.agg cs,([]:fN),([]:List Nat),nxt)|none=>none)
  |none=>none)=_ at h
 split at h
 .rename_i xs hxs;split at h
  .rename_i cs hcs;obtain⟨rfl,rfl,rfl,rfl⟩:TV.agg cs=v/\[]=u/\[]=aw/\nxt=n':=by simpa using h
   obtain⟨hl,hr⟩:=wS hρ hxs;obtain⟨zv,hzr,hzl,hzp⟩:=qt hz w
   have key:∀iK:Nat->Option (Nat×Nat),pl.length=parts.toList.length->(∀(i:Nat)(p:Nat×Operand)(q:Nat×Nat),parts.toList[i]?=some p->pl[i]?=some q->iK p.1=some q)->
     ∃arr',Instr.fill iK zv.cells ((parts.map fun p=>(p.1,ρ p.2)).toList)=some arr'/\CR S w Kn φ cs arr'.toList:=by
    intro iK h1 h2
    have:=Aq (S:=S) (w:=w) (Kn:=Kn) (φ:=φ) (ρ:=ρ) iK parts.toList pl xs (fL z) cs zv.cells h1 h2 (by simpa using hl) (fun i p x hp hx=>hr i p.2 x (by simp only[aK,hp,bK]) hx)
     (by rw[hzl];exact IA hzp) hcs
    simpa using this
   rcases hu with⟨fields,hu,hpl,hall⟩|⟨len,el,n,hu,hn,rfl⟩
   .obtain ⟨h1,h2⟩:=GK hpl;let g:Field->Nat×Nat:=fun f=>(f.offset,(fX P f.type).getD 0)
    have hg:(fields.mapM fun f=>(do pure (f.offset,<-sizeOf f.type):Sem (Nat×Nat))).run P w=.ok (fields.map g) w:=by
     rw[Array.mapM_eq_mapM_toList];have:=Gs (P:=P) (w:=w) g fields.toList fun f hf=>by have:=aT.1 hall f hf;obtain⟨n,hn⟩:=Option.isSome_iff_exists.1 this;exact⟨n,hn,by simp[g,hn]⟩
     simp only[Sem.run_map,this,Result.andThen_ok];congr 1;apply Array.ext';rw[Array.toList_map]
    obtain⟨arr',h3,h4⟩:=key (fun i=>(fields.map g)[i]?) (by simpa using h1) (fun i p q hp hq=>by obtain⟨f,hf,hq1,hq2⟩:=h2 i p.1 q (by simp only[aK,hp,bK]) hq;simp only[Array.getElem?_map,hf,bK,g,hq2,fV,<-hq1]);obtain⟨h5,h6⟩:=Dm h4;refine dL.pure (val:=.agg arr') hI ?_ (.agg h5 h6);simp only[execOp,ho,Sem.run_bind,Instr.build,hzr,Result.andThen_ok,bZ hu,hg,h3,Sem.run_pure]
   .obtain ⟨arr',h3,h4⟩:=key (fun i=>some (i*n,n)) (by simp) (fun i p q hp hq=>by simp only[aK,hp,bK]at hq;exact hq);obtain⟨h5,h6⟩:=Dm h4;refine dL.pure (val:=.agg arr') hI ?_ (.agg h5 h6);simp only[execOp,ho,Sem.run_bind,Instr.build,hzr,Result.andThen_ok,bZ hu,iA hn,h3,Sem.run_pure]
  .simp at h
 .simp at h
theorem lV.from{S1:Nat->Prop}{hf hf1:Nat->Option Ob}{u1 u2:fN}{val:Value}{w':World}(hs:ia S w S1 w)(he:hf1=bn u1 hf)(h:lV S1 K w0 w Kn φ hf1 nxt n' v u2 val w'):
  lV S K w0 w Kn φ hf nxt n' v (u2++u1) val w':=by
 obtain⟨h1,S',φ',h2,h3,h4,h5⟩:=h;exact⟨h1,S',φ',hs.trans h2,h3,h4,by rw[eP,<-he];exact h5⟩
theorem HB{α:Type}(sz:Nat):∀(n:Nat)(l:List α),n*sz<=l.length->(nC sz n l).length=n/\∀i r,(nC sz n l)[i]?=some r->r=(l.drop (i*sz)).take sz/\r.length=sz:=by
 intro n;induction n with
 |zero=>intro l _;exact⟨rfl,fun i r hi=>by simp[nC]at hi⟩
 |succ n ih=>
  intro l hl;have e1:(n+1)*sz=n*sz+sz:=dR n sz;obtain⟨h1,h2⟩:=ih (l.drop sz) (by simp;omega);refine⟨by simp[nC,h1],fun i r hi=>?_⟩;cases i with
  |zero=>
   obtain rfl:l.take sz=r:=by simpa[nC]using hi
   exact⟨by simp,by simp;omega⟩
  |succ i=>obtain⟨h3,h4⟩:=h2 i r (by simpa[nC]using hi);refine⟨?_,h4⟩;rw[h3,List.drop_drop];congr 2;rw[dR];omega
theorem vQ{zc:Array Value}{z:List Value}{sz n:Nat}(hz:zc.toList=z)(hl:z.length=sz)(hpos:0<sz):
  ((Array.range n).map (fun i=>zc[i %zc.size]!)).toList=(bN n).map fun i=>z.getD (i %sz) undef:=by
 simp only[Array.toList_map,Array.toList_range];apply List.map_congr_left;intro i _;have e1:zc.size=sz:=by rw[<-hl,<-hz];simp
 have hlt:i %sz<zc.size:=by rw[e1];exact nF _ hpos
 rw[e1,<-hz];have:i %sz<zc.toList.length:=by simpa using hlt
 simp[hlt]
theorem Bh{t el:TypeId}{len n:Nat}{parts:Array (Nat×Operand)}{z:List Value}(ho:o.op=.buildSlice t len parts)(hu:P.underlying t=some (.slice el))
  (hs:fX P el=some (n+1)) (hz:kH P el=some z) (hlim:len*(n+1)<=4096/\z.length=n+1)
  (hI:Inv S K w0 Kn φ (az H) w) (hn0:nxt<n'->¬Kn nxt) (hρ:∀x tv,lN e x=some tv->gw S w Kn φ tv (ρ x))
  (h:cI call (.buildSlice (n+1) len ((bN (len*(n+1))).map fun i=>z.getD (i %(n+1)) undef) (parts.toList.map (·.1))) ((parts.toList.map (·.2)).map (lN e)) H nxt=some (v,u,aw,n')):
  dL P o ρ S K w0 w Kn φ (az H) nxt n' v u:=by
 generalize hzs:((bN (len*(n+1))).map fun i=>z.getD (i %(n+1)) undef)=zs at h
 change (match eX ((parts.toList.map (·.2)).map (lN e))with
  |some xs=>
   (match ot (fL zs) (((parts.toList.map fun(p:Nat×Operand)=>p.1).map fun i=>(i*(n+1),n+1)).zip xs)with
   |some cs=>
    (match dU H cs with
    |some (ds,aw)=>(match dM H aw aw with|some u=>some (TV.c (.fK (n+1) nxt 0 len),(nxt,some (Ob.aL (n+1) (nC (n+1) len ds)))::u,aw,nxt+1)|none=>none)
    |none=>none)
   |none=>none)
  |none=>none)=_ at h
 split at h
 .rename_i xs hxs;split at h
  .rename_i cs hcs;split at h
   .rename_i ds ids' hv;split at h
    .rename_i u' hfz;obtain⟨rfl,rfl,rfl,rfl⟩:TV.c (.fK (n+1) nxt 0 len)=v/\(nxt,some (Ob.aL (n+1) (nC (n+1) len ds)))::u'=u/\ids'=aw/\nxt+1=n':=by simpa using h
     have hn:=hn0 (bc _);obtain⟨hl,hr⟩:=wS hρ hxs;obtain⟨zv,hzr,hzl,hzp⟩:=qt hz w
     have hzp':∀x∈zs,fg x=true:=by
      intro x hx;rw[<-hzs]at hx;obtain⟨i,_,rfl⟩:=bv.1 hx;have hlt:i %(n+1)<z.length:=by rw[hlim.2];exact nF _ (dv _)
      have:z.getD (i %(n+1)) undef=z[i %(n+1)]:=by simp[nP,hlt]
      rw[this];exact hzp _ (List.getElem_mem hlt)
     have hzero:∃zc:Array Value,(len*(n+1)=0->zc= #[])/\(¬len*(n+1)=0->zc=zv.cells)/\
       ((Array.range (len*(n+1))).map (fun i=>zc[i %zc.size]!)).toList=zs:=by
      by_cases hc:len*(n+1)=0
      .refine ⟨#[],fun _=>rfl,fun h=>absurd hc h,?_⟩;rw[<-hzs,hc];simp
      .refine ⟨zv.cells,fun h=>absurd h hc,fun _=>rfl,?_⟩;rw[vQ hzl hlim.2 (dv _),hzs]
     obtain⟨zc,hzc,hzc1,hzc2⟩:=hzero
     obtain⟨arr',h3,h4⟩:=Aq (S:=S) (w:=w) (Kn:=Kn) (φ:=φ) (ρ:=ρ) (fun i=>some (i*(n+1),n+1)) parts.toList _ xs (fL zs) cs ((Array.range (len*(n+1))).map (fun i=>zc[i %zc.size]!))
      (by simp) (fun i p q hp hq=>by simp only[aK,hp,bK]at hq;exact hq) (by simpa using hl)
      (fun i p x hp hx=>hr i p.2 x (by simp only[aK,hp,bK]) hx) (by rw[hzc2];exact IA hzp') hcs
     obtain⟨h5,h6⟩:=Dm h4
     have hcl:cs.length=len*(n+1):=by
      have:∀(l:List ((Nat×Nat)×TV))(a b:List C),ot a l=some b->b.length=a.length:=by
       intro l;induction l with
       |nil=>
        intro a b h;obtain rfl:a=b:=by simpa[ot]using h
        rfl
       |cons p l ih=>
        intro a b h;obtain⟨⟨off,m⟩,x⟩:=p;simp only[ot]at h;split at h
        .split at h
         .rename_i hb;rw[ih _ _ h,fm _ _ _ (by omega)]
         .simp at h
        .simp at h
      rw[this _ _ _ hcs,<-hzs];simp[fL]
     obtain⟨h7,h8⟩:=sK hI cs ds ids' hv (fun i=>arr'[i]?) (fun i c hi=>by
      have hlt:i<arr'.size:=by rw[<-h5];exact(ao.1 hi).1
      exact⟨arr'.getD i undef,by simp[hlt],h6 i c hi⟩)
     obtain⟨h9,h10⟩:=HB (n+1) len ds (by omega);have hI1:=hI.Hg hfz
     have hrows:cO (SB S w φ (az H) ids') w (n+1) (fun i=>arr'[i]?) 0 (nC (n+1) len ds):=by
      refine⟨fun i r hi=>(h10 i r hi).2,fun i r hi j x hj=>?_⟩;rw[(h10 i r hi).1,e9]at hj;split at hj
      .rw [bR]at hj;obtain⟨y,hy,hd⟩:=h8 _ x hj;exact⟨y,by rw[<-hy];simp,hd⟩
      .simp at hj
     have hD:=lV.aL (K:=K) (w0:=w0) hI1 hn (cap:=len) (aL:=arr') (sz:=n+1) el (dv n) (by omega) (by omega) hrows;rw[h9]at hD;refine⟨.value _,_,_,?_,.inl rfl,lV.from (u1:=u') (SB.vn _) rfl hD⟩;have h3':Instr.fill (fun i=>some (i*(n+1),n+1)) ((Array.range (len*(n+1))).map (fun i=>zc[i %zc.size]!)) (parts.map fun p=>(p.1,ρ p.2)).toList=some arr':=by rw[<-h3];simp
     have hlim':¬len*(n+1)>2^24:=by have:=hlim.1;omega
     simp only[execOp,ho,Sem.run_bind,Instr.buildSlice,bZ hu,Result.andThen_ok,iA hs,if_neg hlim'];by_cases hc:len*(n+1)=0
     .rw [hzc hc]at h3';simp only[if_pos hc,Sem.run_bind,Sem.run_pure,Result.andThen_ok,h3',newRow,run_newObj]
     .rw [hzc1 hc]at h3';simp only[if_neg hc,Sem.run_bind,hzr,Sem.run_pure,Result.andThen_ok,h3',newRow,run_newObj]
    .simp at h
   .simp at h
  .simp at h
 .simp at h
end
section
variable{P:Program}{S K:Nat->Prop}{w0 w:World}{Kn:Nat->Prop}{φ:Nat->gW}{H:bD}{e:kA}{ρ:Operand->Value}{o:Oper}{call:Call}
 {nxt n':Nat} {v:TV} {u:fN} {aw:List Nat}
theorem Y4{el:TypeId}(h:qg P el=true):∃i,P.info? el=some i/\0<i.bytes/\i.bytes<=16384:=by
 unfold qg at h;split at h
 .rename_i i hi;simp only[Bool.and_eq_true,decide_eq_true_eq]at h;exact⟨i,hi,h.1,h.2⟩
 .simp at h
theorem wn{t el:TypeId}{n:Nat}{l c:Operand}{z:List Value}(ho:o.op=.makeSlice t l c)(hu:P.underlying t=some (.slice el))
  (hs:fX P el=some (n+1)) (hz:kH P el=some z) (hzl:z.length=n+1) (hb:qg P el=true)
  (hI:Inv S K w0 Kn φ (az H) w) (hn0:nxt<n'->¬Kn nxt) {tl tc:Option TV} (hl:∀y,tl=some y->gw S w Kn φ y (ρ l)) (hc:∀y,tc=some y->gw S w Kn φ y (ρ c))
  (h:cI call (.makeSlice z) [tl,tc] H nxt=some (v,u,aw,n')):dL P o ρ S K w0 w Kn φ (az H) nxt n' v u:=by
 change (match cA tl,cA tc with
  |some l,some c=>if 0<=l/\l<=c/\c<=E7 then some (TV.c (.fK z.length nxt 0 l.toNat),[(nxt,some (Ob.aL z.length (ak l.toNat (dg z))))],([]:List Nat),nxt+1)else none
  |_,_=>none)=_ at h
 split at h
 .rename_i a b ha hb';split at h
  .rename_i hle;obtain⟨h0,h1,h2⟩:=hle;obtain⟨rfl,rfl,rfl,rfl⟩:TV.c (.fK z.length nxt 0 a.toNat)=v/\[(nxt,some (Ob.aL z.length (ak a.toNat (dg z))))]=u/\[]=aw/\nxt+1=n':=by simpa using h
   have hn:=hn0 (bc _);obtain⟨k1,hk1⟩:=j6 ha hl;obtain⟨k2,hk2⟩:=j6 hb' hc;obtain⟨i,hi,hby0,hby⟩:=Y4 hb;obtain⟨zv,hzr,hzv,hzp⟩:=qt hz w;simp only[E7]at h2;have hwa:IntKind.i64.wrap a=a:=vg h0 (by omega);have hwb:IntKind.i64.wrap b=b:=vg (by omega) (by omega);have hmul:(i.bytes:Int)*b<=16384*2147483648:=Int.mul_le_mul (by omega) (by omega) (by omega) (by omega);have hsz:(z.length)=zv.cells.size:=by rw[<-hzv];simp
   let aL:Array Value:=(Array.range (b.toNat*(n+1))).map (fun i=>zv.cells[i %zv.cells.size]!);have harr:aL.toList=(bN (b.toNat*(n+1))).map fun i=>z.getD (i %(n+1)) undef:=vQ hzv hzl (dv _);have hsize:aL.size=b.toNat*(n+1):=by simp[aL]
   have hrows:cO S w (n+1) (fun i=>aL[i]?) 0 (ak a.toNat (dg z)):=by
    refine⟨fun i r hi=>?_,fun i r hi j x hj=>?_⟩
    .obtain ⟨_,rfl⟩:i<a.toNat/\dg z=r:=by
      rw[dC]at hi;split at hi
      .rename_i hlt;exact⟨hlt,aa hi⟩
      .simp at hi
     simp[dg,hzl]
    .obtain ⟨hlt,rfl⟩:i<a.toNat/\dg z=r:=by
      rw[dC]at hi;split at hi
      .rename_i hlt;exact⟨hlt,aa hi⟩
      .simp at hi
     simp only[dg,aK]at hj;obtain⟨y,hy,rfl⟩:=aG.1 hj;have hjl:j<n+1:=by rw[<-hzl];exact(ao.1 hy).1
     refine⟨y,?_,.lit (hzp y (aR hy))⟩;have hidx:i*(n+1)+j<b.toNat*(n+1):=by have:(i+1)*(n+1)<=b.toNat*(n+1):=aH _ (by omega);rw[dR]at this;omega
     show aL[0+i*(n+1)+j]?=some y;rw[<-bf,harr,bJ,aK,kG hidx];have e1:(i*(n+1)+j) %(n+1)=j:=by rw[Nat.add_comm,Nat.add_mul_mod_self_right];exact Nat.mod_eq_of_lt hjl
     simp[e1,nP,hy]
   have hD:=lV.aL (K:=K) (w0:=w0) hI hn (cap:=b.toNat) (aL:=aL) el (dv n) (by simp;omega) (by rw[hsize];exact am _) hrows;rw[a_]at hD;rw[hzl];refine⟨.value (.slice (some ⟨w.heap.size,0,none⟩) a.toNat b.toNat),_,_,?_,.inl rfl,hD⟩;have hinfo:∀w:World,(typeInfo el).run P w=.ok i w:=fun w=>by simp[typeInfo,hi]
   have harr0:∀zc:Array Value,(b.toNat*(n+1)=0->zc= #[])->(¬b.toNat*(n+1)=0->zc=zv.cells)->((Array.range (b.toNat*(n+1))).map (fun i=>zc[i %zc.size]!))=aL:=by
    intro zc h1 h2;by_cases hc0:b.toNat*(n+1)=0
    .apply Array.ext';rw[harr,hc0];simp
    .rw [h2 hc0]
   have hnl:¬(decide (b<0)||decide ((i.bytes:Int)*b>2^48))=true:=by simp only[dl,decide_eq_true_eq,not_or];constructor<;>omega
   simp only[execOp,ho,Sem.run_bind,Instr.makeSlice,bZ hu,Result.andThen_ok,xu hk1,xu hk2,hinfo,hwa,hwb];rw[Sem.run_ite,if_neg (by simp only[dl,decide_eq_true_eq];simp only[dl,decide_eq_true_eq]at hnl;omega)];simp only[Sem.run_pure,Result.andThen_ok,Sem.run_bind,run_askRoom,iA hs];by_cases hc0:b.toNat*(n+1)=0
   .have:=harr0 #[] (fun _=>rfl) (fun h=>absurd hc0 h);simp only[if_pos hc0,Sem.run_bind,Sem.run_pure,Result.andThen_ok,newRow,run_newObj,this]
   .have:=harr0 zv.cells (fun h=>absurd h hc0) (fun _=>rfl);simp only[if_neg hc0,Sem.run_bind,hzr,Sem.run_pure,Result.andThen_ok,newRow,run_newObj,this]
  .simp at h
 .simp at h
theorem LJ{t el:TypeId}{n m:Nat}{l c:Operand}{z:List Value}(ho:o.op=.makeSlice t l c)(hu:P.underlying t=some (.slice el))
  (hs:fX P el=some (n+1)) (hz:kH P el=some z) (hzl:z.length=n+1) (hb:qg P el=true) (hz1:Hc z=true) (hm:0<m)
  (hI:Inv S K w0 Kn φ (az H) w) (hn0:nxt<n'->¬Kn nxt) {tl tc:Option TV} (hl:∀y,tl=some y->gw S w Kn φ y (ρ l)) (hc:∀y,tc=some y->gw S w Kn φ y (ρ c))
  (h:cI call (.BX m) [tl,tc] H nxt=some (v,u,aw,n')):dL P o ρ S K w0 w Kn φ (az H) nxt n' v u:=by
 obtain rfl:z=[.slice none 0 0]:=by
  unfold Hc at hz1;split at hz1
  .rfl
  .simp at hz1
 change (match cA tl,cA tc with
  |some l,some c=>if 0<=l/\l<=c/\c<=E7 then some (TV.c (.fK 1 nxt 0 l.toNat),[(nxt,some (Ob.nst m (ak l.toNat .nil)))],([]:List Nat),nxt+1)else none
  |_,_=>none)=_ at h
 split at h
 .rename_i a b ha hb';split at h
  .rename_i hle;obtain⟨rfl,rfl,rfl,rfl⟩:TV.c (.fK 1 nxt 0 a.toNat)=v/\[(nxt,some (Ob.nst m (ak a.toNat .nil)))]=u/\[]=aw/\nxt+1=n':=by simpa using h
   have hev:cI call (.makeSlice [.slice none 0 0]) [tl,tc] H nxt=some (TV.c (.fK 1 nxt 0 a.toNat),[(nxt,some (Ob.aL 1 (ak a.toNat (dg [.slice none 0 0]))))],[],nxt+1):=by
    show(match cA tl,cA tc with
     |some l,some c=>if 0<=l/\l<=c/\c<=E7 then some (TV.c (.fK ([.slice none 0 0]:List Value).length nxt 0 l.toNat),[(nxt,some (Ob.aL ([.slice none 0 0]:List Value).length (ak l.toNat (dg [.slice none 0 0]))))],([]:List Nat),nxt+1)else none
     |_,_=>none)=_
    rw[ha,hb'];show(if 0<=a/\a<=b/\b<=E7 then _ else _)=_;rw[if_pos hle];rfl
   obtain⟨nx,val,w',h1,h2,h3,S',φ',h4,h5,h6,h7⟩:=wn ho hu hs hz hzl hb hI hn0 hl hc hev;refine⟨nx,val,w',h1,h2,h3,S',φ',h4,h5,h6,?_⟩;have e1:bn [(nxt,some (Ob.aL 1 (ak a.toNat (dg [.slice none 0 0]))))] (az H) nxt=some (.aL 1 (ak a.toNat (dg [.slice none 0 0]))):=by rw[bV,if_pos rfl]
   obtain⟨_,hro⟩:=h7.jy nxt _ e1
   have h8:=h7.TL (o':=.nst m (ak a.toNat .nil)) e1 rfl (fun sz sl k rows e hk=>by
    cases e;rw[dC]at hk;split at hk<;>cases hk) (by
    cases hro with
    |aL hsz hl hS hK hown hext hfit hrr hv=>
     rw[a_]at hv hfit;refine .nst hm hl hS hK hown hext (by rw[a_];omega) (fun i s hi=>?_) (by rw[a_];exact hv);rw[dC]at hi;split at hi
     .rename_i hlt;obtain rfl:=aa hi;obtain⟨v,q1,q2⟩:=hrr.2 i (dg [.slice none 0 0]) (by rw[dC,if_pos hlt]) 0 _ rfl;cases q2 with|lit _=>exact⟨_,by rw[<-q1];simp,.nil⟩
     .cases hi)
   have e2:bn [(nxt,some (Ob.nst m (ak a.toNat .nil)))] (bn [(nxt,some (Ob.aL 1 (ak a.toNat (dg [.slice none 0 0]))))] (az H))=bn [(nxt,some (Ob.nst m (ak a.toNat .nil)))] (az H):=by
    funext j;simp only[bV,fW];by_cases e:nxt=j
    .rw [if_pos e,if_pos e]
    .rw [if_neg e,if_neg e,if_neg e]
   rw[e2]at h8;exact h8
  .simp at h
 .simp at h
theorem CR.mono{S':Nat->Prop}{w':World}{Kn':Nat->Prop}{φ':Nat->gW}(hs:ia S w S' w')(hr:uO Kn φ Kn' φ'){cs:List C}{vs:List Value}(h:CR S w Kn φ cs vs):CR S' w' Kn' φ' cs vs:=⟨h.1,fun i x y hx hy=>(h.2 i x y hx hy).mono hs hr⟩
theorem RY{cs:List C}{aL:Array Value}(h1:cs.length=aL.size)(h2:∀(i:Nat)(x:C),cs[i]?=some x->RC S w Kn φ x (aL.getD i undef)):CR S w Kn φ cs aL.toList:=by
 refine⟨by simpa using h1,fun i x y hx hy=>?_⟩;have:=h2 i x hx;rw[bf]at hy;have e1:aL.getD i undef=y:=by simp[hy]
 rwa[e1]at this
theorem oY{b o n:Nat}{aL:Array Value}{vs:List Value}(ho:pP w b aL)(hn:vs.length=n):
  pP (w.setRow b (aL.toList.take o++vs++aL.toList.drop (o+n)).toArray) b (aW aL.toList o vs).toArray/\
  (∀c,c≠b->(w.setRow b (aL.toList.take o++vs++aL.toList.drop (o+n)).toArray).heap[c]?=w.heap[c]?)/\
  (w.setRow b (aL.toList.take o++vs++aL.toList.drop (o+n)).toArray).heap.size=w.heap.size/\
  (∀a,(w.setRow b (aL.toList.take o++vs++aL.toList.drop (o+n)).toArray).frozen? a=w.frozen? a)/\
  (o+n<=aL.size->∀arr1,pP w b arr1->∃arr',pP (w.setRow b (aL.toList.take o++vs++aL.toList.drop (o+n)).toArray) b arr'/\arr'.size=arr1.size):=by
 rw[QI hn];refine⟨zW ho,fun c hc=>setRow_other w b c _ hc,by simp,Bo ho,fun hle arr1 h1=>⟨_,zW ho,?_⟩⟩;obtain⟨t1,h1⟩:=h1;obtain⟨t2,h2⟩:=ho;rw[h1]at h2;obtain rfl:arr1=aL:=by simp at h2;exact h2.1
 simp only[iP];rw[fm _ _ _ (by simp;omega)];simp
theorem Inv.DC{hf hf':Nat->Option Ob}{S':Nat->Prop}{w':World}(_:Inv S K w0 Kn φ hf w)(hs:ia S w S' w')(hI:Inv S' K w0 Kn φ hf' w'){u:fN}{n:Nat}(he:hf'=bn u hf):
  lV S K w0 w Kn φ hf n n (.jA []) u undef w':=
 ⟨am _,S',φ,hs,rb _ _,.jA rfl (fun i x hi=>by simp at hi),he▸hI.kn fun _ h=>.inl h⟩
theorem D9{sz aN bw off:Nat}{rows:List (List D)}{r ds:List D}{aL:Array Value}{vs:List Value}(h:cO S w sz (fun i=>aL[i]?) aN rows)(hrow:rows[bw]?=some r)
  (hfit:off+ds.length<=r.length) (hl:ds.length=vs.length) (hd:∀(i:Nat)(x:D),ds[i]?=some x->∃y,vs[i]?=some y/\RD S w x y) (hsz:aN+rows.length*sz<=aL.size):
  cO S w sz (fun i=>(aW aL.toList (aN+bw*sz+off) vs).toArray[i]?) aN (rows.set bw (aW r off ds)):=by
 have hrl:=h.1 bw r hrow;have hlt:bw<rows.length:=(ao.1 hrow).1;have hmul:(bw+1)*sz<=rows.length*sz:=aH _ (by omega);rw[dR]at hmul;have hget:∀k,(aW aL.toList (aN+bw*sz+off) vs).toArray[k]?=if k<aN+bw*sz+off then aL[k]?else if k<aN+bw*sz+off+vs.length then vs[k-(aN+bw*sz+off)]?else aL[k]?:=by intro k;rw[<-bf];show(aW aL.toList _ vs)[k]?=_;rw[ki _ _ _ (by simp;omega)];simp only[bf]
 have hsetr:∀i q,(rows.set bw (aW r off ds))[i]?=some q->(i=bw/\q=aW r off ds)\/(i≠bw/\rows[i]?=some q):=by
  intro i q hi;by_cases e1:i=bw
  .subst e1;rw[lp hlt]at hi;exact .inl ⟨rfl,(aa hi).symm⟩
  .rw [List.getElem?_set_ne (fun e=>e1 e.symm)]at hi;exact .inr ⟨e1,hi⟩
 refine⟨fun i q hi=>?_,fun i q hi j z hj=>?_⟩
 .rcases hsetr i q hi with⟨rfl,rfl⟩|⟨_,h1⟩
  .rw [fm _ _ _ hfit];exact hrl
  .exact h.1 i q h1
 .simp only[hget];rcases hsetr i q hi with⟨rfl,rfl⟩|⟨hne,h1⟩
  .rw [ki _ _ _ hfit]at hj;by_cases c1:j<off
   .rw [if_pos c1]at hj;rw[if_pos (by omega)];exact h.2 i r hrow j z hj
   .rw [if_neg c1]at hj;by_cases c2:j<off+ds.length
    .rw [if_pos c2]at hj;obtain⟨y,hy,hr⟩:=hd _ z hj;rw[if_neg (by omega),if_pos (by omega)];refine⟨y,?_,hr⟩;rw[<-hy];congr 1;omega
    .rw [if_neg c2]at hj;rw[if_neg (by omega),if_neg (by omega)];exact h.2 i r hrow j z hj
  .have hjl:j<sz:=by rw[<-h.1 i q h1];exact(ao.1 hj).1
   have hout:aN+i*sz+j<aN+bw*sz+off\/aN+bw*sz+off+vs.length<=aN+i*sz+j:=by
    rcases Nat.lt_or_gt_of_ne hne with hlt2|hgt
    .have:(i+1)*sz<=bw*sz:=aH _ (by omega);rw[dR]at this;omega
    .have:(bw+1)*sz<=i*sz:=aH _ (by omega);rw[dR]at this;omega
   rcases hout with c|c
   .rw [if_pos c];exact h.2 i q h1 j z hj
   .rw [if_neg (by omega),if_neg (by omega)];exact h.2 i q h1 j z hj
theorem N_{α:Type}{l:List α}{o:Nat}{v:α}(h:o<l.length):aW l o [v]=l.set o v:=by rw[List.set_eq_take_append_cons_drop,if_pos h];simp[aW]
theorem Ow{id bw sz:Nat}{slots:List lU}{cs:List C}{vs:List Value}{u:fN}{aw:List Nat}{aL:Array Value}(hI:Inv S K w0 Kn φ (az H) w)(hob:az H id=some (.nst sz slots))(hrow:bw<slots.length)
  (hcr:CR S w Kn φ cs vs) (hlen:cs.length=1) (hown:pP w (φ id).cQ aL) (hfit:(φ id).aN+bw<aL.size) (h:tw id bw sz slots cs H=some (u,aw)):
  ia S w S (w.setRow (φ id).cQ (aL.toList.take ((φ id).aN+bw)++vs++aL.toList.drop ((φ id).aN+bw+1)).toArray)/\
   Inv S K w0 Kn φ (bn u (az H)) (w.setRow (φ id).cQ (aL.toList.take ((φ id).aN+bw)++vs++aL.toList.drop ((φ id).aN+bw+1)).toArray):=by
 have hvl:vs.length=1:=by rw[<-hcr.1];exact hlen
 obtain⟨p1,p2,p3,p4,_⟩:=oY (w:=w) (b:=(φ id).cQ) (o:=(φ id).aN+bw) (n:=1) (vs:=vs) hown hvl;have hio:Io w (w.setRow (φ id).cQ (aL.toList.take ((φ id).aN+bw)++vs++aL.toList.drop ((φ id).aN+bw+1)).toArray):=⟨rfl,rfl,rfl,am _⟩
 generalize w.setRow (φ id).cQ (aL.toList.take ((φ id).aN+bw)++vs++aL.toList.drop ((φ id).aN+bw+1)).toArray=w' at*
 obtain⟨x,rfl⟩:∃x,vs=[x]:=by
  match vs,hvl with|[x],_=>exact⟨x,rfl⟩
 rw[N_ (by simpa using hfit)]at p1
 have key:∀s',(ia S w S w'->AU S K w' Kn φ sz s' x)->(∀rows,s'≠.bq rows)->ia S w S w'/\Inv S K w0 Kn φ (bn [(id,some (.nst sz (slots.set bw s')))] (az H)) w':=fun s' h1 h2=>
  hI.UO hob hown p1 (by simp) p2 p3 p4 hio (fun i hi=>by
   rw[cJ,List.getElem?_set_ne (by omega),bf]) (fun _=>by
   rw[cJ,lp (by simpa using hfit)]) h1 h2
 unfold tw at h;split at h
 .obtain ⟨rfl,rfl⟩:[(id,some (Ob.nst sz (slots.set bw .nil)))]=u/\[id]=aw:=by simpa using h
  have hx:=hcr.2 0 _ x rfl rfl;cases hx with
  |d hd=>cases hd with|lit _=>exact key .nil (fun _=>.nil) (fun _ e=>by cases e)
 .rename_i sz' id2 len;split at h
  .rename_i sz2 rows h2;split at h
   .rename_i hc;obtain⟨rfl,rfl,hne⟩:=hc;obtain⟨rfl,rfl⟩:[(id,some (Ob.nst sz' (slots.set bw (.bq rows)))),(id2,none)]=u/\[id,id2]=aw:=by simpa using h
    obtain⟨q1,q2⟩:=key (.ez id2 rows.length) (fun hs=>.ez ((hcr.2 0 _ x rfl rfl).mono hs (uO.refl _ _))) (fun _ e=>by cases e);refine⟨q1,?_⟩;have e1:bn [(id,some (Ob.nst sz' (slots.set bw (.ez id2 rows.length))))] (az H) id=some (.nst sz' (slots.set bw (.ez id2 rows.length))):=by rw[bV,if_pos rfl]
    have e2:bn [(id,some (Ob.nst sz' (slots.set bw (.ez id2 rows.length))))] (az H) id2=some (.aL sz2 rows):=by rw[bV,if_neg (fun e=>hne e.symm),fW,h2]
    have q3:=q2.ND e1 (lp hrow) e2;rw[List.set_set]at q3
    have e3:bn [(id,some (Ob.nst sz' (slots.set bw (.bq rows)))),(id2,none)] (bn [(id,some (Ob.nst sz' (slots.set bw (.ez id2 rows.length))))] (az H))=bn [(id,some (Ob.nst sz' (slots.set bw (.bq rows)))),(id2,none)] (az H):=by
     funext j;simp only[bV,fW];by_cases e:id=j
     .rw [if_pos e,if_pos e]
     .rw [if_neg e,if_neg e,if_neg e]
    rw[e3]at q3;exact q3
   .simp at h
  .simp at h
 .simp at h
theorem LI{t:TypeId}{n:Nat}{a x:Operand}(ho:o.op=.store t a x)(hs:fX P t=some n)(hI:Inv S K w0 Kn φ (az H) w)
  {ta tx:Option TV} (ha:∀y,ta=some y->gw S w Kn φ y (ρ a)) (hx:∀y,tx=some y->gw S w Kn φ y (ρ x))
  (h:cI call (.store n) [ta,tx] H nxt=some (v,u,aw,n')):dL P o ρ S K w0 w Kn φ (az H) nxt n' v u:=by
 match ta,tx,h,ha,hx with
 |some (.c p),some tv,h,ha,hx=>
  change (match nq n p tv H with|some (u,aw)=>some (TV.jA [],u,aw,nxt)|none=>none)=_ at h;split at h
  .rename_i u' ids' eE;obtain⟨rfl,rfl,rfl,rfl⟩:TV.jA []=v/\u'=u/\ids'=aw/\nxt=n':=by simpa using h
   unfold nq at eE;split at eE
   .simp at eE
   .rename_i cs hcs;split at eE
    .rename_i hlen;have hcr:=(hx _ rfl).cr hcs;obtain⟨_,_,hone⟩:=(hx _ rfl).cells hcs;have hvl:(ρ x).cells.size=n:=by have:=hcr.1;simp at this;omega
     have hr:=ha _ rfl;generalize hv0:ρ a=val at hr
     have run:∀b off aL,val=.pointer (some ⟨b,off,none⟩)->pP w b aL->off+n<=aL.size->
       (execOp ρ o).run P w=.ok .skip (w.setRow b (aL.toList.take off++(ρ x).cells.toList++aL.toList.drop (off+n)).toArray):=by
      intro b off aL hv hown hfit;simp[execOp,ho,hv0,hv,Instr.storeAt,Instr.sureAddr,Of hs hown hvl hfit hone]
     cases hr with
     |c hr=>
     split at eE
     .rename_i id bw off;split at eE
      .rename_i sz rows hob;split at eE
       .rename_i r ds ids1 hrow hvw;split at eE
        .rename_i u1 hfz;split at eE
         .rename_i hb;obtain⟨hb1,hb2⟩:=hb;obtain⟨rfl,rfl⟩:(id,some (Ob.aL sz (rows.set bw (aW r off ds))))::u1=u'/\id::ids1=ids':=by simpa using eE
          have hnm:id∉ids1:=by simpa using hb2
          obtain⟨hdl,hds⟩:=sK hI cs ds ids1 hvw (fun i=>(ρ x).cells.toList[i]?) (fun i c hi=>by
           have hlt:i<(ρ x).cells.toList.length:=by rw[<-hcr.1];exact(ao.1 hi).1
           exact⟨_,aB hlt,hcr.2 i c _ hi (aB hlt)⟩)
          have hI1:=hI.Hg hfz;have hob1:bn u1 (az H) id=some (.aL sz rows):=by simp only[bn,(mw ids1 u1 hfz id).2 hnm,hob]
          obtain⟨hk,h0⟩:=hI1.jy _ _ hob1;generalize hphi:φ id=l at*;cases h0 with
          |@aL _ _ aL hsz hl hS hK hown hext hfit hrr hvis=>
           cases hr with
           |ep hk'=>
            rw[hphi]at run;subst hl;have hrl:=hrr.1 bw r hrow;have hrowlt:bw<rows.length:=(ao.1 hrow).1;have hmul:(bw+1)*l.sz<=rows.length*l.sz:=aH _ (by omega);rw[dR]at hmul;have hfit2:l.aN+bw*l.sz+off+n<=aL.size:=by rw[hext];omega
            obtain⟨p1,p2,p3,p4,p5⟩:=oY (w:=w) (b:=l.cQ) (o:=l.aN+bw*l.sz+off) (n:=n) (vs:=(ρ x).cells.toList) hown (by simpa using hvl);have hset:=hI1.set (o':=.aL l.sz (rows.set bw (aW r off ds))) hob1 rfl (by rw[hphi];exact p2) p3 p4 (by rw[hphi];exact p5 hfit2) ⟨rfl,rfl,rfl,am _⟩ (fun eE=>by rw[hphi];have h5:=(D9 (off:=off) (vs:=(ρ x).cells.toList) hrr hrow (by omega) (by rw[hdl];exact hcr.1) hds (by omega)).mono eE;exact .aL hsz rfl hS hK p1 (by simp only[iP];rw[fm _ _ _ (by simp;omega)];simpa using hext) (by simpa using hfit) h5 (by simpa using hvis));refine⟨.skip,undef,_,run _ _ _ rfl hown hfit2,.inr ⟨rfl,rfl⟩,hI.DC ((SB.vn ids1).trans hset.1) hset.2 ?_⟩;rw[<-eP];rfl
         .simp at eE
        .simp at eE
       .simp at eE
      .rename_i sz slots hob;split at eE
       .rename_i hc;obtain⟨rfl,rfl,hrow⟩:=hc;obtain⟨hk,h0⟩:=hI.jy _ _ hob;cases h0 with
        |@nst _ _ aL hsz hl hS hK hown hext hfit hrr hvis=>cases hr with|ep hk'=>obtain⟨q1,q2⟩:=Ow hI hob hrow hcr hlen hown (by omega) eE;have hrun:=run (φ id).cQ ((φ id).aN+bw*(φ id).sz+0) aL rfl hown (by rw[hl];omega);rw[hl,lh,cT]at hrun;refine⟨.skip,undef,_,hrun,.inr ⟨rfl,rfl⟩,hI.DC q1 q2 rfl⟩
       .simp at eE
      .simp at eE
     .rename_i id off;split at eE
      .rename_i cells hob;split at eE
       .rename_i hb;obtain⟨rfl,rfl⟩:[(id,some (Ob.box (aW cells off cs)))]=u'/\[id]=ids':=by simpa using eE
        obtain⟨hk,h0⟩:=hI.jy _ _ hob;generalize hphi:φ id=l at*;cases h0 with
        |@box _ aL hbase hS hK hown hlen2 hrr=>cases hr with|op hk'=>rw[hphi,hbase,bJ]at run;obtain⟨p1,p2,p3,p4,p5⟩:=oY (w:=w) (b:=l.cQ) (o:=off) (n:=n) (vs:=(ρ x).cells.toList) hown (by simpa using hvl);have hset:=hI.set (o':=.box (aW cells off cs)) hob rfl (by rw[hphi];exact p2) p3 p4 (by rw[hphi];exact p5 (by omega)) ⟨rfl,rfl,rfl,am _⟩ (fun eE=>by rw[hphi];have h5:=((RY hlen2 hrr).aW hcr off (by omega)).mono eE (uO.refl _ _);obtain⟨h6,h7⟩:=Dm (aL:=(aW aL.toList off (ρ x).cells.toList).toArray) (by rw[List.toList_toArray];exact h5);exact .box hbase hS hK p1 h6 h7);exact⟨.skip,undef,_,run _ _ _ rfl hown (by omega),.inr ⟨rfl,rfl⟩,hI.DC hset.1 hset.2 rfl⟩
       .simp at eE
      .simp at eE
     .simp at eE
    .simp at eE
  .simp at h
end
section
variable{P:Program}{S K:Nat->Prop}{w0 w:World}{Kn:Nat->Prop}{φ:Nat->gW}{H:bD}{e:kA}{ρ:Operand->Value}{o:Oper}{call:Call}
 {nxt n':Nat} {v:TV} {u:fN} {aw:List Nat}
theorem sg{sz b addr:Nat}{rows:List (List D)}(hsz:0<sz)(h:cO S w sz (fun i=>w.cell? ⟨b,i,none⟩) addr rows):
  ∃aL,(∀w':World,w'.heap=w.heap->(loadCells ⟨b,addr,none⟩ (rows.length*sz)).run P w'=.ok aL w')/\aL.size=rows.length*sz/\cO S w sz (fun i=>aL[i]?) 0 rows/\∀x∈aL.toList,one x=true:=by
 have hcell:∀k,k<rows.length*sz->∃y,w.cell? ⟨b,addr+k,none⟩=some y/\one y=true:=by
  intro k hk;have h1:k/sz<rows.length:=Nat.div_lt_of_lt_mul (by rw[gQ];exact hk);have h2:=h.1 (k/sz) rows[k/sz] (aB h1);have h3:k %sz<rows[k/sz].length:=by rw[h2];exact nF _ hsz
  obtain⟨y,hy,hr⟩:=h.2 (k/sz) rows[k/sz] (aB h1) (k %sz) _ (aB h3);refine⟨y,?_,hr.one⟩;rw[<-hy];have:=Nat.div_add_mod k sz;rw[gQ]at this;show w.cell? ⟨b,addr+k,none⟩=w.cell? ⟨b,addr+k/sz*sz+k %sz,none⟩;congr 2;omega
 refine⟨((bN (rows.length*sz)).map fun j=>(w.cell? ⟨b,addr+j,none⟩).getD undef).toArray,fun w' hw=>run_loadCells w' ⟨b,addr,none⟩ _ (fun j=>(w.cell? ⟨b,addr+j,none⟩).getD undef) fun j hj=>?_,by simp,
  ⟨h.1,fun i r hi j x hj=>?_⟩,fun x hx=>?_⟩
 .obtain ⟨y,hy,_⟩:=hcell j hj;have:w'.cell? ⟨b,addr+j,none⟩=w.cell? ⟨b,addr+j,none⟩:=by unfold World.cell?;rw[hw]
  rw[qO,this,hy];rfl
 .obtain ⟨y,hy,hr⟩:=h.2 i r hi j x hj;refine⟨y,?_,hr⟩;have hil:i<rows.length:=(ao.1 hi).1;have hjl:j<sz:=by rw[<-h.1 i r hi];exact(ao.1 hj).1
  have hm:(i+1)*sz<=rows.length*sz:=aH _ hil;rw[dR]at hm;simp only at hy;have hlt:0+i*sz+j<rows.length*sz:=by omega
  have e1:addr+(0+i*sz+j)=addr+i*sz+j:=by omega
  show(((bN (rows.length*sz)).map fun j=>(w.cell? ⟨b,addr+j,none⟩).getD undef).toArray)[0+i*sz+j]?=some y;rw[<-bf,aK,kG hlt];simp only[bK,e1,hy,fV]
 .simp only[bv,List.mem_range]at hx;obtain⟨k,hk,rfl⟩:=hx;obtain⟨y,hy,h1⟩:=hcell k hk;rw[hy];exact h1
def NL(P:Program)(S:Nat->Prop)(w:World)(sz:Nat)(xv:Value)(new:List (List D))(aL:Array Value):Prop:=
 (∀w':World,w'.heap=w.heap->(Builtin.lenOf xv).run P w'=.ok new.length w'/\(Builtin.firstCells sz new.length xv).run P w'=.ok aL w')/\
 aL.size=new.length*sz/\cO S w sz (fun i=>aL[i]?) 0 new/\∀x∈aL.toList,one x=true
theorem Cc{sz b addr len cap:Nat}{new:List (List D)}(hsz:0<sz)(hl:new.length=len)(h:cO S w sz (fun i=>w.cell? ⟨b,i,none⟩) addr new):
  ∃aL,NL P S w sz (.slice (some ⟨b,addr,none⟩) len cap) new aL:=by
 subst hl;obtain⟨aL,h1,h2,h3,h4⟩:=sg (P:=P) hsz h;exact⟨aL,fun w' hw=>⟨rfl,h1 w' hw⟩,h2,h3,h4⟩
theorem Gr{sz:Nat}{x:C}{xv:Value}{new:List (List D)}(hsz:0<sz)(hI:Inv S K w0 Kn φ (az H) w)(hr:RC S w Kn φ x xv)(h:jV sz H x=some (new,aw)):
  ∃aL,NL P S w sz xv new aL:=by
 unfold jV at h;split at h
 .obtain ⟨rfl,rfl⟩:[]=new/\[]=aw:=by simpa using h
  cases hr with
  |d hd=>cases hd with|lit hp=>exact⟨#[],fun w' _=>⟨rfl,rfl⟩,by simp,⟨fun i r hi=>by simp at hi,fun i r hi=>by simp at hi⟩,fun x hx=>by simp at hx⟩
 .rename_i sz' rows;split at h
  .rename_i e1;subst e1;obtain⟨rfl,rfl⟩:rows=new/\[]=aw:=by simpa using h
   cases hr with
   |d hd=>cases hd with
    |sl f hb hsz0 hcap hrow hcell hrd=>exact Cc hsz rfl ⟨hrow,fun i r hi j x hj=>⟨_,hcell i r hi j x hj,hrd i r hi j x hj⟩⟩
    |uB hsz0=>exact⟨#[],fun w' _=>⟨rfl,by
      have h0:([]:List (List D)).length*sz'=0:=by simp
      simp only[Builtin.firstCells,h0];rfl⟩,by simp,⟨fun i r hi=>by simp at hi,fun i r hi=>by simp at hi⟩,fun x hx=>by simp at hx⟩
  .simp at h
 .rename_i sz' id off len
  have key:∀szo rows,(az H id=some (.aL szo rows)\/az H id=some (.qH szo rows))->(if sz'=sz/\off+len<=rows.length then some ((rows.drop off).take len,[id])else none)=some (new,aw)->
    ∃aL,NL P S w sz xv new aL:=by
   intro szo rows ho hq;split at hq
   .rename_i hb;obtain⟨e1,hle⟩:=hb;subst e1;obtain⟨rfl,rfl⟩:=af (aa hq);obtain⟨hsz1,hl,hR⟩:=oU hI ho;subst hl;cases hr with|fK hk hcap haddr hext=>exact Cc hsz1 (by simp;omega) (hR.yy off len fun h=>haddr (by omega))
   .simp at hq
  split at h
  .exact key _ _ (.inl (by assumption)) h
  .exact key _ _ (.inr (by assumption)) h
  .simp at h
 .simp at h
theorem O1(need:Nat)(c:Nat):Builtin.growBy need 4 c<=3*c+3072:=by
 simp only[Builtin.growBy]
 repeat' split
 all_goals omega
theorem LW{need cap:Nat}(h1:need<=2147483648)(h2:cap<need):Builtin.nextslicecap need cap<=6442454016:=by
 unfold Builtin.nextslicecap;split
 .omega
 .split
  .omega
  .have:=O1 need cap;omega
theorem Inv.EA{hf:Nat->Option Ob}{w':World}{b:Nat}(h:Inv S K w0 Kn φ hf w)(hS:¬S b)(hK:¬K b)(hfree:∀i o,hf i=some o->cL o=true->b∉iH w φ hf i)
  (hother:∀c,c≠b->w'.heap[c]?=w.heap[c]?) (hsize:w'.heap.size=w.heap.size) (hfrz:∀a,w'.frozen? a=w.frozen? a)
  (hsz:∀aL,pP w b aL->∃arr',pP w' b arr'/\arr'.size=aL.size) (hio:Io w w'):ia S w S w'/\Inv S K w0 Kn φ hf w':=by
 have hs:ia S w S w':=⟨fun _ h=>h,fun c hc=>hother c (fun e=>hS (e▸hc))⟩
 refine⟨hs,h.nW hs (uO.refl _ _) (fun c hc=>hsize▸h.vY c hc) h.sk ⟨h.oJ.G8,fun c hc=>(hother c (fun e=>hK (e▸hc))).trans (h.oJ.nz c hc),hsize▸h.oJ.grow,fun a ha=>(hfrz a).trans (h.oJ.B5 a ha),h.oJ.zV hother hsz,h.oJ.io.trans hio⟩ ?_ h.pL fun id sz sl hi=>⟨hi,hother _ fun e=>hfree id _ hi rfl (e▸lQ id),fun k x hp=>⟨hother x fun e=>hfree id _ hi rfl (dZ.2 (.inr ⟨sz,sl,k,hi,e▸hp⟩)),(h.JB hi hp).1,(h.ye id sz sl k x hi hp).1⟩⟩⟩;intro id o ho;exact .inl ⟨ho,fun hown=>⟨hother _ fun e=>hfree id o ho hown (e▸lQ id),((h.jy id o ho).2.bq hown).1⟩⟩
theorem Cn{w':World}{hf:Nat->Option Ob}{i:Nat}(h:w'.heap[(φ i).cQ]?=w.heap[(φ i).cQ]?):iH w' φ hf i=iH w φ hf i:=by
 have key:∀(l:gW),w'.heap[l.cQ]?=w.heap[l.cQ]?->∀(sl:List lU)(k:Nat),s_ w' l sl k=s_ w l sl k:=by
  intro l hl sl;induction sl with
  |nil=>intro k;rfl
  |cons s sl ih=>intro k;cases s with|bq rows=>simp only[s_,ih,nD hl]|_=>exact ih (k+1)
 unfold iH;congr 1;split
 .exact key _ h _ _
 .rfl
theorem ra{sz aN:Nat}{a b:List (List D)}{get:Nat->Option Value}(h1:cO S w sz get aN a)(h2:cO S w sz get (aN+a.length*sz) b):cO S w sz get aN (a++b):=by
 have key:∀(i:Nat)(r:List D),(a++b)[i]?=some r->a[i]?=some r\/(a.length<=i/\b[i-a.length]?=some r):=by
  intro i r hi;by_cases hc:i<a.length
  .rw [List.getElem?_append_left hc]at hi;exact .inl hi
  .rw [List.getElem?_append_right (by omega)]at hi;exact .inr ⟨by omega,hi⟩
 refine⟨fun i r hi=>?_,fun i r hi j x hj=>?_⟩
 .rcases key i r hi with h|⟨_,h⟩
  .exact h1.1 i r h
  .exact h2.1 _ r h
 .rcases key i r hi with h|⟨hle,h⟩
  .exact h1.2 i r h j x hj
  .obtain ⟨y,hy,hr⟩:=h2.2 _ r h j x hj;refine⟨y,?_,hr⟩;rw[<-hy];congr 1;have:a.length*sz+(i-a.length)*sz=i*sz:=by rw[<-bB];congr 1;omega
   omega
theorem RC.ll{sz id off len:Nat}{v:Value}(h:RC S w Kn φ (.fK sz id off len) v):∃cap addr,v=.slice (some ⟨(φ id).cQ,addr,none⟩) len cap/\(φ id).sz=sz/\Kn id/\len<=cap/\
  (0<cap->addr=(φ id).aN+off*(φ id).sz)/\addr+cap*(φ id).sz<=(φ id).ext/\off+cap=(φ id).cap:=by
 cases h with|fK hk hcap haddr hext hc=>exact⟨_,_,rfl,rfl,hk,hcap,haddr,hext,hc⟩
theorem JN{c:Go.Call}{s x:Operand}{st xt el el2:TypeId}{n:Nat}{z:List Value}(ho:o.op=.call c)(hcal:c.callee=.builtin .append)(hargs:c.args= #[s,x])(hts:c.argTypes= #[st,xt])
  (hus:P.underlying st=some (.slice el)) (hux:P.underlying xt=some (.slice el2)) (hsz:fX P el=some (n+1)) (hz:kH P el=some z) (hzl:z.length=n+1) (hby:qg P el=true)
  (hI:Inv S K w0 Kn φ (az H) w) (hn0:nxt<n'->¬Kn nxt) {ta tx:Option TV} (ha:∀y,ta=some y->gw S w Kn φ y (ρ s)) (hx:∀y,tx=some y->gw S w Kn φ y (ρ x))
  (h:cI call (.append (n+1)) [ta,tx] H nxt=some (v,u,aw,n')):dL P o ρ S K w0 w Kn φ (az H) nxt n' v u:=by
 obtain⟨inf,hinf,hb0,hb1⟩:=Y4 hby;obtain⟨zv,hzr,hzv,_⟩:=qt hz w
 match ta,tx,h,ha,hx with
 |some (.c sc),some (.c xc),h,ha,hx=>
  change pC (n+1) sc xc H nxt=_ at h;unfold pC at h;split at h
  .simp at h
  .rename_i new ids1 hrx;cases hx _ rfl with
   |c hxr=>
   obtain⟨narr,hel,hns,hnR,hnone⟩:=Gr (P:=P) (sz:=n+1) (dv n) hI hxr hrx;have hinfo:∀w:World,(typeInfo el).run P w=.ok inf w:=fun w=>by simp[typeInfo,hinf]
   have hzr':∀w:World,(zeroValue el).run P w=.ok zv w:=by intro w';simp only[zeroValue,typeInfo,Sem.run_bind,run_program,Result.andThen_ok,hinf,Sem.run_pure]at hzr|-;cases hzz:inf.zero with|none=>rw[hzz]at hzr;simp at hzr|some q=>rw[hzz]at hzr;simp at hzr|-;exact hzr
   have hunx:∀w:World,(underlying xt).run P w=.ok (.slice el2) w:=bZ hux
   -- what the model does where there is no jE
   have grows:∀(aN:Option Addr)(sLen sCap:Nat)(old:Array Value),ρ s=.slice aN sLen sCap->sCap<sLen+new.length->sLen+new.length<=2147483648->
     (∀w':World,w'.heap=w.heap->(Builtin.firstCells (n+1) sLen (.slice aN sLen sCap)).run P w'=.ok old w')->
     ∃newCap,sLen+new.length<=newCap/\(execOp ρ o).run P w=.ok (.value (.slice (some ⟨w.heap.size,0,none⟩) (sLen+new.length) newCap))
      {({w with drawn:=w.drawn+1}:World)with heap:=w.heap.push (.cells (old++narr++Builtin.zeroCells zv.cells (newCap-(sLen+new.length))) el)}:=by
    intro aN sLen sCap old hs hlt hle hold;refine⟨(Question.appendCap (sLen+new.length) sCap el).cut (w.tape w.drawn (.appendCap (sLen+new.length) sCap el)),by simp[Question.cut],?_⟩;have hcap:¬Builtin.nextslicecap (sLen+new.length) sCap*inf.bytes>2^48:=by have h1:=LW hle hlt;have h2:Builtin.nextslicecap (sLen+new.length) sCap*inf.bytes<=6442454016*16384:=Nat.mul_le_mul h1 hb1;omega
    have hbz:¬inf.bytes=0:=by omega
    have hnle:¬sLen+new.length<=sCap:=by omega
    have ho2:=hold {w with drawn:=w.drawn+1} rfl;have hn2:=(hel {w with drawn:=w.drawn+1} rfl).2;have hl2:=(hel w rfl).1
    simp only[execOp,ho,hcal,resolve,hargs,Sem.run_bind,Sem.run_pure,Result.andThen_ok,invoke,builtin,Builtin.append_,hts,fq,aD,aZ,hs,cJ,
     cW,fJ,bZ hus,iA hsz,hunx,hl2,hnle,if_false,hinfo,hcap,hbz,aO,or_self,and_false,run_choose,Question.forced,run_askRoom,ho2,hn2,hzr',newRow,run_newObj,oG,if_true]
   have room_new:¬Kn nxt->∀(k:Nat)(_:w.drawn<=k)(hf:Nat->Option Ob)(rows:List (List D))(aL:Array Value)(cap:Nat),Inv S K w0 Kn φ hf w->rows.length<=cap->cap*(n+1)<=aL.size->cO S w (n+1) (fun i=>aL[i]?) 0 rows->
     lV S K w0 w Kn φ hf nxt (nxt+1) (.c (.fK (n+1) nxt 0 rows.length)) [(nxt,some (.aL (n+1) rows))] (.slice (some ⟨w.heap.size,0,none⟩) rows.length cap)
      {({w with drawn:=k}:World)with heap:=w.heap.push (.cells aL el)}:=by
    intro hn k hk hf rows aL cap hI1 h1 h2 h3;obtain⟨a1,S',φ',a2,a3,a4,a5⟩:=lV.aL (hI1.drew k hk) hn el (dv n) h1 h2 (h3.mono (ia.drew S w k));exact⟨a1,S',φ',(ia.drew S w k).trans a2,a3,a4,a5⟩
   have zsize:∀m,(Builtin.zeroCells zv.cells m).size=m*(n+1):=by
    intro m;have:zv.cells.size=n+1:=by rw[<-hzl,<-hzv];simp
    simp[Builtin.zeroCells,this]
   split at h
   .--a nil slice
    split at h
    .rename_i hle;simp only[E7]at hle;obtain⟨hv,_⟩:=(ha _ rfl).lit;cases new with
     |nil=>
      obtain⟨rfl,rfl,rfl,rfl⟩:TV.c (.d (.lit (.slice none 0 0)))=v/\[]=u/\ids1=aw/\nxt=n':=by simpa using h
      refine dL.pure hI ?_ (ha _ rfl);have hl2:=(hel w rfl).1;have hn2:=(hel w rfl).2;simp only[iU]at hl2 hn2
      simp only[execOp,ho,hcal,resolve,hargs,Sem.run_bind,Sem.run_pure,Result.andThen_ok,invoke,builtin,Builtin.append_,hts,fq,aD,aZ,hv,cJ,
       cW,fJ,bZ hus,iA hsz,hunx,hl2,am,if_true,oG,hn2,aO,if_false,cT]
     |cons q new=>
      obtain⟨rfl,rfl,rfl,rfl⟩:TV.c (.fK (n+1) nxt 0 (q::new).length)=v/\[(nxt,some (Ob.aL (n+1) (q::new)))]=u/\ids1=aw/\nxt+1=n':=by simpa using h
      obtain⟨newCap,hnc,hrun⟩:=grows none 0 0 #[] hv (by simp) (by simpa using hle) (fun w' _=>rfl);rw[bJ]at hrun hnc;refine⟨.value _,_,_,hrun,.inl rfl,room_new (hn0 (bc _)) _ (bE _) _ _ _ _ hI hnc ?_ ?_⟩
      .simp only[iQ,hns,zsize,iP,iU];rw[bJ,<-bB];exact aH _ (by omega)
      .refine ⟨hnR.1,fun i r hi j x hj=>?_⟩;obtain⟨y,hy,hr⟩:=hnR.2 i r hi j x hj;refine⟨y,?_,hr⟩;have hlt:=(bm.1 hy).1;simp only at hy|-;rw[dq (by simp;omega)];simpa using hy
    .simp at h
   .--a slice of one's bq
    rename_i sz' id off len;split at h
    .rename_i szo rows hob;split at h
     .rename_i hb;obtain⟨e1,hle,hlim⟩:=hb;subst e1;simp only[E7]at hlim;obtain⟨rfl,rfl,rfl,rfl⟩:TV.c (.fK (n+1) nxt 0 (len+new.length))=v/\[(id,none),(nxt,some (Ob.aL (n+1) ((rows.drop off).take len++new++rows.drop (off+len+new.length))))]=u/\id::ids1=aw/\nxt+1=n':=by simpa using h
      have hn:=hn0 (bc _);have hr:=ha _ rfl;generalize hv0:ρ s=val at hr;cases hr with
      |c hr=>
      have hlen:((rows.drop off).take len).length=len:=by simp;omega
      have hlen2:((rows.drop off).take len++new).length=len+new.length:=by simp;omega
      have hku:∀hf:Nat->Option Ob,bn [(id,none),(nxt,some (Ob.aL (n+1) ((rows.drop off).take len++new++rows.drop (off+len+new.length))))] hf=bn [(nxt,some (Ob.aL (n+1) ((rows.drop off).take len++new++rows.drop (off+len+new.length))))] (bn [(id,none)] hf):=by intro hf;have hne:id≠nxt:=fun e=>hn (e▸(hI.jy _ _ hob).1);rw[<-eP];exact nH (u:=[(id,none)]) fun p hp q hq=>by obtain rfl:=aq.1 hp;obtain rfl:=aq.1 hq;exact hne
      have hkill:Inv S K w0 Kn φ (bn [(id,none)] (az H)) w:=hI.m8 fun i o ho=>by
       rw[bV]at ho;split at ho
       .simp at ho
       .exact ho
      obtain⟨hk0,h0⟩:=hI.jy _ _ hob;generalize hphi:φ id=l at*;cases h0 with
      |@aL _ _ aL hsz0 hl hS hK hown hext hfit hrr hvis=>
      obtain⟨cap,addr,rfl,hszl,hk,hcap,haddr,hextc,hcl⟩:=hr.ll;rw[hphi]at hv0 haddr hextc hszl hcl;have e2:szo=n+1:=by rw[<-hl,hszl]
      subst e2;rw[hl]at haddr hextc;have hR:∀len',len'=len->cO S w (n+1) (fun i=>aL[i]?) addr ((rows.drop off).take len'):=fun len' e=>by subst e;exact hrr.yy off len' fun h=>haddr (by omega)
      have hRc:cO S w (n+1) (fun i=>w.cell? ⟨l.cQ,i,none⟩) addr ((rows.drop off).take len):=⟨(hR len rfl).1,fun i r hi j x hj=>let⟨y,hy,hd⟩:=(hR len rfl).2 i r hi j x hj;⟨y,(hown.cell _).trans hy,hd⟩⟩
      by_cases hroom:len+new.length<=cap
      .--there is jE
       have hl2:=(hel w rfl).1;have hn2:=(hel w rfl).2;have hcm:(len+new.length)*(n+1)<=cap*(n+1):=aH _ hroom;rw[bB]at hcm;obtain⟨ty,hty⟩:=hown;have eE:=run_storeCells_at P l.cQ (addr+len*(n+1)) ty narr.toList 0 aL w hty (by simp only[gb,hns];omega) (fun v hv=>by rw[qA];exact hnone v hv);simp only[cT,gb,hns]at eE;have hown:pP w l.cQ aL:=⟨ty,hty⟩
       obtain⟨p1,p2,p3,p4,p5⟩:=oY (w:=w) (b:=l.cQ) (o:=addr+len*(n+1)) (n:=new.length*(n+1)) (vs:=narr.toList) hown (by simpa using hns);have hio:Io w (w.setRow l.cQ (aL.toList.take (addr+len*(n+1))++narr.toList++aL.toList.drop (addr+len*(n+1)+new.length*(n+1))).toArray):=⟨rfl,rfl,rfl,am _⟩
       generalize hw':w.setRow l.cQ (aL.toList.take (addr+len*(n+1))++narr.toList++aL.toList.drop (addr+len*(n+1)+new.length*(n+1))).toArray=w' at*
       have hrun:(execOp ρ o).run P w=.ok (.value (.slice (some ⟨l.cQ,addr,none⟩) (len+new.length) cap)) w':=by
        simp only[execOp,ho,hcal,resolve,hargs,Sem.run_bind,Sem.run_pure,Result.andThen_ok,invoke,builtin,Builtin.append_,hts,fq,aD,aZ,hv0,cJ,
         cW,fJ,bZ hus,iA hsz,hunx,hl2,hroom,if_true,oG,hn2,aO,if_false,qO,eE]
       have hfree:∀i o,bn [(id,none)] (az H) i=some o->cL o=true->l.cQ∉iH w φ (bn [(id,none)] (az H)) i:=by
        intro i o hi ho hm;have hi':=hi;rw[bV]at hi';split at hi'
        .simp at hi'
        .rename_i hne;rw[gO rfl (hi.trans hi'.symm)]at hm;exact o6 hI hi' hob ho rfl (fun e=>hne e.symm) hm (by rw[<-hphi];exact lQ id)
       obtain⟨hs1,hI1⟩:=hkill.EA hS hK hfree p2 p3 p4 (p5 (by omega)) hio;have hget:∀k,(aW aL.toList (addr+len*(n+1)) narr.toList).toArray[k]?=if k<addr+len*(n+1)then aL[k]?else if k<addr+len*(n+1)+narr.size then narr[k-(addr+len*(n+1))]?else aL[k]?:=by intro k;rw[<-bf];show(aW aL.toList _ narr.toList)[k]?=_;rw[ki _ _ _ (by simp only[gb,hns];omega)];simp only[bf,gb]
       have hrows:cO S w' (n+1) (fun i=>(aW aL.toList (addr+len*(n+1)) narr.toList).toArray[i]?) addr ((rows.drop off).take len++new):=by
        refine ra (cO.mono hs1 ⟨(hR len rfl).1,fun i r hi j x hj=>?_⟩) (cO.mono hs1 ⟨hnR.1,fun i r hi j x hj=>?_⟩)
        .obtain ⟨y,hy,hd⟩:=(hR len rfl).2 i r hi j x hj;refine⟨y,?_,hd⟩;have hil:i<len:=by rw[<-hlen];exact(ao.1 hi).1
         have hjl:j<n+1:=by rw[<-(hR len rfl).1 i r hi];exact(ao.1 hj).1
         have hm:(i+1)*(n+1)<=len*(n+1):=aH _ hil;rw[dR]at hm;show(aW aL.toList (addr+len*(n+1)) narr.toList).toArray[_]?=_;rw[hget,if_pos (by omega)];exact hy
        .obtain ⟨y,hy,hd⟩:=hnR.2 i r hi j x hj;refine⟨y,?_,hd⟩;have hlt:=(bm.1 hy).1;show(aW aL.toList (addr+len*(n+1)) narr.toList).toArray[_]?=_;rw[hlen,hget,if_neg (by omega),if_pos (by omega)];rw[<-hy];show narr[_]?=narr[_]?;congr 1;omega
       have hsz':(aW aL.toList (addr+len*(n+1)) narr.toList).toArray.size=l.ext:=by simp only[iP];rw[fm _ _ _ (by simp only[gb,hns];omega)];simpa using hext
       have hLl:(rows.drop (off+len+new.length)).length=rows.length-(off+len+new.length):=by simp
       have hLR:cO S w (n+1) (fun i=>aL[i]?) (addr+(len+new.length)*(n+1)) (rows.drop (off+len+new.length)):=by
        have h7:=hrr.yy (addr:=addr+(len+new.length)*(n+1)) (off+len+new.length) (rows.length-(off+len+new.length)) fun h=>by have:=haddr (by omega);rw[this,cX off len new.length,bB off (len+new.length)];omega
        rwa[List.take_of_length_le (by rw[hLl];omega)]at h7
       have hrows2:cO S w' (n+1) (fun i=>(aW aL.toList (addr+len*(n+1)) narr.toList).toArray[i]?) addr ((rows.drop off).take len++new++rows.drop (off+len+new.length)):=by refine ra hrows ?_;rw[hlen2];refine cO.mono hs1 ⟨hLR.1,fun i r hi j x hj=>?_⟩;obtain⟨y,hy,hd⟩:=hLR.2 i r hi j x hj;refine⟨y,?_,hd⟩;show(aW aL.toList (addr+len*(n+1)) narr.toList).toArray[_]?=_;rw[hget,if_neg (by rw[bB];omega),if_neg (by rw[hns,bB];omega)];exact hy
       have hlen3:((rows.drop off).take len++new++rows.drop (off+len+new.length)).length<=cap:=by rw[List.length_append,hlen2,hLl];omega
       have hname:=hI1.name hn ⟨l.cQ,addr,n+1,l.ext,cap⟩ (.aL (n+1) ((rows.drop off).take len++new++rows.drop (off+len+new.length))) (fun _ j b hj hb hm=>hfree j b hj hb (by rwa[Cn (p2 _ fun e=>hfree j b hj hb (e▸lQ j))]at hm))
        (.aL (dv n) rfl hS hK p1 hsz' (by have h8:=aH (n+1) hlen3;simp only;omega) hrows2 hlen3)
       refine⟨.value _,_,_,hrun,.inl rfl,bE _,S,_,hs1,⟨fun _ h=>.inl h,(kC _ hn).same⟩,.c ?_,(hku (az H)▸hname).yB fun j=>qF j⟩;have e:ext φ nxt ⟨l.cQ,addr,n+1,l.ext,cap⟩ nxt=⟨l.cQ,addr,n+1,l.ext,cap⟩:=by simp[ext]
       have:=RC.fK (S:=S) (w:=w') (Kn:=qi Kn nxt (nxt+1)) (φ:=ext φ nxt ⟨l.cQ,addr,n+1,l.ext,cap⟩) (id:=nxt) (off:=0) (len:=len+new.length) (cap:=cap) (addr:=addr)
        (.inr (by omega)) hroom (by rw[e];simp) (by rw[e];exact hextc) (by rw[e];simp)
       rw[e]at this;exact this
      .--there is none
       obtain⟨old,hold,hos,hoR,hoone⟩:=sg (P:=P) (sz:=n+1) (dv n) hRc;rw[hlen]at hold hos;obtain⟨newCap,hnc,hrun⟩:=grows (some ⟨l.cQ,addr,none⟩) len cap old hv0 (by omega) hlim (fun w' hw=>hold w' hw);refine⟨.value _,_,_,hrun,.inl rfl,?_⟩
       have hD:=room_new hn (w.drawn+1) (bE _) (bn [(id,none)] (az H)) ((rows.drop off).take len++new) (old++narr++Builtin.zeroCells zv.cells (newCap-(len+new.length))) newCap hkill (by rw[hlen2];exact hnc)
        (by simp only[iQ,hos,hns,zsize];rw[<-bB,<-bB];exact aH _ (by omega))
        (by
         refine ra ⟨hoR.1,fun i r hi j x hj=>?_⟩ ⟨hnR.1,fun i r hi j x hj=>?_⟩
         .obtain ⟨y,hy,hd⟩:=hoR.2 i r hi j x hj;refine⟨y,?_,hd⟩;have hlt:=(bm.1 hy).1;show(old++narr++_)[_]?=_;rw[dq (by rw[iQ];omega),dq hlt];exact hy
         .obtain ⟨y,hy,hd⟩:=hnR.2 i r hi j x hj;refine⟨y,?_,hd⟩;have hlt:=(bm.1 hy).1;show(old++narr++_)[_]?=_;rw[hlen,dq (by rw[iQ,hos];omega),Array.getElem?_append_right (by rw[hos];omega)];rw[<-hy,hos];show narr[_]?=narr[_]?;congr 1;omega)
       rw[hlen2]at hD;obtain⟨q1,S',φ',q2,q3,q4,q5⟩:=hD;have hL0:rows.drop (off+len+new.length)=[]:=List.drop_eq_nil_of_le (by omega);exact⟨q1,S',φ',q2,q3,q4,by rw[hku,hL0,List.append_nil];exact q5⟩
     .simp at h
    .simp at h
   .simp at h
end
end Go.Ev
