/- The model's operations, one by one, against the abstract machine's. Conditions: the relation of XEvC. -/
import Derived.Test.YtingpmogbibghaaEvF
open Array renaming getElem?_append_left->bT,getElem?_eq_some_iff->aT,getElem?_toList->aQ,length_toList->dp,size_append->eN
open Bool renaming false_eq_true->aG,or_eq_true->dE
open Ieee renaming Datum->J8,Format->ck
open Ieee.Format renaming read->fZ
open List renaming all_eq_true->aL,getElem?_cons_succ->c_,getElem?_cons_zero->bJ,getElem?_drop->bi,getElem?_eq_getElem->ap,getElem?_eq_some_iff->af,getElem?_map->aC,getElem?_range->fR,getElem?_replicate->bY,getElem?_set_self->gp,getElem?_take->cN,getElem?_toArray->bE,length_cons->dk,length_nil->gy,length_replicate->bW,map_cons->am,map_nil->aO,map_toArray->cS,mem_map->c8,mem_of_getElem?->aS,mem_singleton->ao,range->dJ,replicate->au,size_toArray->eM
open Nat renaming add_assoc->bK,add_mul->bf,add_zero->ci,le_refl->ai,le_succ->a_,lt_succ_self->aN,mod_lt->Km,mul_comm->gm,mul_le_mul_right->aw,mul_one->gQ,succ_mul->cg,succ_pos->bV,zero_add->bl
open Option renaming getD_some->di,map_eq_some_iff->aA,map_some->bB
open Option.some renaming inj->aa
open Prod.mk renaming inj->ad
namespace Go.Ev
abbrev pT:=FuncId->Bool×List Bool
def kV(P:Program)(fields:Array Field):List Nat->Option (List (Nat×Nat))
 |[]=>some []
 |i::r=>
  match fields[i]?,kV P fields r with
  |some f,some l=>match dm P f.type with|some n=>some ((f.offset,n)::l)|none=>none
  |_,_=>none
def jg:Nat->Value
 |0=>.slice none 0 0
 |1=>.pointer none
 |_=>.nilFunc
def oZ:Nat->Operand->Bool
 |0,.const (.slice none 0 0)|1,.const (.pointer none)|2,.const .nilFunc=>true
 |_,_=>false
def Gj(P:Program)(g:TypeId->Option (List Kd)):List Field->Nat->Option (List Kd)
 |[],_=>some []
 |f::r,o=>
  if f.offset=o/\f.name≠ "_" then
   match g f.type with|some ks=>if dm P f.type=some ks.length then(match Gj P g r (o+ks.length)with|some l=>some (ks++l)|none=>none)else none|none=>none
  else none
def rN(P:Program):Nat->TypeId->Option (List Kd)
 |0,_=>none
 |d+1,t=>
  match P.underlying t with
  |some .bool=>if dm P t=some 1 then some [.b]else none
  |some (.int q)=>if dm P t=some 1 then some [.i q]else none
  |some .string=>if dm P t=some 1 then some [.s]else none
  |some (.array n e)=>match rN P d e with|some ks=>if dm P e=some ks.length/\dm P t=some (n*ks.length)then some (au n ks).flatten else none|none=>none
  |some (.struct fs)=>match Gj P (rN P d) fs.toList 0 with|some ks=>if P.stoodInHeld t=false/\dm P t=some ks.length then some ks else none|none=>none
  |_=>none
def wU(P:Program)(t:TypeId):Option Bool:=((P.info? t).bind (·.zero)).map fun|.agg _=>true|_=>false
def qQ(P:Program)(k e:TypeId):Option (Bool×List Kd×Bool×List Value):=match du P k,rN P 8 k,du P e,fS P e with|some ka,some ks,some va,some z=>if wU P e=some va then some (ka,ks,va,z)else none|_,_,_,_=>none
def kC(kind:Nat)(neg:Bool)(x y:Operand):K×List Operand:=if oZ kind y then(.lc kind neg,[x])else if oZ kind x then(.lc kind neg,[y])else(.dL,[])
def zL(P:Program)(op:BinOp)(t:TypeId)(x y:Operand):K×List Operand:=
 match op with
 |.eql|.neq=>
  match P.underlying t with
  |some .bool=>(.nA (op==.neq),[x,y])
  |some (.int _)|some (.float _)|some .string=>(.rB op,[x,y])
  |some (.slice _)=>kC 0 (op==.neq) x y
  |some (.pointer _)=>kC 1 (op==.neq) x y
  |some (.func _ _ _)=>kC 2 (op==.neq) x y
  |some (.struct _)|some (.array _ _)=>match rN P 8 t with|some ks=>if P.eqGuardType P.depth t=false then(.rh (op==.neq) ks,[x,y])else(.dL,[])|none=>(.dL,[])
  |_=>(.dL,[])
 |op=>(.rB op,[x,y])
def jH(P:Program)(e:TypeId):Bool:=match P.info? e with|some i=>decide (0<i.bytes)&&decide (i.bytes<=16384)|none=>false
def mo(P:Program)(b:Builtin)(args:List Operand)(ts:List TypeId):K×List Operand:=
 match b,ts with
 |.len,[t]=>match P.underlying t with|some .string=>(.len true,args)|some (.slice _)=>(.len false,args)|_=>(.dL,[])
 |.max,_=>(.lE true,args)
 |.min,_=>(.lE false,args)
 |.append,[s,x]=>
  match P.underlying s,P.underlying x with
  |some (.slice e),some (.slice _)=>match dm P e,fS P e with|some (n+1),some z=>if jH P e=true/\z.length=n+1 then(.append (n+1),args)else(.dL,[])|_,_=>(.dL,[])
  |some (.slice e),some (.int _)=>match dm P e,fS P e with|some (n+1),some z=>if jH P e=true/\z.length=n+1 then(.IP z,args)else(.dL,[])|_,_=>(.dL,[])
  |_,_=>(.dL,[])
 |.cap,[t]=>match P.underlying t with|some (.slice _)=>(.DA,args)|_=>(.dL,[])
 |.copy,[d,_]=>
  match P.underlying d with
  |some (.slice e)=>match dm P e with|some (n+1)=>(.copy (n+1),args)|_=>(.dL,[])
  |_=>(.dL,[])
 |.clear,[s]=>
  match P.underlying s with
  |some (.slice e)=>match dm P e,fS P e with|some (n+1),some z=>if z.length=n+1 then(.clear z,args)else(.dL,[])|_,_=>(.dL,[])
  |_=>(.dL,[])
 |_,_=>(.dL,[])
def CO(P:Program)(f:FuncId):Bool:=
 match P.funcs[f]?with
 |some fn=>
  !(fn.name== "runtime.NumGoroutine")&&fn.body.isNone&&(Extern.findNext fn).isNone&&(Extern.allGenericRows.lookup fn.name).isNone&&(Extern.allTypedRows.lookup fn.name).isNone&&(Extern.allRows.lookup fn.name).isNone&&fn.origin== "slices.overlaps" &&
  (match fn.params.toList with
   |t::_=>(match P.underlying t with|some (.slice e)=>(match dm P e with|some (_+1)=>true|_=>false)|_=>false)
   |[]=>false)
 |none=>false
def x7:List Value->Bool
 |[.slice none 0 0]=>true
 |_=>false
def FM(P:Program)(QC:pT)(e:TypeId)(z:List Value):Option Nat:=if(QC 1000000000).1=true/\x7 z=true then(match P.underlying e with|some (.slice ee)=>(match dm P ee with|some (m+1)=>some (m+1)|_=>none)|_=>none)else none
def vV(P:Program)(t:TypeId):Bool:=match P.underlying t with|some (.slice _)=>true|_=>false
def Ns(P:Program)(QC:pT):Op->K×List Operand
 |.move x|.assign x=>(.mv,[x])
 |.pick c a b=>(.pick,[c,a,b])
 |.alloc e=>match fS P e with|some z=>(.alloc z,[])|none=>(.dL,[])
 |.box _ x=>(.box,[x])
 |.build t parts=>
  match P.underlying t,fS P t with
  |some (.struct fields),some z=>match kV P fields (parts.toList.map (·.1))with|some pl=>if fields.toList.all (fun f=>(dm P f.type).isSome)then(.build z pl,parts.toList.map (·.2))else(.dL,[])|none=>(.dL,[])
  |some (.array _ e),some z=>match dm P e with|some n=>(.build z (parts.toList.map fun p=>(p.1*n,n)),parts.toList.map (·.2))|none=>(.dL,[])
  |_,_=>(.dL,[])
 |.buildSlice t len parts=>
  match P.underlying t with
  |some (.slice e)=>match dm P e,fS P e with|some (n+1),some z=>if len*(n+1)<=4096/\z.length=n+1 then(.buildSlice (n+1) len ((dJ (len*(n+1))).map fun i=>z.getD (i %(n+1)) undef) (parts.toList.map (·.1)),parts.toList.map (·.2))else(.dL,[])|_,_=>(.dL,[])
  |_=>(.dL,[])
 |.load t a=>match du P t,dm P t with|some g,some n=>(if(QC 1000000000).1=true/\vV P t=true/\g=false/\n=1 then .m7 else .load g n,[a])|_,_=>(.dL,[])
 |.store t a x=>match dm P t with|some n=>(.store n,[a,x])|none=>(.dL,[])
 |.nilCheck x=>(.nilCheck,[x])
 |.binOp op t x y _=>zL P op t x y
 |.unOp op _ x=>(.un op,[x])
 |.convert s d x=>match P.underlying s,P.underlying d with|some (.int _),some (.int k)=>(.oe k,[x])|some (.int _),some (.float k)=>(.wn k,[x])|some .string,some .string=>(.mn,[x])|_,_=>(.dL,[])
 |.makeFunc (.func f) first captured=>if first.isEmpty then(.AG f,captured.toList)else(.dL,[])
 |.makeSlice t l c=>
  match P.underlying t with
  |some (.slice e)=>match dm P e,fS P e with|some (n+1),some z=>if z.length=n+1/\jH P e=true then(match FM P QC e z with|some m=>.sM m|none=>.makeSlice z,[l,c])else(.dL,[])|_,_=>(.dL,[])
  |_=>(.dL,[])
 |.slice t x lo hi none=>
  match P.underlying t with
  |some .string=>(.slice true 1 lo.isSome hi.isSome,x::lo.toList++hi.toList)
  |some (.slice e)=>match dm P e with|some n=>(.slice false n lo.isSome hi.isSome,x::lo.toList++hi.toList)|none=>(.dL,[])
  |_=>(.dL,[])
 |.slice t x (some l) (some u) (some m)=>
  match P.underlying t with
  |some (.slice e)=>match dm P e with|some n=>(.tD n,[x,l,u,m])|none=>(.dL,[])
  |_=>(.dL,[])
 |.fieldAddr s x f=>
  match P.underlying s with
  |some (.struct fields)=>match fields[f]?with|some fl=>(match dm P fl.type with|some (m+1)=>(.fieldAddr fl.offset (m+1),[x])|_=>(.dL,[]))|none=>(.dL,[])
  |_=>(.dL,[])
 |.field s x f=>
  match P.underlying s with
  |some (.struct fields)=>match fields[f]?with|some fl=>(match du P fl.type,dm P fl.type with|some g,some n=>(.field g fl.offset n,[x])|_,_=>(.dL,[]))|none=>(.dL,[])
  |_=>(.dL,[])
 |.indexAddr t x i=>
  match P.underlying t with
  |some (.slice e)=>match dm P e with|some n=>(.indexAddr none n,[x,i])|none=>(.dL,[])
  |some (.array len e)=>match dm P e with|some n=>(.indexAddr (some len) n,[x,i])|none=>(.dL,[])
  |_=>(.dL,[])
 |.index t x i=>
  match P.underlying t with
  |some .string=>(.jZ,[x,i])
  |some (.array len e)=>match du P e,dm P e with|some g,some n=>(.index g len n,[x,i])|_,_=>(.dL,[])
  |_=>(.dL,[])
 |.extract x i=>(.extract i,[x])
 |.makeMap t none=>
  match P.underlying t with
  |some (.map k e)=>match du P k,du P e with|some ka,some va=>(.makeMap ka va,[])|_,_=>(.dL,[])
  |_=>(.dL,[])
 |.lookup t x ix ok=>
  match P.underlying t with
  |some (.map k e)=>match qQ P k e with|some (ka,ks,va,z)=>(.lookup ka ks va z ok,[x,ix])|none=>(.dL,[])
  |_=>(.dL,[])
 |.mapEntry t m k=>
  match P.underlying t with
  |some (.map kt e)=>match qQ P kt e with|some (ka,ks,va,z)=>(.mapEntry ka ks va z,[m,k])|none=>(.dL,[])
  |_=>(.dL,[])
 |.entryStore t m s x=>
  match P.underlying t with
  |some (.map kt e)=>match qQ P kt e with|some (_,_,va,z)=>(.entryStore va z.length,[m,s,x])|none=>(.dL,[])
  |_=>(.dL,[])
 |.call c=>match c.callee with|.builtin b=>mo P b c.args.toList c.argTypes.toList|.value (.func f)=>if(QC f).2.length=9 then(if CO P f=true then(.Ii,c.args.toList)else(.dL,[]))else(.call (QC f).1 (QC f).2,.func f::c.args.toList)|.value f=>(.call false [],f::c.args.toList)|.invoke _ _=>(.dL,[])
 |_=>(.dL,[])
section
variable{P:Program}{S K:Nat->Prop}{w0 w:World}{Kn:Nat->Prop}{φ:Nat->d_}{hf:Nat->Option Ob}
def gI(S K:Nat->Prop)(w0 w:World)(Kn:Nat->Prop)(φ:Nat->d_)(hf:Nat->Option Ob)(nxt n':Nat)(v:TV)(u:de)(val:Value)(w':World):Prop:=nxt<=n'/\∃S' φ',WJ S w S' w'/\mS Kn φ (jI Kn nxt n') φ'/\dH S' w' (jI Kn nxt n') φ' v val/\Inv S' K w0 (jI Kn nxt n') φ' (aU u hf) w'
theorem dH.kn{Kn':Nat->Prop}{c:TV}{v:Value}(h:dH S w Kn φ c v)(hs:∀i,Kn i->Kn' i):dH S w Kn' φ c v:=h.mono (WJ.refl _ _) ⟨hs,fun _ _=>rfl⟩
theorem gI.pure{n:Nat}{v:TV}{val:Value}(hI:Inv S K w0 Kn φ hf w)(h:dH S w Kn φ v val):gI S K w0 w Kn φ hf n n v [] val w:=⟨ai _,S,φ,WJ.refl _ _,kq _ _,h.kn fun _ hi=>.inl hi,hI.kn fun _ hi=>.inl hi⟩
def bZ(P:Program)(o:Oper)(ρ:Operand->Value)(S K:Nat->Prop)(w0 w:World)(Kn:Nat->Prop)(φ:Nat->d_)(hf:Nat->Option Ob)(nxt n':Nat)(v:TV)(u:de):Prop:=∃nx val w',(execOp ρ o).run P w=.ok nx w'/\(nx=.value val\/(nx=.skip/\val=undef))/\gI S K w0 w Kn φ hf nxt n' v u val w'
theorem Dm{v:Value}{tv:TV}(h:cv v=some tv):dH S w Kn φ tv v:=by
 unfold cv at h;split at h
 .rename_i cs;split at h
  .rename_i hp;obtain rfl:=aa h;refine .agg (by simp) fun i x hi=>?_;rw[aC]at hi;obtain⟨y,hy,rfl⟩:=aA.1 hi;have hlt:i<cs.size:=by simpa using(af.1 hy).1
   have e:cs.getD i undef=y:=by rw[aQ]at hy;simp[hy]
   rw[e];exact .d (.lit (aL.1 hp y (aS hy)))
  .simp at h
 .split at h
  .rename_i hp;obtain rfl:=aa h;exact .c (.d (.lit hp))
  .simp at h
def fN.ok(S:Nat->Prop)(w:World)(Kn:Nat->Prop)(φ:Nat->d_)(e:fN)(tmps:Array Value):Prop:=∀t x,bv e t=some x->dH S w Kn φ x (tmps.getD t undef)
theorem mH{e:fN}{a:Act}(hg:uz S w)(hE:fN.ok S w Kn φ e a.tmps){x:Operand}{tv:TV}(h:L9 e x=some tv):dH S w Kn φ tv (a.eval x):=by
 cases x with
 |tmp t=>exact hE t tv h
 |const v=>exact Dm h
 |global g=>obtain⟨d,hd,rfl⟩:=aA.1 (show(It g).map (fun d=>TV.c (.d d))=some tv from h);exact .c (.d (hg g d hd))
 |func f=>
  obtain rfl:TV.c (.d (.fn f []))=tv:=by simpa[L9]using h
  exact .c (.d (.fn rfl fun j x hj=>by simp at hj))
inductive kK:Value->Value->Prop
 |lit {v:Value} (h:cO v=true):kK v v
 |nan {k:FloatKind} {n m:Nat} (hn:nH k n) (hm:nH k m):kK (.float k n) (.float k m)
 |ex {k:FloatKind} {n:Nat}:kK (.complex k n 0) (.float k n)
theorem dH.AA{v val:Value}(h:dH S w Kn φ (.c (.d (.lit v))) val):kK v val:=by
 cases h with
 |c h=>cases h with
  |d h=>cases h with|lit h=>exact .lit h|nan hn hm=>exact .nan hn hm|ex=>exact .ex
def GZ:Value->Bool
 |.float _ _|.complex _ _ _=>true
 |_=>false
theorem dH.lit{v val:Value}(h:dH S w Kn φ (.c (.d (.lit v))) val)(hf:GZ v=false:=by rfl):val=v/\cO v=true:=by cases h.AA with|lit hp=>exact⟨rfl,hp⟩|nan=>cases hf|ex=>cases hf
theorem dH.xQ{v val:Value}(h:kK v val):dH S w Kn φ (lv v) val:=by cases h with|lit h=>exact .c (.d (.lit h))|nan hn hm=>exact .c (.d (.nan hn hm))|ex=>exact .c (.d .ex)
theorem nH.eq{k:FloatKind}{n:Nat}(h:nH k n):∃s t,k.format.read n=.nan s t:=by
 unfold nH J8.isNaN at h;split at h
 .exact ⟨_,_,by assumption⟩
 .cases h
theorem zp{k:FloatKind}{n:Nat}(h:nH k n)(y:Nat):k.format.add n y=none/\k.format.sub n y=none/\k.format.mul n y=none/\k.format.div n y=none/\k.format.order n y=none:=by obtain⟨s,t,h⟩:=h.eq;simp[ck.add,ck.sub,ck.mul,ck.div,ck.order,h,J8.sum,J8.product,J8.quotient,J8.order]
theorem zo{k:FloatKind}{n:Nat}(h:nH k n)(y:Nat):k.format.add y n=none/\k.format.sub y n=none/\k.format.mul y n=none/\k.format.div y n=none/\k.format.order y n=none:=by obtain⟨s,t,h⟩:=h.eq;cases hy:k.format.read y<;>simp[ck.add,ck.sub,ck.mul,ck.div,ck.order,h,hy,J8.opposite,J8.sum,J8.product,J8.quotient,J8.order]
theorem DG{op:BinOp}{k:FloatKind}{n m:Nat}(hn:nH k n)(hm:nH k m)(y:Value):MB op (.float k n) y=MB op (.float k m) y:=by cases y with|float k' y=>unfold MB jr tT;obtain⟨a1,a2,a3,a4,a5⟩:=zp hn y;obtain⟨b1,b2,b3,b4,b5⟩:=zp hm y;simp only[a1,a2,a3,a4,a5,b1,b2,b3,b4,b5]|_=>rfl
theorem DF{op:BinOp}{k:FloatKind}{n m:Nat}(hn:nH k n)(hm:nH k m)(y:Value):MB op y (.float k n)=MB op y (.float k m):=by
 cases y with
 |float k' y=>
  by_cases hk:k'=k
  .subst hk;unfold MB jr tT;obtain⟨a1,a2,a3,a4,a5⟩:=zo hn y;obtain⟨b1,b2,b3,b4,b5⟩:=zo hm y;simp only[a1,a2,a3,a4,a5,b1,b2,b3,b4,b5]
  .unfold MB jr tT;simp only[if_neg hk]
 |_=>rfl
theorem yJ{op:BinOp}{a b va vb v:Value}(ha:kK a va)(hb:kK b vb)(h:MB op a b=some v):MB op va vb=some v:=by
 cases ha with
 |ex=>cases hb<;>(unfold MB jr tT at h;cases h)
 |lit _=>cases hb with|lit _=>exact h|nan hn hm=>rw[<-DF hn hm];exact h|ex=>exfalso;unfold MB jr tT at h;cases a<;>cases h
 |nan hn hm=>cases hb with|lit _=>rw[<-DG hn hm];exact h|nan hn' hm'=>rw[<-DG hn hm,<-DF hn' hm'];exact h|ex=>unfold MB jr tT at h;cases h
theorem zC(k:FloatKind)(x y t:Nat):nH k ((Question.nanBits k x y).cut t):=by
 cases k with
 |f32=>
  show((fZ Ieee.single) ((t %2)*2^31+0x7f800000+1+(t/2) %(2^23-1))).isNaN=true;have h1:((t %2)*2^31+0x7f800000+1+(t/2) %(2^23-1)) %2147483648=0x7f800001+(t/2) %8388607:=by omega
  unfold fZ;show(J8.isNaN (if((t %2)*2^31+0x7f800000+1+(t/2) %(2^23-1)) %2147483648<8388608 then _ else if((t %2)*2^31+0x7f800000+1+(t/2) %(2^23-1)) %2147483648<2139095040 then _ else if((t %2)*2^31+0x7f800000+1+(t/2) %(2^23-1)) %2147483648=2139095040 then _ else _))=true;rw[h1,if_neg (by omega),if_neg (by omega),if_neg (by omega)];rfl
 |f64=>
  show((fZ Ieee.double) ((t %2)*2^63+0x7ff0000000000000+1+(t/2) %(2^52-1))).isNaN=true;have h1:((t %2)*2^63+0x7ff0000000000000+1+(t/2) %(2^52-1)) %9223372036854775808=0x7ff0000000000001+(t/2) %4503599627370495:=by omega
  unfold fZ;show(J8.isNaN (if((t %2)*2^63+0x7ff0000000000000+1+(t/2) %(2^52-1)) %9223372036854775808<4503599627370496 then _ else if((t %2)*2^63+0x7ff0000000000000+1+(t/2) %(2^52-1)) %9223372036854775808<9218868437227405312 then _ else if((t %2)*2^63+0x7ff0000000000000+1+(t/2) %(2^52-1)) %9223372036854775808=9218868437227405312 then _ else _))=true;rw[h1,if_neg (by omega),if_neg (by omega),if_neg (by omega)];rfl
theorem vW(k:FloatKind):nH k (Sy k):=by cases k<;>(unfold nH;decide)
theorem dH.kI{v:Value}(h:cO v=true):dH S w Kn φ (lv v) v:=.c (.d (.lit h))
theorem BU{op:BinOp}{t:TypeId}{x y v:Value}(h:jr op x y=some v):(binOp op t x y).run P w=.ok v w/\cO v=true/\(∀a b,(eqGuard op t a b x y).run P w=.ok () w):=by
 have hg:∀a b,(match x,y with|.nilIface,.nilIface=>False|.agg _,.agg _=>False|_,_=>True)->(eqGuard op t a b x y).run P w=.ok () w:=by intro a b hxy;unfold eqGuard;cases op<;>simp<;>(cases x<;>cases y<;>simp_all)
 unfold jr at h;split at h
 .rename_i k a k' b;refine(fun⟨h1,h2⟩=>⟨h1,h2,fun a b=>hg a b trivial⟩:(_/\_)->_) ?_;split at h
  .split at h
   .simp at h
   .rename_i hb;obtain rfl:=aa h;simp[binOp,Op.shift,hb,cO]
  .split at h
   .simp at h
   .rename_i hb;obtain rfl:=aa h;simp[binOp,Op.shift,hb,cO]
  .rename_i op hshl hshr;split at h
   .rename_i hk;subst hk
    split at h<;>first
     |(simp at h;done)
     |(split at h
       .simp at h
       .rename_i hb;obtain rfl:=aa h;simp[binOp,Op.intDiv,hb,cO])
     |(obtain rfl:=aa h
       simp[binOp,Op.intArith,Op.intBits,Op.intCmp,cO])
   .simp at h
 .rename_i k a k' b;refine(fun⟨h1,h2⟩=>⟨h1,h2,fun a b=>hg a b trivial⟩:(_/\_)->_) ?_;split at h
  .rename_i hk;subst hk
   split at h<;>first
    |(simp at h;done)
    |(obtain⟨r,hr,rfl⟩:=aA.1 h
      simp[binOp,Op.floatArith,hr,cO])
    |(obtain rfl:=aa h
      simp[binOp,Op.floatCmp,cO])
  .simp at h
 .rename_i x y;refine(fun⟨h1,h2⟩=>⟨h1,h2,fun a b=>hg a b trivial⟩:(_/\_)->_) ?_
  split at h<;>first
   |(simp at h;done)
   |(split at h
     .simp at h
     .rename_i hb;obtain rfl:=aa h;refine⟨?_,rfl⟩;simp only[binOp,Op.stringOp,if_neg hb,Sem.run_pure])
   |(obtain rfl:=aa h
     simp[binOp,Op.stringOp,cO])
 .simp at h
theorem BV{op:BinOp}{t:TypeId}{x y v:Value}(h:MB op x y=some v):∃v' n,(binOp op t x y).run P w=.ok v' {w with drawn:=n}/\w.drawn<=n/\kK v v'/\(∀a b,(eqGuard op t a b x y).run P w=.ok () w):=by
 unfold MB at h;split at h
 .rename_i z hz;obtain rfl:=aa h;obtain⟨h1,h2,h3⟩:=BU (P:=P) (w:=w) (t:=t) hz;exact⟨_,w.drawn,h1,ai _,.lit h2,h3⟩
 .rename_i hz;clear hz;unfold tT at h;split at h
  .rename_i k a k' b;split at h
   .rename_i hk;subst hk
    have key:∀op',(op'=.add\/op'=.sub\/op'=.mul\/op'=.quo)->op=op'->(Op.floatArith op k a b=(do pure (.float k (<-choose (.nanBits k a b)))))->some (Value.float k (Sy k))=some v->
      ∃v' n,(binOp op t (.float k a) (.float k b)).run P w=.ok v' {w with drawn:=n}/\w.drawn<=n/\kK v v'/\(∀x y,(eqGuard op t x y (.float k a) (.float k b)).run P w=.ok () w):=by
     intro op' ho he hf hv;obtain rfl:=aa hv;refine⟨.float k ((Question.nanBits k a b).cut (w.tape w.drawn (.nanBits k a b))),w.drawn+1,?_,a_ _,.nan (vW k) (zC _ _ _ _),?_⟩
     .have e:binOp op t (.float k a) (.float k b)=Op.floatArith op k a b:=by subst he;rcases ho with rfl|rfl|rfl|rfl<;>simp[binOp]
      rw[e,hf];simp[run_choose,Question.forced]
     .intro x y;subst he;rcases ho with rfl|rfl|rfl|rfl<;>simp[eqGuard]
    split at h
    .split at h
     .rename_i e;exact key .add (by simp) rfl (by unfold Op.floatArith;simp[e]) h
     .cases h
    .split at h
     .rename_i e;exact key .sub (by simp) rfl (by unfold Op.floatArith;simp[e]) h
     .cases h
    .split at h
     .rename_i e;exact key .mul (by simp) rfl (by unfold Op.floatArith;simp[e]) h
     .cases h
    .split at h
     .rename_i e;exact key .quo (by simp) rfl (by unfold Op.floatArith;simp[e]) h
     .cases h
    .cases h
   .cases h
  .cases h
theorem y7{op:UnOp}{x v:Value}(h:Gh op x=some v):(Op.unary op x).run P w=.ok v w/\cO v=true:=by
 unfold Gh at h;split at h
 .split at h
  .obtain rfl:=aa h;simp[Op.unary,cO]
  .simp at h
 .split at h
  .obtain rfl:=aa h;simp[Op.unary,Op.intArith,cO]
  .obtain rfl:=aa h;simp[Op.unary,Op.intBits,cO]
  .simp at h
 .split at h
  .obtain rfl:=aa h;simp[Op.unary,cO]
  .simp at h
 .simp at h
end
section
variable{P:Program}{S K:Nat->Prop}{w0 w:World}{Kn:Nat->Prop}{φ:Nat->d_}{H:aY}{e:fN}{ρ:Operand->Value}{o:Oper}{call:Call}
 {nxt n':Nat} {v:TV} {u:de} {aj:List Nat}
theorem jY(j:Nat):(Kn j\/j=nxt)<->jI Kn nxt (nxt+1) j:=by
 unfold jI;constructor
 .rintro (h|rfl)
  .exact .inl h
  .exact .inr (by omega)
 .rintro (h|h)
  .exact .inl h
  .exact .inr (by omega)
theorem zn(hI:Inv S K w0 Kn φ (ak H) w):¬S w.heap.size/\¬K w.heap.size:=⟨fun h=>Nat.lt_irrefl _ (hI.nM _ h),fun h=>by have:=hI.iT.xX _ h;have:=hI.iT.grow;omega⟩
theorem gI.box{hf:Nat->Option Ob}(hI:Inv S K w0 Kn φ (ak H) w)(hh:hf=ak H)(hn:¬Kn nxt){cs:List C}{aB:Array Value}(t:TypeId)(hlen:cs.length=aB.size)
  (h:∀(i:Nat)(x:C),cs[i]?=some x->RC S w Kn φ x (aB.getD i undef)):
  gI S K w0 w Kn φ hf nxt (nxt+1) (.c (.op nxt 0)) [(nxt,some (.box cs))] (.pointer (some ⟨w.heap.size,0,none⟩)) {w with heap:=w.heap.push (.cells aB t)}:=by
 subst hh;obtain⟨nS,nK⟩:=zn hI;have hs:=WJ.push (w:=w) hI.nM (.cells aB t);refine⟨a_ _,S,_,hs,⟨fun _ h=>.inl h,(fP _ hn).cK⟩,.c ?_,(hI.alloc hn aB t 1 0 (.box cs) (.box rfl nS nK (vk w aB t) hlen fun i x hi=>(h i x hi).mono hs (fP _ hn))).pJ fun j=>jY j⟩;have:=RC.op (S:=S) (w:={w with heap:=w.heap.push (.cells aB t)}) (Kn:=jI Kn nxt (nxt+1)) (φ:=ext φ nxt ⟨w.heap.size,0,1,aB.size,0⟩) (id:=nxt) (off:=0) (.inr (by omega));simpa[ext]using this
theorem gI.aB{hf:Nat->Option Ob}(hI:Inv S K w0 Kn φ hf w)(hn:¬Kn nxt){sz cap:Nat}{rows:List (List D)}{aB:Array Value}(t:TypeId)(hsz:0<sz)
  (hcap:rows.length<=cap) (hfit:cap*sz<=aB.size) (h:bG S w sz (fun i=>aB[i]?) 0 rows):
  gI S K w0 w Kn φ hf nxt (nxt+1) (.c (.da sz nxt 0 rows.length)) [(nxt,some (.aB sz rows))] (.slice (some ⟨w.heap.size,0,none⟩) rows.length cap) {w with heap:=w.heap.push (.cells aB t)}:=by
 have nS:¬S w.heap.size:=fun h=>Nat.lt_irrefl _ (hI.nM _ h);have nK:¬K w.heap.size:=fun h=>by have:=hI.iT.xX _ h;have:=hI.iT.grow;omega
 have hs:=WJ.push (w:=w) hI.nM (.cells aB t);have hrl:rows.length*sz<=cap*sz:=aw _ hcap;refine⟨a_ _,S,_,hs,⟨fun _ h=>.inl h,(fP _ hn).cK⟩,.c ?_,(hI.alloc hn aB t sz cap (.aB sz rows) (.aB hsz rfl nS nK (vk w aB t) rfl (by simp only;omega) (h.mono hs) hcap)).pJ fun j=>jY j⟩;have e:ext φ nxt ⟨w.heap.size,0,sz,aB.size,cap⟩ nxt=⟨w.heap.size,0,sz,aB.size,cap⟩:=by simp[ext]
 have:=RC.da (S:=S) (w:={w with heap:=w.heap.push (.cells aB t)}) (Kn:=jI Kn nxt (nxt+1)) (φ:=ext φ nxt ⟨w.heap.size,0,sz,aB.size,cap⟩) (id:=nxt) (off:=0) (len:=rows.length) (cap:=cap) (addr:=0)
  (.inr (by omega)) hcap (by rw[e];simp) (by rw[e];simpa using hfit) (by rw[e];simp)
 rw[e]at this;simpa using this
theorem qs(t:TypeId)(val:Value):(newVar t val).run P w=.ok ⟨w.heap.size,0,none⟩ {w with heap:=w.heap.push (.cells val.cells t)}:=by simp[newVar,newRow,newObj,Sem.run]
theorem Cz{z:List Value}{aB:Array Value}(hz:aB.toList=z)(hp:∀x∈z,cO x=true):(db z).length=aB.size/\∀(i:Nat)(x:C),(db z)[i]?=some x->RC S w Kn φ x (aB.getD i undef):=by
 subst hz;refine⟨by simp[db],fun i x hi=>?_⟩;simp only[db,aC]at hi;obtain⟨y,hy,rfl⟩:=aA.1 hi;have e:aB.getD i undef=y:=by rw[aQ]at hy;simp[hy]
 rw[e];exact .d (.lit (hp y (aS hy)))
theorem Ch{t:TypeId}{z:List Value}(ho:o.op=.alloc t)(hz:fS P t=some z)(hI:Inv S K w0 Kn φ (ak H) w)(hn0:nxt<n'->¬Kn nxt)
  (h:bD call (.alloc z) [] H nxt=some (v,u,aj,n')):bZ P o ρ S K w0 w Kn φ (ak H) nxt n' v u:=by
 obtain⟨rfl,rfl,rfl,rfl⟩:TV.c (.op nxt 0)=v/\[(nxt,some (.box (db z)))]=u/\[]=aj/\nxt+1=n':=by simpa[bD]using h
 have hn:=hn0 (aN _);obtain⟨val,hv,hc,hp⟩:=jR hz w;obtain⟨h1,h2⟩:=Cz (S:=S) (w:=w) (Kn:=Kn) (φ:=φ) hc hp;refine⟨.value _,_,_,?_,.inl rfl,gI.box hI rfl hn t h1 h2⟩;simp[execOp,ho,Instr.alloc,hv,qs]
theorem GF{t:TypeId}{x:Operand}(ho:o.op=.box t x)(hI:Inv S K w0 Kn φ (ak H) w)(hn0:nxt<n'->¬Kn nxt){tv:Option TV}(hx:∀y,tv=some y->dH S w Kn φ y (ρ x))
  (h:bD call .box [tv] H nxt=some (v,u,aj,n')):bZ P o ρ S K w0 w Kn φ (ak H) nxt n' v u:=by
 cases tv with
 |none=>simp[bD]at h
 |some y=>
  simp only[bD]at h;split at h
  .rename_i cs hcs;obtain⟨rfl,rfl,rfl,rfl⟩:TV.c (.op nxt 0)=v/\[(nxt,some (.box cs))]=u/\[]=aj/\nxt+1=n':=by simpa using h
   have hn:=hn0 (aN _);obtain⟨h1,h2,_⟩:=(hx y rfl).cells hcs;refine⟨.value _,_,_,?_,.inl rfl,gI.box hI rfl hn t h1 h2⟩;simp[execOp,ho,Instr.box,qs]
  .simp at h
theorem Aa{t:TypeId}{agg:Bool}{n:Nat}(ha:du P t=some agg)(hs:dm P t=some n)(hI:Inv S K w0 Kn φ (ak H) w){p:C}{pv:Value}(hp:RC S w Kn φ p pv)(hn0:nxt<n'->¬Kn nxt)
  (h:gU agg n p H nxt=some (v,u,aj,n')):∃val,(Instr.loadAt t pv).run P w=.ok val w/\gI S K w0 w Kn φ (ak H) nxt n' v u val w:=by
 unfold gU at h;split at h
 case h_2=>simp at h
 rename_i id cU;split at h
 case h_2=>simp at h
 rename_i sz slots ho;split at h
 case isFalse=>simp at h
 rename_i hag;obtain⟨rfl,rfl⟩:=hag;obtain⟨hk,hro⟩:=hI.fh id _ ho;have hl:(φ id).sz=1:=by cases hro with|nst hsz hl=>exact hl
 cases hp with
 |ep hk'=>
  have ea:(⟨(φ id).bH,(φ id).aF+cU*(φ id).sz+0,none⟩:Addr)=⟨(φ id).bH,(φ id).aF+cU,none⟩:=by rw[hl,gQ,ci]
  rw[ea];split at h
  .rename_i hsl;obtain⟨rfl,rfl,rfl,rfl⟩:TV.c (.d (.lit (.slice none 0 0)))=v/\[]=u/\[id]=aj/\nxt=n':=by simpa using h
   cases hro with
   |nst hsz hl hS hK hown hext hfit hr hv=>
    obtain⟨x,h1,h2⟩:=hr cU _ hsl;cases h2
    obtain⟨val,q1,q2⟩:=oO (S:=S) (Kn:=Kn) (φ:=φ) ha hs (cells:=[.d (.lit (.slice none 0 0))]) (b:=(φ id).bH) (o:=(φ id).aF+cU) (fun j x hj=>by
     cases j with
     |succ j=>simp at hj
     |zero=>
      obtain rfl:C.d (.lit (.slice none 0 0))=x:=by simpa using hj
      exact⟨_,(hown.cell _).trans h1,.d (.lit rfl)⟩) (v:=TV.c (.d (.lit (.slice none 0 0)))) rfl
    exact⟨val,by simp[Instr.loadAt,Instr.sureAddr,q1],gI.pure hI q2⟩
  .rename_i rows hsl;obtain⟨rfl,rfl,rfl,rfl⟩:TV.c (.da sz nxt 0 rows.length)=v/\[(nxt,some (Ob.aB sz rows)),(id,some (Ob.nst sz (slots.set cU (.ku nxt rows.length))))]=u/\[id]=aj/\nxt+1=n':=by simpa using h
   have hn:=hn0 (aN _);obtain⟨l,x,h1,h2,h3⟩:=hI.split ho hsl hn
   obtain⟨val,q1,q2⟩:=oO (S:=S) (Kn:=fun j=>Kn j\/j=nxt) (φ:=ext φ nxt l) ha hs (cells:=[.da sz nxt 0 rows.length]) (b:=(φ id).bH) (o:=(φ id).aF+cU) (fun j x' hj=>by
     cases j with
     |succ j=>simp at hj
     |zero=>
      obtain rfl:C.da sz nxt 0 rows.length=x':=by simpa using hj
      exact⟨x,h1,h2⟩) (v:=TV.c (.da sz nxt 0 rows.length)) rfl
   refine⟨val,by simp[Instr.loadAt,Instr.sureAddr,q1],a_ _,S,ext φ nxt l,WJ.refl _ _,⟨fun i hi=>.inl hi,(fP l hn).cK⟩,q2.kn fun i=>(jY i).1,h3.pJ fun i=>jY i⟩
  .simp at h
theorem zf{t:TypeId}{x:Operand}{agg:Bool}{n:Nat}(ho:o.op=.load t x)(ha:du P t=some agg)(hs:dm P t=some n)(hI:Inv S K w0 Kn φ (ak H) w)
  {tv:Option TV} (hx:∀y,tv=some y->dH S w Kn φ y (ρ x)) (h:bD call (.load agg n) [tv] H nxt=some (v,u,aj,n')):bZ P o ρ S K w0 w Kn φ (ak H) nxt n' v u:=by
 cases tv with
 |none=>simp[bD]at h
 |some y=>
  cases y with
  |c p=>
   change (match eH agg n p H with|some (v,aj)=>some (v,[],aj,nxt)|none=>none)=_ at h;split at h
   .rename_i v' ids' hl;obtain⟨rfl,rfl,rfl,rfl⟩:v'=v/\[]=u/\ids'=aj/\nxt=n':=by simpa using h
    cases hx _ rfl with|c hp=>obtain⟨val,h1,h2⟩:=qu ha hs hI hp hl;refine⟨.value _,_,_,?_,.inl rfl,gI.pure hI h2⟩;simp[execOp,ho,h1]
   .simp at h
  |_=>simp[bD]at h
theorem Ca{t:TypeId}{x:Operand}(ho:o.op=.load t x)(ha:du P t=some false)(hs:dm P t=some 1)(hI:Inv S K w0 Kn φ (ak H) w)(hn0:nxt<n'->¬Kn nxt)
  {tv:Option TV} (hx:∀y,tv=some y->dH S w Kn φ y (ρ x)) (h:bD call .m7 [tv] H nxt=some (v,u,aj,n')):bZ P o ρ S K w0 w Kn φ (ak H) nxt n' v u:=by
 cases tv with
 |none=>simp[bD]at h
 |some y=>
  cases y with
  |c p=>
   change (match eH false 1 p H with|some (v,aj)=>some (v,[],aj,nxt)|none=>gU false 1 p H nxt)=_ at h;split at h
   .rename_i v' ids' hl;exact zf (call:=call) ho ha hs hI (tv:=some (.c p)) hx (by show(match eH false 1 p H with|some (v,aj)=>some (v,[],aj,nxt)|none=>none)=_;rw[hl];exact h)
   .cases hx _ rfl with|c hp=>obtain⟨val,h1,h2⟩:=Aa ha hs hI hp hn0 h;refine⟨.value _,_,_,?_,.inl rfl,h2⟩;simp[execOp,ho,h1]
  |_=>simp[bD]at h
theorem bZ.pure{val:Value}(hI:Inv S K w0 Kn φ (ak H) w)(hr:(execOp ρ o).run P w=.ok (.value val) w)(h:dH S w Kn φ v val):bZ P o ρ S K w0 w Kn φ (ak H) nxt nxt v []:=⟨.value val,val,w,hr,.inl rfl,gI.pure hI h⟩
theorem FL{x:Operand}(ho:o.op=.move x\/o.op=.assign x)(hI:Inv S K w0 Kn φ (ak H) w){tv:Option TV}(hx:∀y,tv=some y->dH S w Kn φ y (ρ x))
  (h:bD call .mv [tv] H nxt=some (v,u,aj,n')):bZ P o ρ S K w0 w Kn φ (ak H) nxt n' v u:=by
 cases tv with
 |none=>simp[bD]at h
 |some y=>
  obtain⟨rfl,rfl,rfl,rfl⟩:y=v/\[]=u/\[]=aj/\nxt=n':=by simpa[bD]using h
  refine bZ.pure hI ?_ (hx _ rfl);rcases ho with ho|ho<;>simp[execOp,ho]
theorem EH{c x y:Operand}(ho:o.op=.pick c x y)(hI:Inv S K w0 Kn φ (ak H) w){tc tx ty:Option TV}(hc:∀z,tc=some z->dH S w Kn φ z (ρ c))
  (hx:∀z,tx=some z->dH S w Kn φ z (ρ x)) (hy:∀z,ty=some z->dH S w Kn φ z (ρ y))
  (h:bD call .pick [tc,tx,ty] H nxt=some (v,u,aj,n')):bZ P o ρ S K w0 w Kn φ (ak H) nxt n' v u:=by
 match tc,h,hc with
 |some (.c (.d (.lit (.bool b)))),h,hc=>
  change (match(if b then tx else ty)with|some v=>some (v,[],[],nxt)|none=>none)=_ at h;obtain⟨hb,_⟩:=(hc _ rfl).lit;cases b
  .simp only[aG,if_false]at h;cases ty with
   |none=>simp at h
   |some z=>
    obtain⟨rfl,rfl,rfl,rfl⟩:z=v/\[]=u/\[]=aj/\nxt=n':=by simpa using h
    exact bZ.pure hI (by simp[execOp,ho,hb,asBool]) (hy _ rfl)
  .simp only[if_true]at h;cases tx with
   |none=>simp at h
   |some z=>
    obtain⟨rfl,rfl,rfl,rfl⟩:z=v/\[]=u/\[]=aj/\nxt=n':=by simpa using h
    exact bZ.pure hI (by simp[execOp,ho,hb,asBool]) (hx _ rfl)
theorem vv{x:Operand}(ho:o.op=.nilCheck x)(hI:Inv S K w0 Kn φ (ak H) w){tv:Option TV}(hx:∀y,tv=some y->dH S w Kn φ y (ρ x))
  (h:bD call .nilCheck [tv] H nxt=some (v,u,aj,n')):bZ P o ρ S K w0 w Kn φ (ak H) nxt n' v u:=by
 match tv,h,hx with
 |some (.c c),h,hx=>
  have key:(∃a,ρ x=.pointer (some a))\/(∃g vs,ρ x=.func (.func g) #[] vs)->some (TV.c c,([]:de),([]:List Nat),nxt)=some (v,u,aj,n')->bZ P o ρ S K w0 w Kn φ (ak H) nxt n' v u:=by
   intro hc h;obtain⟨rfl,rfl,rfl,rfl⟩:TV.c c=v/\[]=u/\[]=aj/\nxt=n':=by simpa using h
   refine bZ.pure hI ?_ (hx _ rfl);rcases hc with⟨a,hc⟩|⟨g,vs,hc⟩<;>simp[execOp,ho,hc]
  have hr:=hx _ rfl;generalize hv0:ρ x=val at hr;cases hr with
  |c hr=>
   cases hr with
   |d hd=>cases hd with|lit hp=>simp[bD]at h|nan=>simp[bD]at h|ex=>simp[bD]at h|sl=>simp[bD]at h|mD=>simp[bD]at h|pt f hb=>exact key (.inl ⟨_,hv0⟩) h|fn hl hr=>exact key (.inr ⟨_,_,hv0⟩) h
   |da=>simp[bD]at h
   |ep hk=>exact key (.inl ⟨_,hv0⟩) h
   |op hk=>exact key (.inl ⟨_,hv0⟩) h
   |jy hl hr=>exact key (.inr ⟨_,_,hv0⟩) h
   |om hk=>simp[bD]at h
theorem CQ{k:FloatKind}{n m:Nat}(h:n %k.format.signWeight=m %k.format.signWeight)(hn:nH k n):nH k m:=by
 unfold nH fZ at*;rw[h]at hn;dsimp only at hn|-;split at hn
 .cases hn
 .rw [if_neg (by assumption)];split at hn
  .cases hn
  .rw [if_neg (by assumption)];split at hn
   .cases hn
   .rw [if_neg (by assumption)];rfl
theorem vG{k:FloatKind}{n:Nat}(h:nH k n):nH k (Op.negFloat k n):=by refine CQ ?_ h;unfold Op.negFloat ck.signWeight;rw[Nat.xor_mod_two_pow,Nat.mod_self,Nat.xor_zero]
theorem zU{op:UnOp}{a va v:Value}(ha:kK a va)(h:Gh op a=some v):∃v',Gh op va=some v'/\kK v v':=by
 cases ha with
 |lit _=>exact⟨v,h,.lit (y7 (P:=default) (w:=default) h).2⟩
 |ex=>cases h
 |nan hn hm=>unfold Gh at h|-;cases op with|neg=>obtain rfl:=aa h;exact⟨_,rfl,.nan (vG hn) (vG hm)⟩|_=>cases h
theorem Ij{t:TypeId}{op:UnOp}{x:Operand}(ho:o.op=.unOp op t x)(hI:Inv S K w0 Kn φ (ak H) w){tv:Option TV}(hx:∀y,tv=some y->dH S w Kn φ y (ρ x))
  (h:bD call (.un op) [tv] H nxt=some (v,u,aj,n')):bZ P o ρ S K w0 w Kn φ (ak H) nxt n' v u:=by
 match tv,h,hx with
 |some (.c (.d (.lit z))),h,hx=>
  change (match Gh op z with|some v=>some (lv v,[],[],nxt)|none=>none)=_ at h;split at h
  .rename_i r hr;obtain⟨rfl,rfl,rfl,rfl⟩:lv r=v/\[]=u/\[]=aj/\nxt=n':=by simpa using h
   obtain⟨r',h3,h4⟩:=zU (hx _ rfl).AA hr;obtain⟨h1,h2⟩:=y7 (P:=P) (w:=w) h3;exact bZ.pure hI (by simp[execOp,ho,h1]) (.xQ h4)
  .simp at h
theorem GG{t ty:TypeId}{op:BinOp}{x y:Operand}(ho:o.op=.binOp op t x y ty)(hI:Inv S K w0 Kn φ (ak H) w){tx tz:Option TV}(hx:∀z,tx=some z->dH S w Kn φ z (ρ x))
  (hy:∀z,tz=some z->dH S w Kn φ z (ρ y)) (h:bD call (.rB op) [tx,tz] H nxt=some (v,u,aj,n')):bZ P o ρ S K w0 w Kn φ (ak H) nxt n' v u:=by
 match tx,tz,h,hx,hy with
 |some (.c (.d (.lit a))),some (.c (.d (.lit b))),h,hx,hy=>
  change (match MB op a b with|some v=>some (lv v,[],[],nxt)|none=>none)=_ at h;split at h
  .rename_i r hr;obtain⟨rfl,rfl,rfl,rfl⟩:lv r=v/\[]=u/\[]=aj/\nxt=n':=by simpa using h
   have hr:=yJ (hx _ rfl).AA (hy _ rfl).AA hr;obtain⟨r',n,h1,hle,h4,h3⟩:=BV (P:=P) (w:=w) (t:=t) hr;exact⟨.value r',r',_,by simp[execOp,ho,h1,h3],.inl rfl,ai _,S,φ,WJ.mX _ _ _,kq _ _,.xQ h4,(hI.mX n hle).kn fun _ hi=>.inl hi⟩
  .simp at h
theorem qv{t:TypeId}(hu:P.underlying t=some .bool)(a b:Bool):(Op.equal t (.bool a) (.bool b)).run P w=.ok (a==b) w:=by show(Op.equalIn (9999+1) t (.bool a) (.bool b)).run P w=_;unfold Op.equalIn;rw[Sem.run_bind,bo hu];rfl
theorem Au{t ty:TypeId}{op:BinOp}{x y:Operand}(ho:o.op=.binOp op t x y ty)(hop:op=.eql\/op=.neq)(hu:P.underlying t=some .bool)(hI:Inv S K w0 Kn φ (ak H) w)
  {tx tz:Option TV} (hx:∀z,tx=some z->dH S w Kn φ z (ρ x)) (hy:∀z,tz=some z->dH S w Kn φ z (ρ y))
  (h:bD call (.nA (op==.neq)) [tx,tz] H nxt=some (v,u,aj,n')):bZ P o ρ S K w0 w Kn φ (ak H) nxt n' v u:=by
 match tx,tz,h,hx,hy with
 |some (.c (.d (.lit (.bool a)))),some (.c (.d (.lit (.bool b)))),h,hx,hy=>
  obtain⟨ha,_⟩:=(hx _ rfl).lit;obtain⟨hb,_⟩:=(hy _ rfl).lit;change some (lv (.bool (if(op==.neq)then !(a==b)else a==b)),([]:de),([]:List Nat),nxt)=_ at h;obtain⟨rfl,rfl,rfl,rfl⟩:lv (.bool (if(op==.neq)then !(a==b)else a==b))=v/\[]=u/\[]=aj/\nxt=n':=by simpa using h
  refine bZ.pure hI ?_ (.kI rfl);rcases hop with rfl|rfl
  .simp [execOp,ho,ha,hb,eqGuard,binOp,qv hu]
  .simp [execOp,ho,ha,hb,eqGuard,binOp,qv hu]
theorem xO{s d:TypeId}{k k':IntKind}{x:Operand}(ho:o.op=.convert s d x)(hs:P.underlying s=some (.int k'))(hd:P.underlying d=some (.int k))(hI:Inv S K w0 Kn φ (ak H) w)
  {tv:Option TV} (hx:∀y,tv=some y->dH S w Kn φ y (ρ x)) (h:bD call (.oe k) [tv] H nxt=some (v,u,aj,n')):bZ P o ρ S K w0 w Kn φ (ak H) nxt n' v u:=by
 match tv,h,hx with
 |some (.c (.d (.lit (.int k0 n)))),h,hx=>
  obtain⟨ha,_⟩:=(hx _ rfl).lit;obtain⟨rfl,rfl,rfl,rfl⟩:lv (.int k (k.wrap n))=v/\[]=u/\[]=aj/\nxt=n':=by simpa[bD]using h
  exact bZ.pure hI (by simp[execOp,ho,ha,convert,bo hs,bo hd,Conv.intToInt]) (.kI rfl)
theorem Cf{s d:TypeId}{k':IntKind}{k:FloatKind}{x:Operand}(ho:o.op=.convert s d x)(hs:P.underlying s=some (.int k'))(hd:P.underlying d=some (.float k))(hI:Inv S K w0 Kn φ (ak H) w)
  {tv:Option TV} (hx:∀y,tv=some y->dH S w Kn φ y (ρ x)) (h:bD call (.wn k) [tv] H nxt=some (v,u,aj,n')):bZ P o ρ S K w0 w Kn φ (ak H) nxt n' v u:=by
 match tv,h,hx with
 |some (.c (.d (.lit (.int k0 n)))),h,hx=>
  obtain⟨ha,_⟩:=(hx _ rfl).lit;obtain⟨rfl,rfl,rfl,rfl⟩:lv (.float k (k.nearest n))=v/\[]=u/\[]=aj/\nxt=n':=by simpa[bD]using h
  exact bZ.pure hI (by simp[execOp,ho,ha,convert,bo hs,bo hd,Conv.intToFloat]) (.kI rfl)
theorem vB{s d:TypeId}{x:Operand}(ho:o.op=.convert s d x)(hs:P.underlying s=some .string)(hd:P.underlying d=some .string)(hI:Inv S K w0 Kn φ (ak H) w)
  {tv:Option TV} (hx:∀y,tv=some y->dH S w Kn φ y (ρ x)) (h:bD call .mn [tv] H nxt=some (v,u,aj,n')):bZ P o ρ S K w0 w Kn φ (ak H) nxt n' v u:=by
 match tv,h,hx with
 |some (.c (.d (.lit (.string s0)))),h,hx=>
  obtain⟨ha,_⟩:=(hx _ rfl).lit;obtain⟨rfl,rfl,rfl,rfl⟩:lv (.string s0)=v/\[]=u/\[]=aj/\nxt=n':=by simpa[bD]using h
  exact bZ.pure hI (by simp[execOp,ho,ha,convert,bo hs,bo hd]) (.kI rfl)
theorem xN{x:Operand}{i:Nat}(ho:o.op=.extract x i)(hI:Inv S K w0 Kn φ (ak H) w){tv:Option TV}(hx:∀y,tv=some y->dH S w Kn φ y (ρ x))
  (h:bD call (.extract i) [tv] H nxt=some (v,u,aj,n')):bZ P o ρ S K w0 w Kn φ (ak H) nxt n' v u:=by
 match tv,h,hx with
 |some (.fm xs),h,hx=>
  change (match xs[i]?with|some v=>some (v,[],[],nxt)|none=>none)=_ at h;split at h
  .rename_i y hy;obtain⟨rfl,rfl,rfl,rfl⟩:y=v/\[]=u/\[]=aj/\nxt=n':=by simpa using h
   have hr:=hx _ rfl;generalize hv0:ρ x=val at hr;cases hr with
   |@fm _ aB hlen hr=>
    have hlt:i<aB.size:=by rw[<-hlen];exact(af.1 hy).1
    refine bZ.pure (val:=aB.getD i undef) hI ?_ (hr i y hy);simp[execOp,ho,hv0,Instr.extract,hlt]
  .simp at h
theorem tP{s:TypeId}{f n:Nat}{fields:Array Field}{fl:Field}{x:Operand}(ho:o.op=.fieldAddr s x f)(hu:P.underlying s=some (.struct fields))(hf:fields[f]?=some fl)
  (hs:dm P fl.type=some (n+1)) (hI:Inv S K w0 Kn φ (ak H) w) {tv:Option TV} (hx:∀y,tv=some y->dH S w Kn φ y (ρ x))
  (h:bD call (.fieldAddr fl.offset (n+1)) [tv] H nxt=some (v,u,aj,n')):bZ P o ρ S K w0 w Kn φ (ak H) nxt n' v u:=by
 match tv,h,hx with
 |some (.c c),h,hx=>
  change (match Xr fl.offset (n+1) c with|some y=>some (TV.c y,[],[],nxt)|none=>none)=_ at h;split at h
  .rename_i y hy;obtain⟨rfl,rfl,rfl,rfl⟩:TV.c y=v/\[]=u/\[]=aj/\nxt=n':=by simpa using h
   have run:∀b off,ρ x=.pointer (some ⟨b,off,none⟩)->(execOp ρ o).run P w=.ok (.value (.pointer (some ⟨b,off+fl.offset,none⟩))) w:=by intro b off hv;simp[execOp,ho,hv,Instr.fieldAt,bo hu,hf,Instr.sureAddr,fieldPlace,eF hs,kc]
   have hr:=hx _ rfl;generalize hv0:ρ x=val at hr;cases hr with
   |c hr=>
    cases hr with
    |d hd=>
     cases hd with
     |@pt cells b off g hb hcell hrd=>
      simp only[Xr]at hy;split at hy
      .obtain rfl:=aa hy;refine bZ.pure hI (run _ _ hv0) (.c (.d (.qA hb fun j z hj=>?_)));rw[cN]at hj;split at hj
       .rw [bi]at hj;exact⟨_,by rw[bK];exact hcell _ _ hj,hrd _ _ hj⟩
       .simp at hj
      .simp at hy
     |_=>simp[Xr]at hy
    |@op id off hk=>
     obtain rfl:C.op id (off+fl.offset)=y:=by simpa[Xr]using hy
     refine bZ.pure hI (run _ _ hv0) (.c ?_);rw[bK];exact .op hk
    |@ep id cU off hk=>
     obtain rfl:C.ep id cU (off+fl.offset)=y:=by simpa[Xr]using hy
     refine bZ.pure hI (run _ _ hv0) (.c ?_);rw[bK];exact .ep hk
    |_=>simp[Xr]at hy
  .simp at h
theorem Cb{str:Bool}{t:TypeId}{x:Operand}{c:Go.Call}(ho:o.op=.call c)(hcal:c.callee=.builtin .len)(hargs:c.args= #[x])(hts:c.argTypes= #[t])
  (hu:if str then P.underlying t=some .string else∃b,P.underlying t=some (.slice b)) (hI:Inv S K w0 Kn φ (ak H) w) {tv:Option TV} (hx:∀y,tv=some y->dH S w Kn φ y (ρ x))
  (h:bD call (.len str) [tv] H nxt=some (v,u,aj,n')):bZ P o ρ S K w0 w Kn φ (ak H) nxt n' v u:=by
 match tv,h,hx with
 |some (.c y),h,hx=>
  change (match m_ str y with|some n=>some (lv (.int .i64 n),[],[],nxt)|none=>none)=_ at h;split at h
  .rename_i n hn;obtain⟨rfl,rfl,rfl,rfl⟩:lv (.int .i64 n)=v/\[]=u/\[]=aj/\nxt=n':=by simpa using h
   refine bZ.pure hI ?_ (.kI rfl);have hr:=hx _ rfl;generalize hv0:ρ x=val at hr;cases str with
   |true=>
    simp only[if_true]at hu
    match y,hn,hr with
    |.d (.lit (.string s)),hn,hr=>
     obtain⟨rfl,_⟩:=hr.lit;obtain rfl:(s.size:Int)=n:=by simpa[m_]using hn
     simp[execOp,ho,hcal,hargs,hts,resolve,invoke,builtin,hv0,Builtin.len_,bo hu,goInt]
   |false=>
    simp only[aG,if_false]at hu;obtain⟨b,hu⟩:=hu;have hsl:∀a l k,val=.slice a l k->n=(l:Int)->(execOp ρ o).run P w=.ok (.value (.int .i64 n)) w:=by intro a l k e1 e2;simp[execOp,ho,hcal,hargs,hts,resolve,invoke,builtin,hv0,e1,e2,Builtin.len_,bo hu,goInt]
    match y,hn,hr with
    |.d (.lit (.slice none 0 0)),hn,hr=>obtain⟨rfl,_⟩:=hr.lit;exact hsl _ _ _ rfl (by simpa[m_]using hn.symm)
    |.d (.sl sz rows),hn,hr=>
     cases hr with
     |c hr=>cases hr with
      |d hd=>cases hd with|sl=>exact hsl _ _ _ rfl (by simpa[m_]using hn.symm)|mD=>exact hsl _ _ _ rfl (by simpa[m_]using hn.symm)
    |.da sz id off len,hn,hr=>
     cases hr with
     |c hr=>cases hr with|da=>exact hsl _ _ _ rfl (by simpa[m_]using hn.symm)
  .simp at h
theorem lw{op:BinOp}(hop:op=.eql\/op=.neq){t:TypeId}{x y:Value}{b:Bool}(a c:Operand)
  (h1:binOp .eql t x y=(do pure (.bool (<-Op.equal t x y)))) (h2:binOp .neq t x y=(do pure (.bool (!(<-Op.equal t x y)))))
  (hg:(eqGuard op t a c x y).run P w=.ok () w) (he:(Op.equal t x y).run P w=.ok b w):
  ((do eqGuard op t a c x y;binOp op t x y):Sem Value).run P w=.ok (.bool (if op==.neq then !b else b)) w:=by
 rcases hop with rfl|rfl
 .rw [Sem.run_bind,hg,Result.andThen_ok,h1,Sem.run_bind,he];rfl
 .rw [Sem.run_bind,hg,Result.andThen_ok,h2,Sem.run_bind,he];rfl
theorem k7{op:BinOp}{t:TypeId}(a c:Operand){x y:Value}(h:match x,y with|.nilIface,.nilIface=>False|.agg _,.agg _=>False|_,_=>True):
  (eqGuard op t a c x y).run P w=.ok () w:=by
 unfold eqGuard;cases op<;>simp<;>(cases x<;>cases y<;>simp_all)
theorem k_(t:TypeId)(x y:Value):Op.equal t x y=Op.equalIn (9999+1) t x y:=rfl
def Cl(P:Program)(t:TypeId):Nat->Prop
 |0=>∃x,P.underlying t=some (.slice x)
 |1=>∃x,P.underlying t=some (.pointer x)
 |2=>∃a b c,P.underlying t=some (.func a b c)
 |_=>False
theorem Ab{op:BinOp}(hop:op=.eql\/op=.neq){kind:Nat}{t:TypeId}{y:C}{val:Value}{b:Bool}(a c:Operand)(hu:Cl P t kind)
  (hr:dH S w Kn φ (.c y) val) (hn:kz kind y=some b):
  ((do eqGuard op t a c val (jg kind);binOp op t val (jg kind)):Sem Value).run P w=.ok (.bool (if op==.neq then !b else b)) w/\
  ((do eqGuard op t a c (jg kind) val;binOp op t (jg kind) val):Sem Value).run P w=.ok (.bool (if op==.neq then !b else b)) w:=by
 have hsl:(∃x,P.underlying t=some (.slice x))->∀q l k,kind=0->val=.slice q l k->b=q.isNone->
   ((do eqGuard op t a c val (jg kind);binOp op t val (jg kind)):Sem Value).run P w=.ok (.bool (if op==.neq then !b else b)) w/\
   ((do eqGuard op t a c (jg kind) val;binOp op t (jg kind) val):Sem Value).run P w=.ok (.bool (if op==.neq then !b else b)) w:=by
  rintro⟨x,hu'⟩ q l k rfl rfl rfl;refine⟨lw hop a c rfl rfl (k7 a c trivial) ?_,lw hop a c rfl rfl (k7 a c trivial) ?_⟩
  all_goals
   rw[k_];unfold Op.equalIn;rw[Sem.run_bind,bo hu'];cases q<;>rfl
 have hpt:(∃x,P.underlying t=some (.pointer x))->∀q,kind=1->val=.pointer q->b=q.isNone->
   ((do eqGuard op t a c val (jg kind);binOp op t val (jg kind)):Sem Value).run P w=.ok (.bool (if op==.neq then !b else b)) w/\
   ((do eqGuard op t a c (jg kind) val;binOp op t (jg kind) val):Sem Value).run P w=.ok (.bool (if op==.neq then !b else b)) w:=by
  rintro⟨x,hu'⟩ q rfl rfl rfl;refine⟨lw hop a c ?_ ?_ (k7 a c trivial) ?_,lw hop a c ?_ ?_ (k7 a c trivial) ?_⟩
  .cases q<;>rfl
  .cases q<;>rfl
  .rw [k_];unfold Op.equalIn;rw[Sem.run_bind,bo hu'];cases q<;>rfl
  .cases q<;>rfl
  .cases q<;>rfl
  .rw [k_];unfold Op.equalIn;rw[Sem.run_bind,bo hu'];cases q<;>rfl
 have hfn:(∃x y z,P.underlying t=some (.func x y z))->kind=2->((val=.nilFunc/\b=true)\/((∃f p q,val=.func f p q)/\b=false))->
   ((do eqGuard op t a c val (jg kind);binOp op t val (jg kind)):Sem Value).run P w=.ok (.bool (if op==.neq then !b else b)) w/\
   ((do eqGuard op t a c (jg kind) val;binOp op t (jg kind) val):Sem Value).run P w=.ok (.bool (if op==.neq then !b else b)) w:=by
  rintro⟨x,y,z,hu'⟩ rfl (⟨rfl,rfl⟩|⟨⟨f,p,q,rfl⟩,rfl⟩)
  all_goals
   refine⟨lw hop a c rfl rfl (k7 a c trivial) ?_,lw hop a c rfl rfl (k7 a c trivial) ?_⟩
   all_goals
    rw[k_];unfold Op.equalIn;rw[Sem.run_bind,bo hu'];rfl
 cases hr with
 |c hr=>
  match kind,y,hn,hr,hu with
  |0,.d (.lit (.slice none 0 0)),hn,hr,hu=>cases hr with|d hd=>cases hd with|lit hp=>exact hsl hu _ _ _ rfl rfl (by simpa[kz]using hn.symm)
  |0,.d (.sl _ _),hn,hr,hu=>cases hr with|d hd=>cases hd with|sl=>exact hsl hu _ _ _ rfl rfl (by simpa[kz]using hn.symm)|mD=>exact hsl hu _ _ _ rfl rfl (by simpa[kz]using hn.symm)
  |0,.da _ _ _ _,hn,hr,hu=>cases hr with|da=>exact hsl hu _ _ _ rfl rfl (by simpa[kz]using hn.symm)
  |1,.d (.lit (.pointer none)),hn,hr,hu=>cases hr with|d hd=>cases hd with|lit hp=>exact hpt hu _ rfl rfl (by simpa[kz]using hn.symm)
  |1,.d (.pt _),hn,hr,hu=>cases hr with|d hd=>cases hd with|pt=>exact hpt hu _ rfl rfl (by simpa[kz]using hn.symm)
  |1,.ep _ _ _,hn,hr,hu=>cases hr with|ep=>exact hpt hu _ rfl rfl (by simpa[kz]using hn.symm)
  |1,.op _ _,hn,hr,hu=>cases hr with|op=>exact hpt hu _ rfl rfl (by simpa[kz]using hn.symm)
  |2,.d (.lit .nilFunc),hn,hr,hu=>cases hr with|d hd=>cases hd with|lit hp=>exact hfn hu rfl (.inl ⟨rfl,by simpa[kz]using hn.symm⟩)
  |2,.d (.fn _ _),hn,hr,hu=>cases hr with|d hd=>cases hd with|fn=>exact hfn hu rfl (.inr ⟨⟨_,_,_,rfl⟩,by simpa[kz]using hn.symm⟩)
  |2,.jy _ _,hn,hr,hu=>cases hr with|jy=>exact hfn hu rfl (.inr ⟨⟨_,_,_,rfl⟩,by simpa[kz]using hn.symm⟩)
theorem px{kind:Nat}{x:Operand}(h:oZ kind x=true):x=.const (jg kind):=by unfold oZ at h;split at h<;>first|rfl|simp at h
theorem vz{t ty:TypeId}{op:BinOp}{x y z:Operand}{kind:Nat}(ho:o.op=.binOp op t x y ty)(hop:op=.eql\/op=.neq)(hu:Cl P t kind)(hI:Inv S K w0 Kn φ (ak H) w)
  (hc:∀v,ρ (.const v)=v) (hz:(z=x/\oZ kind y=true)\/(z=y/\oZ kind x=true)) {tv:Option TV} (hx:∀y,tv=some y->dH S w Kn φ y (ρ z))
  (h:bD call (.lc kind (op==.neq)) [tv] H nxt=some (v,u,aj,n')):bZ P o ρ S K w0 w Kn φ (ak H) nxt n' v u:=by
 match tv,h,hx with
 |some (.c c),h,hx=>
  change (match kz kind c with|some b=>some (lv (.bool (if(op==BinOp.neq)then !b else b)),([]:de),([]:List Nat),nxt)|none=>none)=_ at h;split at h
  .rename_i b hb;obtain⟨rfl,rfl,rfl,rfl⟩:lv (.bool (if(op==BinOp.neq)then !b else b))=v/\[]=u/\[]=aj/\nxt=n':=by simpa using h
   refine bZ.pure hI ?_ (.kI rfl);obtain⟨h1,h2⟩:=Ab (P:=P) hop x y hu (hx _ rfl) hb;rcases hz with⟨rfl,hn⟩|⟨rfl,hn⟩
   .have e:=px hn;simp only[execOp,ho,Sem.run_bind];rw[Sem.run_bind]at h1;rw[e]at h1|-;rw[hc,h1];rfl
   .have e:=px hn;simp only[execOp,ho,Sem.run_bind];rw[Sem.run_bind]at h2;rw[e]at h2|-;rw[hc,h2];rfl
  .simp at h
end
section
variable{P:Program}{S K:Nat->Prop}{w0 w:World}{Kn:Nat->Prop}{φ:Nat->d_}{H:aY}{e:fN}{ρ:Operand->Value}{o:Oper}{call:Call}
 {nxt n':Nat} {v:TV} {u:de} {aj:List Nat}
theorem pD{α:Type}:∀{l:List (Option α)}{xs:List α},cD l=some xs->l=xs.map some:=by
 intro l;induction l with
 |nil=>
  intro xs h;obtain rfl:[]=xs:=by simpa[cD]using h
  rfl
 |cons a l ih=>
  intro xs h;cases a with
  |none=>simp[cD]at h
  |some x=>
   simp only[cD]at h;split at h
   .rename_i ys hy;obtain rfl:=aa h;simp[ih hy]
   .simp at h
theorem ol{args:List Operand}{xs:List TV}(hρ:∀x tv,L9 e x=some tv->dH S w Kn φ tv (ρ x))(h:cD (args.map (L9 e))=some xs):
  xs.length=args.length/\∀(i:Nat)(x:Operand)(tv:TV),args[i]?=some x->xs[i]?=some tv->dH S w Kn φ tv (ρ x):=by
 have h1:=pD h;have hl:xs.length=args.length:=by have:=congrArg List.length h1;simpa using this.symm
 refine⟨hl,fun i x tv hx htv=>hρ x tv ?_⟩;have h2:=congrArg (fun l=>l[i]?) h1;simp only[aC,hx,htv,bB]at h2;exact aa h2
theorem EI{f:FuncId}{first captured:Array Operand}(ho:o.op=.makeFunc (.func f) first captured)(hf:first.isEmpty=true)(hI:Inv S K w0 Kn φ (ak H) w)
  (hρ:∀x tv,L9 e x=some tv->dH S w Kn φ tv (ρ x)) (h:bD call (.AG f) (captured.toList.map (L9 e)) H nxt=some (v,u,aj,n')):bZ P o ρ S K w0 w Kn φ (ak H) nxt n' v u:=by
 change (match cD (captured.toList.map (L9 e))with
  |some xs=>(match cD (xs.map fun(x:TV)=>match x with|.c c=>some c|_=>none)with|some cs=>some (TV.c (.jy f cs),([]:de),([]:List Nat),nxt)|none=>none)
  |none=>none)=_ at h
 split at h
 .rename_i xs hxs;split at h
  .rename_i cs hcs;obtain⟨rfl,rfl,rfl,rfl⟩:TV.c (.jy f cs)=v/\[]=u/\[]=aj/\nxt=n':=by simpa using h
   obtain⟨hl,hr⟩:=ol hρ hxs;have h2:=pD hcs;have hl2:cs.length=xs.length:=by have:=congrArg List.length h2;simpa using this.symm
   have hf':first= #[]:=by simpa using hf
   refine bZ.pure (val:=.func (.func f) #[] (captured.map ρ)) hI (by simp[execOp,ho,Instr.makeFunc,hf']) (.c (.jy (by simp[hl2,hl]) fun j c hj=>?_));have hj':j<xs.length:=by rw[<-hl2];exact(af.1 hj).1
   have h3:=congrArg (fun l=>l[j]?) h2;simp only[aC,hj,bB,ap hj']at h3;have h4:=aa h3;have hcap:j<captured.size:=by rw[hl]at hj';simpa using hj'
   have hx:=hr j captured[j] xs[j] (by simp[hcap]) (ap hj');have e1:(captured.map ρ).getD j undef=ρ captured[j]:=by simp[hcap]
   rw[e1];cases hy:xs[j]with
   |c y=>
    rw[hy]at h4 hx;obtain rfl:y=c:=by simpa using h4
    cases hx with|c hx=>exact hx
   |_=>rw[hy]at h4;simp at h4
  .simp at h
 .simp at h
theorem YL{n:Int}(h0:0<=n)(h1:n<=2147483648):IntKind.i64.wrap n=n:=by unfold IntKind.wrap IntKind.bits IntKind.signed;simp only[Bool.true_and,decide_eq_true_eq];have:n %(2^64:Int)=n:=Int.emod_eq_of_lt h0 (by omega);rw[this];split<;>omega
theorem oP{v:Value}{k:IntKind}{n:Int}(h:v=.int k n):(asInt v).run P w=.ok n w:=by subst h;simp[asInt,asIntOf]
theorem jb{v:Value}{k:IntKind}{n:Int}(h:v=.int k n):(asIntOf v).run P w=.ok (k,n) w:=by subst h;simp[asIntOf]
theorem fD{tv:Option TV}{val:Value}{n:Int}(h:bC tv=some n)(hr:∀y,tv=some y->dH S w Kn φ y val):∃k,val=.int k n:=by
 unfold bC at h;split at h
 .obtain rfl:=aa h;obtain⟨hv,_⟩:=(hr _ rfl).lit;exact⟨_,hv⟩
 .simp at h
theorem fT{v:Value}{k:IntKind}{n:Int}{y:Nat}{code:BoundsCode}(h:v=.int k n)(h0:0<=n)(h1:n<=y):(Instr.sliceBound v y code).run P w=.ok n.toNat w:=by simp only[Instr.sliceBound,Sem.run_bind,jb h,Result.andThen_ok,h0,h1,and_self,if_true,Sem.run_pure]
theorem lx{vV:Bool}{len cap:Nat}{lo hi:Option Value}{l h:Option Int}(hlo':lo.isSome=l.isSome)(hl1:∀x,lo=some x->∃k n,x=.int k n/\l=some n)
  (hhi':hi.isSome=h.isSome) (hhi:∀x,hi=some x->∃k n,x=.int k n/\h=some n)
  (h0:0<=l.getD 0) (h1:l.getD 0<=h.getD len) (h2:h.getD len<=cap):
  (Instr.sliceBounds vV len cap lo hi none).run P w=.ok ((l.getD 0).toNat,(h.getD len).toNat,cap) w:=by
 unfold Instr.sliceBounds;cases hi with
 |none=>
  cases h with
  |some _=>simp at hhi'
  |none=>
   cases lo with
   |none=>cases l with|some _=>simp at hlo'|none=>simp
   |some x=>obtain⟨k,n,rfl,rfl⟩:=hl1 x rfl;simp only[di,Option.getD_none]at h0 h1;have:=fT (P:=P) (w:=w) (v:=.int k n) (y:=len) (code:=.sliceB) rfl h0 h1;simp[this]
 |some y=>
  obtain⟨k,n,rfl,rfl⟩:=hhi y rfl;simp only[di]at h1 h2;have hb:=fT (P:=P) (w:=w) (v:=.int k n) (y:=cap) (code:=if vV then .sliceAcap else .sliceAlen) rfl (by omega) h2;cases lo with
  |none=>cases l with|some _=>simp at hlo'|none=>simp[hb]
  |some x=>obtain⟨k',n',rfl,rfl⟩:=hl1 x rfl;simp only[di]at h0 h1;have:=fT (P:=P) (w:=w) (v:=.int k' n') (y:=n.toNat) (code:=.sliceB) rfl h0 (by omega);simp[hb,this]
theorem u4{str:Bool}{sz:Nat}{t:TypeId}{x y:C}{val:Value}{lo hi:Option Value}{l h:Option Int}
  (hu:if str then P.underlying t=some .string else∃el,P.underlying t=some (.slice el)/\dm P el=some sz) (hr:RC S w Kn φ x val)
  (hlo':lo.isSome=l.isSome) (hl1:∀x,lo=some x->∃k n,x=.int k n/\l=some n) (hhi':hi.isSome=h.isSome) (hhi:∀x,hi=some x->∃k n,x=.int k n/\h=some n)
  (hs:dq str sz x l h=some y):∃val',(Instr.sliceAt t val lo hi none).run P w=.ok val' w/\RC S w Kn φ y val':=by
 unfold dq at hs;cases str with
 |true=>
  simp only[if_true]at hs hu;split at hs
  .rename_i s;split at hs
   .rename_i hb;obtain⟨hb1,hb2,hb3⟩:=hb;obtain rfl:=aa hs;cases hr with
    |d hd=>cases hd with|lit hp=>have:=lx (P:=P) (w:=w) (vV:=false) (len:=s.size) (cap:=s.size) hlo' hl1 hhi' hhi hb1 hb2 hb3;exact⟨.string (s.extract (l.getD 0).toNat (h.getD s.size).toNat),by simp[Instr.sliceAt,Instr.slice,bo hu,this],.d (.lit rfl)⟩
   .simp at hs
  .simp at hs
 |false=>
  simp only[aG,if_false]at hs hu;obtain⟨el,hu,hsz⟩:=hu
  have run:∀(a:Addr)(len cap:Nat),val=.slice (some a) len cap->0<=l.getD 0->l.getD 0<=h.getD len->h.getD len<=cap->(cap≠(l.getD 0).toNat->a.spot=none)->
    (Instr.sliceAt t val lo hi none).run P w=.ok (.slice (some (if cap=(l.getD 0).toNat then a else⟨a.block,a.off+(l.getD 0).toNat*sz,none⟩))
     ((h.getD len).toNat-(l.getD 0).toNat) (cap-(l.getD 0).toNat)) w:=by
   intro a len cap hv h0 h1 h2 hsp;have hb:=lx (P:=P) (w:=w) (vV:=true) (len:=len) (cap:=cap) hlo' hl1 hhi' hhi h0 h1 h2;simp only[Instr.sliceAt,Instr.slice,Sem.run_bind,bo hu,Result.andThen_ok,hv,hb,eF hsz,Sem.run_pure];congr 2;split
   .rfl
   .rename_i hne;obtain⟨b,off,spot⟩:=a;obtain rfl:spot=none:=hsp hne;simp[kc]
  split at hs
  .split at hs
   .rename_i hb;obtain⟨hb1,hb2,hb3⟩:=hb;obtain rfl:=aa hs;cases hr with
    |d hd=>cases hd with
     |lit hp=>
      have e1:l.getD 0=0:=by omega
      have e2:h.getD 0=0:=by omega
      have hb:=lx (P:=P) (w:=w) (vV:=true) (len:=0) (cap:=0) hlo' hl1 hhi' hhi hb1 (by simpa using hb2) (by simpa using hb3);refine⟨.slice none 0 0,?_,.d (.lit rfl)⟩;have e3:h.getD (((0:Nat):Int))=0:=e2;rw[e1,e3]at hb;simp only[Instr.sliceAt,Instr.slice,Sem.run_bind,bo hu,Result.andThen_ok,hb,eF hsz,Sem.run_pure];rfl
   .simp at hs
  .rename_i sz' id off len;split at hs
   .rename_i hb;obtain⟨hb0,hb1,hb2,hb3⟩:=hb;obtain rfl:=aa hs;cases hr with
    |@da _ _ _ cap addr hk hcap haddr hext hcl=>
     subst hb0;refine⟨_,run _ len cap rfl hb1 hb2 (by omega) (fun _=>rfl),?_⟩;have hle:(l.getD 0).toNat<=cap:=by omega
     by_cases e:cap=(l.getD 0).toNat
     .rw [if_pos e];exact .da hk (by omega) (fun h=>by omega) (by rw[<-e,Nat.sub_self];omega) (by omega)
     .rw [if_neg e];have ha:=haddr (by omega);refine .da hk (by omega) (fun _=>?_) ?_ (by omega)
      .show addr+_=_;rw[ha,bf];omega
      .have:(l.getD 0).toNat*(φ id).sz+(cap-(l.getD 0).toNat)*(φ id).sz=cap*(φ id).sz:=by rw[<-bf];congr 1;omega
       show addr+_+_<=_;omega
   .simp at hs
  .rename_i sz' rows;split at hs
   .rename_i hb;obtain⟨hb0,hb1,hb2,hb3⟩:=hb;obtain rfl:=aa hs;cases hr with
    |d hd=>
     cases hd with
     |@sl _ _ b off cap g hb hsz0 hcap hrow hcell hrd=>
      subst hb0;refine⟨_,run _ rows.length cap rfl hb1 hb2 (by omega) (fun _=>rfl),?_⟩;have hR:bG S w sz' (fun i=>w.cell? ⟨b,i,none⟩) off rows:=⟨hrow,fun i r hi j x hj=>⟨_,hcell i r hi j x hj,hrd i r hi j x hj⟩⟩
      have hlen:((rows.drop (l.getD 0).toNat).take ((h.getD rows.length).toNat-(l.getD 0).toNat)).length=(h.getD rows.length).toNat-(l.getD 0).toNat:=by simp;omega
      by_cases e:cap=(l.getD 0).toNat
      .rw [if_pos e];exact .d (.Zl hb hsz0 hlen (by omega) (hR.pH _ _ fun h=>by omega))
      .rw [if_neg e];exact .d (.Zl hb hsz0 hlen (by omega) (hR.pH _ _ fun _=>rfl))
     |@mD _ a hsz0=>
      subst hb0;simp only[gy]at hb1 hb2 hb3;have e1:l.getD 0=0:=by have h2:l.getD 0<=h.getD 0:=hb2;have h3:h.getD 0<=0:=hb3;omega
      refine⟨_,run _ 0 0 rfl hb1 hb2 (by simpa using hb3) (fun hne=>absurd (by rw[e1];rfl) hne),?_⟩;rw[if_pos (by rw[e1];rfl)];have e2:(([]:List (List D)).drop (l.getD 0).toNat).take ((h.getD ([]:List (List D)).length).toNat-(l.getD 0).toNat)=[]:=by simp
      rw[e2];have e3:(h.getD ((0:Nat):Int)).toNat-(l.getD 0).toNat=0:=by have h3:h.getD 0<=0:=hb3;have h4:h.getD ((0:Nat):Int)=h.getD 0:=rfl;rw[h4];omega
      have e4:(0:Nat)-(l.getD 0).toNat=0:=by omega
      first
       |(rw[e3,e4];exact .d (.mD hsz0))
       |(simp[e1]at hb3|-;exact .d (.mD hsz0))
   .simp at hs
  .simp at hs
theorem qt{str:Bool}{sz:Nat}{t:TypeId}{x y:C}{val:Value}{lo:Option Value}{hi:Value}{k2:IntKind}{l:Option Int}{h:Int}{aj:List Nat}(hI:Inv S K w0 Kn φ (ak H) w)
  (hu:if str then P.underlying t=some .string else∃el,P.underlying t=some (.slice el)/\dm P el=some sz) (hr:RC S w Kn φ x val)
  (hlo':lo.isSome=l.isSome) (hl1:∀x,lo=some x->∃k n,x=.int k n/\l=some n) (hhi:hi=.int k2 h) (hs:Mz str sz x (l.getD 0) h H=some (y,aj)):∃val',(Instr.sliceAt t val lo (some hi) none).run P w=.ok val' w/\RC S w Kn φ y val':=by
 unfold Mz at hs;split at hs
 case h_2=>simp at hs
 rename_i sz' id off len;simp only[aG,if_false]at hu;obtain⟨el,hu,hsz⟩:=hu
 have key:sz'=sz/\0<=l.getD 0/\l.getD 0<=h/\off+h.toNat<=(φ id).cap/\y=.da sz id (off+(l.getD 0).toNat) (h.toNat-(l.getD 0).toNat):=by
  split at hs
  .rename_i szo rows hob;split at hs
   case isFalse=>simp at hs
   rename_i hb;obtain⟨hb0,hb1,hb2,hb3⟩:=hb;obtain⟨rfl,_⟩:=ad (aa hs);obtain⟨_,h0⟩:=hI.fh _ _ hob;have hvis:rows.length<=(φ id).cap:=by cases h0 with|aB hsz0 hl hS hK hown hext hfit hrr hvis=>exact hvis
   exact⟨hb0,hb1,hb2,by omega,rfl⟩
  .rename_i szo rows cp hob;split at hs
   case isFalse=>simp at hs
   rename_i hb;obtain⟨hb0,hb1,hb2,hb3⟩:=hb;obtain⟨rfl,_⟩:=ad (aa hs);obtain⟨_,h0⟩:=hI.fh _ _ hob;have hvis:(φ id).cap=cp:=by cases h0 with|cap hsz0 hl hS hK hown hext hfit hrr hvis hc=>exact hc
   exact⟨hb0,hb1,hb2,by omega,rfl⟩
  .simp at hs
 obtain⟨hb0,hb1,hb2,hvis,rfl⟩:=key;cases hr with
 |@da _ _ _ cap addr hk hcap haddr hext hcl=>
  subst hb0;have hc:h<=cap:=by omega
  have hbd:=lx (P:=P) (w:=w) (vV:=true) (len:=len) (cap:=cap) (lo:=lo) (hi:=some hi) (l:=l) (h:=some h) hlo' hl1 rfl (fun x hx=>⟨k2,h,by rw[<-aa hx,hhi],rfl⟩) hb1 hb2 hc;simp only[di]at hbd;generalize l.getD 0=l at*;refine⟨.slice (some (if cap=l.toNat then⟨(φ id).bH,addr,none⟩else⟨(φ id).bH,addr+l.toNat*(φ id).sz,none⟩)) (h.toNat-l.toNat) (cap-l.toNat),?_,?_⟩
  .simp only[Instr.sliceAt,Instr.slice,Sem.run_bind,bo hu,Result.andThen_ok,hbd,eF hsz,Sem.run_pure];congr 2;split
   .rfl
   .simp [kc]
  .have hle:l.toNat<=cap:=by omega
   by_cases e:cap=l.toNat
   .rw [if_pos e];exact .da hk (by omega) (fun h=>by omega) (by rw[<-e,Nat.sub_self];omega) (by omega)
   .rw [if_neg e];have ha:=haddr (by omega);refine .da hk (by omega) (fun _=>?_) ?_ (by omega)
    .rw [ha,bf];omega
    .have:l.toNat*(φ id).sz+(cap-l.toNat)*(φ id).sz=cap*(φ id).sz:=by rw[<-bf];congr 1;omega
     omega
theorem As{sz:Nat}{t:TypeId}{el:TypeId}{x a b c:Operand}(ho:o.op=.slice t x (some a) (some b) (some c))
  (hu:P.underlying t=some (.slice el)) (hsz:dm P el=some sz) (hI:Inv S K w0 Kn φ (ak H) w) (hn0:nxt<n'->¬Kn nxt)
  (hρ:∀x tv,L9 e x=some tv->dH S w Kn φ tv (ρ x))
  (h:bD call (.tD sz) ([x,a,b,c].map (L9 e)) H nxt=some (v,u,aj,n')):bZ P o ρ S K w0 w Kn φ (ak H) nxt n' v u:=by
 simp only[am,aO]at h;cases hx:L9 e x with
 |none=>rw[hx]at h;simp[bD]at h
 |some tv=>
  rw[hx]at h;cases tv with
  |agg cs=>simp[bD]at h
  |fm xs=>simp[bD]at h
  |c xc=>
   have hr:=hρ x _ hx;cases hr with
   |c hr=>
   change (match bC (L9 e a),bC (L9 e b),bC (L9 e c)with
    |some l,some u,some m=>(match Dg sz xc l u m nxt with|some y=>some (TV.c y,([]:de),([]:List Nat),nxt+1)|none=>none)
    |_,_,_=>none)=_ at h
   split at h
   .rename_i l hh m hl hhh hm;obtain⟨k1,e1⟩:=fD hl (hρ a);obtain⟨k2,e2⟩:=fD hhh (hρ b);obtain⟨k3,e3⟩:=fD hm (hρ c);split at h
    .rename_i y hy;obtain⟨rfl,rfl,rfl,rfl⟩:TV.c y=v/\[]=u/\[]=aj/\nxt+1=n':=by simpa using h
     unfold Dg at hy;split at hy
     .rename_i sz' id off len;split at hy
      .rename_i hb;obtain⟨hb0,hb1,hb2,hb3,hb4⟩:=hb;obtain rfl:=aa hy;have hn:=hn0 (aN _);generalize hv0:ρ x=val at hr;cases hr with
       |@da _ _ _ cap addr hk hcap haddr hext hcl=>
        subst hb0;have s1:=fT (P:=P) (w:=w) (v:=.int k3 m) (y:=cap) (code:=.slice3Acap) rfl (by omega) (by omega);have s2:=fT (P:=P) (w:=w) (v:=.int k2 hh) (y:=m.toNat) (code:=.slice3B) rfl (by omega) (by omega);have s3:=fT (P:=P) (w:=w) (v:=.int k1 l) (y:=hh.toNat) (code:=.slice3C) rfl (by omega) (by omega);have hbd:(Instr.sliceBounds true len cap (some (.int k1 l)) (some (.int k2 hh)) (some (.int k3 m))).run P w=.ok (l.toNat,hh.toNat,m.toNat) w:=by unfold Instr.sliceBounds;simp[s1,s2,s3]
        let loc:d_:=⟨(φ id).bH,if m.toNat=l.toNat then addr else addr+l.toNat*(φ id).sz,(φ id).sz,(φ id).ext,m.toNat-l.toNat⟩
        have hlt:l.toNat*(φ id).sz+(m.toNat-l.toNat)*(φ id).sz<=cap*(φ id).sz:=by rw[<-bf];exact aw _ (by omega)
        refine⟨.value (.slice (some (if m.toNat=l.toNat then⟨(φ id).bH,addr,none⟩else⟨(φ id).bH,addr+l.toNat*(φ id).sz,none⟩)) (hh.toNat-l.toNat) (m.toNat-l.toNat)),_,w,?_,.inl rfl,a_ _,S,ext φ nxt loc,WJ.refl _ _,⟨fun _ h=>.inl h,(fP _ hn).cK⟩,.c ?_,?_⟩
        .simp only[execOp,ho,bB,hv0,e1,e2,e3,Instr.sliceAt,Instr.slice,Sem.run_bind,bo hu,Result.andThen_ok,hbd,eF hsz,Sem.run_pure];congr 3;split
         .rfl
         .simp [kc]
        .have e:ext φ nxt loc nxt=loc:=by simp[ext]
         have:=RC.da (S:=S) (w:=w) (Kn:=jI Kn nxt (nxt+1)) (φ:=ext φ nxt loc) (id:=nxt) (off:=0) (len:=hh.toNat-l.toNat) (cap:=m.toNat-l.toNat) (addr:=loc.aF)
          (.inr (by omega)) (by omega) (by rw[e];simp) (by
           rw[e];show(if m.toNat=l.toNat then addr else addr+l.toNat*(φ id).sz)+(m.toNat-l.toNat)*(φ id).sz<=(φ id).ext;split
           .rename_i q;rw[q,Nat.sub_self];omega
           .omega) (by rw[e];exact bl _)
         rw[e]at this;have e4:(if m.toNat=l.toNat then(⟨(φ id).bH,addr,none⟩:Addr)else⟨(φ id).bH,addr+l.toNat*(φ id).sz,none⟩)=⟨(φ id).bH,if m.toNat=l.toNat then addr else addr+l.toNat*(φ id).sz,none⟩:=by split<;>rfl
         rw[e4];exact this
        .have hren:=fP (Kn:=Kn) (φ:=φ) loc hn;have:=hI.jQ (WJ.refl _ _) hren hI.nM hI.sk hI.iT (hf':=ak H) (fun i o ho=>.inl ⟨ho,fun hown=>⟨rfl,((hI.fh i o ho).2.aW hown).1⟩⟩) (fun i j a b hi hj oa ob hne=>by rw[hren.cK _ (hI.fh i a hi).1,hren.cK _ (hI.fh j b hj).1];exact hI.jq i j a b hi hj oa ob hne) (hI.u_ hren fun _ _=>rfl);exact this.pJ fun j=>jY j
      .simp at hy
     .simp at hy
    .simp at h
   .simp at h
theorem vu{str:Bool}{sz:Nat}{t:TypeId}{x:Operand}{lo hi:Option Operand}(ho:o.op=.slice t x lo hi none)
  (hu:if str then P.underlying t=some .string else∃el,P.underlying t=some (.slice el)/\dm P el=some sz) (hI:Inv S K w0 Kn φ (ak H) w)
  (hρ:∀x tv,L9 e x=some tv->dH S w Kn φ tv (ρ x))
  (h:bD call (.slice str sz lo.isSome hi.isSome) ((x::lo.toList++hi.toList).map (L9 e)) H nxt=some (v,u,aj,n')):bZ P o ρ S K w0 w Kn φ (ak H) nxt n' v u:=by
 simp only[List.cons_append,am,List.map_append]at h;cases hx:L9 e x with
 |none=>rw[hx]at h;cases lo<;>cases hi<;>simp[bD]at h
 |some tv=>
  rw[hx]at h;cases tv with
  |agg cs=>cases lo<;>cases hi<;>simp[bD]at h
  |fm xs=>cases lo<;>cases hi<;>simp[bD]at h
  |c c=>
   have hr:=hρ x _ hx;cases hr with
   |c hr=>
   have fin:∀l h',lo.isSome=l.isSome->(∀y,lo=some y->bC (L9 e y)=l)->hi.isSome=h'.isSome->(∀y,hi=some y->bC (L9 e y)=h')->
     (match dq str sz c l h' with|some y=>some (TV.c y,([]:de),([]:List Nat),nxt)|none=>none)=some (v,u,aj,n')->bZ P o ρ S K w0 w Kn φ (ak H) nxt n' v u:=by
    intro l h' e1 e2 e3 e4 hm;split at hm
    .rename_i y hy;obtain⟨rfl,rfl,rfl,rfl⟩:TV.c y=v/\[]=u/\[]=aj/\nxt=n':=by simpa using hm
     have conv:∀(q:Option Operand)(l:Option Int),q.isSome=l.isSome->(∀y,q=some y->bC (L9 e y)=l)->∀x,q.map ρ=some x->∃k n,x=.int k n/\l=some n:=by
      intro q l e1 e2 x hq;cases q with
      |none=>simp at hq
      |some y=>
       obtain rfl:ρ y=x:=by simpa using hq
       cases l with|none=>simp at e1|some n=>obtain⟨k,hk⟩:=fD (e2 y rfl) (hρ y);exact⟨k,n,hk,rfl⟩
     obtain⟨val',h1,h2⟩:=u4 (P:=P) (lo:=lo.map ρ) (hi:=hi.map ρ) hu hr (by simpa using e1) (conv lo l e1 e2) (by simpa using e3) (conv hi h' e3 e4) hy;exact bZ.pure hI (by simp[execOp,ho,h1]) (.c h2)
    .simp at hm
   cases lo with
   |none=>
    cases hi with
    |none=>exact fin none none rfl (fun y hy=>by simp at hy) rfl (fun y hy=>by simp at hy) h
    |some z=>
     change (match bC (L9 e z)with|some u=>(match dq str sz c none (some u)with|some y=>some (TV.c y,([]:de),([]:List Nat),nxt)|none=>(match Mz str sz c 0 u H with|some (y,aj)=>some (TV.c y,([]:de),aj,nxt)|none=>none))|none=>none)=_ at h;split at h
     .rename_i n hn;split at h
      .rename_i y hy;exact fin none (some n) rfl (fun y hy=>by simp at hy) rfl (fun y hy=>aa hy▸hn) (by rw[hy];exact h)
      .split at h
       .rename_i y ids1 hy;obtain⟨rfl,rfl,_,rfl⟩:TV.c y=v/\[]=u/\ids1=aj/\nxt=n':=by simpa using h
        obtain⟨k2,e2⟩:=fD hn (hρ z);obtain⟨val',h1,h2⟩:=qt (P:=P) (t:=t) (lo:=none) (l:=none) hI hu hr rfl (fun x hx=>by simp at hx) e2 hy;exact bZ.pure hI (by simp[execOp,ho,h1]) (.c h2)
       .simp at h
     .simp at h
   |some q=>
    cases hi with
    |none=>
     change (match bC (L9 e q)with|some l=>(match dq str sz c (some l) none with|some y=>some (TV.c y,([]:de),([]:List Nat),nxt)|none=>none)|none=>none)=_ at h;split at h
     .rename_i n hn;exact fin (some n) none rfl (fun y hy=>aa hy▸hn) rfl (fun y hy=>by simp at hy) h
     .simp at h
    |some z=>
     change (match bC (L9 e q),bC (L9 e z)with
      |some l,some u=>(match dq str sz c (some l) (some u)with
       |some y=>some (TV.c y,([]:de),([]:List Nat),nxt)
       |none=>(match Mz str sz c l u H with|some (y,aj)=>some (TV.c y,([]:de),aj,nxt)|none=>none))
      |_,_=>none)=_ at h
     split at h
     .rename_i m n hm hn;split at h
      .rename_i y hy;exact fin (some m) (some n) rfl (fun y hy=>aa hy▸hm) rfl (fun y hy=>aa hy▸hn) (by rw[hy];exact h)
      .split at h
       .rename_i y ids1 hy;obtain⟨rfl,rfl,_,rfl⟩:TV.c y=v/\[]=u/\ids1=aj/\nxt=n':=by simpa using h
        obtain⟨k1,e1⟩:=fD hm (hρ q);obtain⟨k2,e2⟩:=fD hn (hρ z);obtain⟨val',h1,h2⟩:=qt (P:=P) (t:=t) (lo:=some (ρ q)) (l:=some m) hI hu hr rfl (fun x hx=>⟨k1,m,by rw[<-aa hx,e1],rfl⟩) e2 hy;exact bZ.pure hI (by simp[execOp,ho,h1]) (.c h2)
       .simp at h
     .simp at h
theorem nX{t:TypeId}{x i:Operand}{aB:Option Nat}{sz:Nat}(ho:o.op=.indexAddr t x i)
  (hu:match aB with|none=>∃el,P.underlying t=some (.slice el)/\dm P el=some sz|some len=>∃el,P.underlying t=some (.array len el)/\dm P el=some sz)
  (hI:Inv S K w0 Kn φ (ak H) w) {tx ti:Option TV} (hx:∀y,tx=some y->dH S w Kn φ y (ρ x)) (hi:∀y,ti=some y->dH S w Kn φ y (ρ i))
  (h:bD call (.indexAddr aB sz) [tx,ti] H nxt=some (v,u,aj,n')):bZ P o ρ S K w0 w Kn φ (ak H) nxt n' v u:=by
 match tx,h,hx with
 |some (.c c),h,hx=>
  change (match bC ti with|some i=>(match eZ aB sz c i with|some y=>some (TV.c y,([]:de),([]:List Nat),nxt)|none=>none)|none=>none)=_ at h;split at h
  .rename_i n hn;obtain⟨k,hk⟩:=fD hn hi;split at h
   .rename_i y hy;obtain⟨rfl,rfl,rfl,rfl⟩:TV.c y=v/\[]=u/\[]=aj/\nxt=n':=by simpa using h
    have hr:=hx _ rfl;generalize hv0:ρ x=val at hr;cases hr with
    |c hr=>
    cases aB with
    |none=>
     obtain⟨el,hu,hsz⟩:=hu;simp only[eZ]at hy;have run:∀b off len cap,val=.slice (some ⟨b,off,none⟩) len cap->0<=n->n<len->(execOp ρ o).run P w=.ok (.value (.pointer (some ⟨b,off+n.toNat*sz,none⟩))) w:=by intro b off len cap hv h0 h1;simp[execOp,ho,hv0,hv,Instr.indexAt,jb hk,bo hu,h0,h1,eF hsz,kc]
     split at hy
     .rename_i sz' id off len;split at hy
      .rename_i hb;obtain⟨h0,h1,rfl⟩:=hb;obtain rfl:=aa hy;cases hr with
       |@da _ _ _ cap addr hkn hcap haddr hext=>
        refine bZ.pure hI (run _ _ _ _ rfl h0 h1) (.c ?_);have ha:=haddr (by omega);have e1:addr+n.toNat*(φ id).sz=(φ id).aF+(off+n.toNat)*(φ id).sz+0:=by rw[ha,bf];omega
        rw[e1];exact .ep hkn
      .simp at hy
     .rename_i sz' rows;split at hy
      .rename_i hb;obtain⟨h0,rfl⟩:=hb;split at hy
       .rename_i r hr';obtain rfl:=aa hy;cases hr with
        |d hd=>cases hd with|@sl _ _ b off cap g hb hsz0 hcap hrow hcell hrd=>have hlt:n.toNat<rows.length:=(af.1 hr').1;refine bZ.pure hI (run _ _ _ _ rfl h0 (by omega)) (.c (.d (.qA hb fun j z hj=>⟨_,hcell _ _ hr' j z hj,hrd _ _ hr' j z hj⟩)))|mD=>simp at hr'
       .simp at hy
      .simp at hy
     .simp at hy
    |some len=>
     obtain⟨el,hu,hsz⟩:=hu;simp only[eZ]at hy;split at hy
     .rename_i hb;obtain⟨h0,h1⟩:=hb;have run:∀b off,val=.pointer (some ⟨b,off,none⟩)->(execOp ρ o).run P w=.ok (.value (.pointer (some ⟨b,off+n.toNat*sz,none⟩))) w:=by intro b off hv;have hu':∀w,(underlying t).run P w=.ok (.array len el) w:=bo hu;simp only[execOp,ho,hv0,hv,Instr.indexAt,Sem.run_bind,jb hk,Result.andThen_ok,hu',Instr.sureAddr,Sem.run_pure,h0,h1,and_self,if_true,eF hsz,kc]
      split at hy
      .rename_i id off;obtain rfl:=aa hy;cases hr with|op hkn=>refine bZ.pure hI (run _ _ rfl) (.c ?_);rw[bK];exact .op hkn
      .rename_i id cU off;obtain rfl:=aa hy;cases hr with|ep hkn=>refine bZ.pure hI (run _ _ rfl) (.c ?_);rw[bK];exact .ep hkn
      .rename_i cells;split at hy
       .obtain rfl:=aa hy;cases hr with
        |d hd=>
         cases hd with
         |@pt _ b off g hb hcell hrd=>
          refine bZ.pure hI (run _ _ rfl) (.c (.d (.qA hb fun j z hj=>?_)));rw[cN]at hj;split at hj
          .rw [bi]at hj;exact⟨_,by rw[bK];exact hcell _ _ hj,hrd _ _ hj⟩
          .simp at hj
       .simp at hy
      .simp at hy
     .simp at hy
   .simp at h
  .simp at h
theorem vy{t:TypeId}{x i:Operand}(ho:o.op=.index t x i)(hu:P.underlying t=some .string)(hI:Inv S K w0 Kn φ (ak H) w)
  {tx ti:Option TV} (hx:∀y,tx=some y->dH S w Kn φ y (ρ x)) (hi:∀y,ti=some y->dH S w Kn φ y (ρ i))
  (h:bD call .jZ [tx,ti] H nxt=some (v,u,aj,n')):bZ P o ρ S K w0 w Kn φ (ak H) nxt n' v u:=by
 match tx,h,hx with
 |some (.c (.d (.lit (.string s)))),h,hx=>
  change (match bC ti with|some i=>(match(if 0<=i then s[i.toNat]?else none)with|some b=>some (lv (.int .u8 b.toNat),([]:de),([]:List Nat),nxt)|none=>none)|none=>none)=_ at h;split at h
  .rename_i n hn;obtain⟨k,hk⟩:=fD hn hi;split at h
   .rename_i b hb;obtain⟨rfl,rfl,rfl,rfl⟩:lv (.int .u8 b.toNat)=v/\[]=u/\[]=aj/\nxt=n':=by simpa using h
    obtain⟨hv,_⟩:=(hx _ rfl).lit;exact bZ.pure hI (by simp[execOp,ho,hv,Instr.index,jb hk,bo hu,hb]) (.kI rfl)
   .simp at h
  .simp at h
theorem uZ{t:TypeId}{agg:Bool}{n off:Nat}(ha:du P t=some agg)(hn:dm P t=some n){cs:List C}{aB:Array Value}{v:TV}(hlen:cs.length=aB.size)
  (hc:∀(i:Nat)(x:C),cs[i]?=some x->RC S w Kn φ x (aB.getD i undef)) (h:vQ agg n (cs.drop off)=some v):∃val,(part t aB off).run P w=.ok val w/\dH S w Kn φ v val:=by
 unfold vQ at h;cases agg with
 |true=>
  simp only[if_true]at h;split at h
  .rename_i hle;obtain rfl:=aa h;simp only[List.length_drop]at hle;refine⟨.agg (aB.extract off (off+n)),by simp[part,mF ha,eF hn],.agg ?_ fun i x hi=>?_⟩
   .simp;omega
   .rw [cN]at hi;split at hi
    .rename_i hin;rw[bi]at hi;have hlt:off+i<aB.size:=by rw[<-hlen];exact(af.1 hi).1
     have e1:(aB.extract off (off+n)).getD i undef=aB.getD (off+i) undef:=by
      have h1:(aB.extract off (off+n))[i]?=aB[off+i]?:=by rw[Array.getElem?_extract,if_pos (by omega)]
      simp only[Array.getD_eq_getD_getElem?,h1]
     rw[e1];exact hc _ _ hi
    .simp at hi
  .simp at h
 |false=>
  simp only[aG,if_false]at h;split at h
  .rename_i x r hd;obtain rfl:=aa h;have hx:cs[off]?=some x:=by have:=congrArg (fun l=>l[0]?) hd;simpa using this
   have hlt:off<aB.size:=by rw[<-hlen];exact(af.1 hx).1
   refine⟨aB.getD off undef,?_,.c (hc _ _ hx)⟩;simp[part,mF ha,hlt]
  .simp at h
theorem Cd{s:TypeId}{f n:Nat}{agg:Bool}{fields:Array Field}{fl:Field}{x:Operand}(ho:o.op=.field s x f)(hu:P.underlying s=some (.struct fields))(hf:fields[f]?=some fl)
  (ha:du P fl.type=some agg) (hs:dm P fl.type=some n) (hI:Inv S K w0 Kn φ (ak H) w) {tv:Option TV} (hx:∀y,tv=some y->dH S w Kn φ y (ρ x))
  (h:bD call (.field agg fl.offset n) [tv] H nxt=some (v,u,aj,n')):bZ P o ρ S K w0 w Kn φ (ak H) nxt n' v u:=by
 match tv,h,hx with
 |some (.agg cs),h,hx=>
  change (match vQ agg n (cs.drop fl.offset)with|some v=>some (v,([]:de),([]:List Nat),nxt)|none=>none)=_ at h;split at h
  .rename_i y hy;obtain⟨rfl,rfl,rfl,rfl⟩:y=v/\[]=u/\[]=aj/\nxt=n':=by simpa using h
   have hr:=hx _ rfl;generalize hv0:ρ x=val at hr;cases hr with|agg hlen hc=>obtain⟨val,h1,h2⟩:=uZ ha hs hlen hc hy;exact bZ.pure hI (by simp[execOp,ho,hv0,Instr.field,bo hu,hf,asAgg,h1]) h2
  .simp at h
theorem Cc{t el:TypeId}{len n:Nat}{agg:Bool}{x i:Operand}(ho:o.op=.index t x i)(hu:P.underlying t=some (.array len el))
  (ha:du P el=some agg) (hs:dm P el=some n) (hI:Inv S K w0 Kn φ (ak H) w) {tx ti:Option TV} (hx:∀y,tx=some y->dH S w Kn φ y (ρ x)) (hi:∀y,ti=some y->dH S w Kn φ y (ρ i))
  (h:bD call (.index agg len n) [tx,ti] H nxt=some (v,u,aj,n')):bZ P o ρ S K w0 w Kn φ (ak H) nxt n' v u:=by
 match tx,h,hx with
 |some (.agg cs),h,hx=>
  change (match bC ti with|some i=>(if 0<=i/\i<len then(match vQ agg n (cs.drop (i.toNat*n))with|some v=>some (v,([]:de),([]:List Nat),nxt)|none=>none)else none)|none=>none)=_ at h;split at h
  .rename_i m hm;obtain⟨k,hk⟩:=fD hm hi;split at h
   .rename_i hb;split at h
    .rename_i y hy;obtain⟨rfl,rfl,rfl,rfl⟩:y=v/\[]=u/\[]=aj/\nxt=n':=by simpa using h
     have hr:=hx _ rfl;generalize hv0:ρ x=val at hr;cases hr with|agg hlen hc=>obtain⟨val,h1,h2⟩:=uZ ha hs hlen hc hy;exact bZ.pure hI (by simp[execOp,ho,hv0,Instr.index,jb hk,bo hu,hb.1,hb.2,eF hs,h1]) h2
    .simp at h
   .simp at h
  .simp at h
end
section
variable{P:Program}{S K:Nat->Prop}{w0 w:World}{Kn:Nat->Prop}{φ:Nat->d_}{H:aY}{e:fN}{ρ:Operand->Value}{o:Oper}{call:Call}
 {nxt n':Nat} {v:TV} {u:de} {aj:List Nat}
def EO(m:Bool):Value->Value->Sem Value:=if m then Builtin.max2 else Builtin.min2
theorem FQ{m:Bool}{k:FloatKind}{a b:Nat}(hn:nH k a)(hm:nH k b)(y:Value):uD m (.float k a) y=uD m (.float k b) y:=by cases y with|float k' y=>unfold uD;obtain⟨_,_,_,_,a5⟩:=zp hn y;obtain⟨_,_,_,_,b5⟩:=zp hm y;simp only[a5,b5]|_=>rfl
theorem FP{m:Bool}{k:FloatKind}{a b:Nat}(hn:nH k a)(hm:nH k b)(y:Value):uD m y (.float k a)=uD m y (.float k b):=by
 cases y with
 |float k' y=>
  by_cases hk:k'=k
  .subst hk;unfold uD;obtain⟨_,_,_,_,a5⟩:=zo hn y;obtain⟨_,_,_,_,b5⟩:=zo hm y;simp only[a5,b5]
  .unfold uD;simp only[if_neg hk]
 |_=>rfl
theorem AE{m:Bool}{a b va vb v:Value}(ha:kK a va)(hb:kK b vb)(h:uD m a b=some v):uD m va vb=some v:=by
 cases ha with
 |ex=>cases hb<;>(unfold uD at h;cases h)
 |lit _=>cases hb with|lit _=>exact h|nan hn hm=>rw[<-FP hn hm];exact h|ex=>exfalso;unfold uD at h;cases a<;>cases h
 |nan hn hm=>cases hb with|lit _=>rw[<-FQ hn hm];exact h|nan hn' hm'=>rw[<-FQ hn hm,<-FP hn' hm'];exact h|ex=>unfold uD at h;cases h
theorem Ek{m:Bool}{x y z:Value}(h:uD m x y=some z):∃z' n,(EO m x y).run P w=.ok z' {w with drawn:=n}/\w.drawn<=n/\kK z z':=by
 have key:(EO m x y).run P w=.ok z w/\cO z=true->∃z' n,(EO m x y).run P w=.ok z' {w with drawn:=n}/\w.drawn<=n/\kK z z':=fun h=>⟨z,w.drawn,h.1,ai _,.lit h.2⟩;unfold uD at h;split at h
 .rename_i k a k' b;split at h
  .obtain rfl:=aa h;refine key ?_;cases m<;>simp[EO,Builtin.max2,Builtin.min2,cO]
  .simp at h
 .rename_i k a k' b;split at h
  .rename_i hk;subst hk;split at h
   .rename_i ho;obtain rfl:=aa h;refine⟨.float k ((Question.nanMinMax k m a b).cut (w.tape w.drawn (.nanMinMax k m a b))),w.drawn+1,?_,a_ _,.nan (vW k) ?_⟩
    .cases m<;>simp[EO,Builtin.max2,Builtin.min2,ho,run_choose,Question.forced]
    .have:∀t,(Question.nanMinMax k m a b).cut t=(Question.nanBits k a b).cut t:=by intro t;cases k<;>rfl
     rw[this];exact zC _ _ _ _
   .rename_i ho;obtain rfl:=aa h;refine key ?_;cases m<;>simp[EO,Builtin.max2,Builtin.min2,cO,ho]
   .rename_i ho;obtain rfl:=aa h;refine key ?_;cases m<;>simp[EO,Builtin.max2,Builtin.min2,cO,ho]
   .rename_i ho;obtain rfl:=aa h;refine key ?_;cases m<;>simp[EO,Builtin.max2,Builtin.min2,cO,ho]
  .simp at h
 .simp at h
theorem Ej{m:Bool}(hρ:∀x y,L9 e x=some (.c (.d (.lit y)))->kK y (ρ x)):∀(r:List Operand)(x z vx:Value)(w:World),kK x vx->Cp m x (r.map (L9 e))=some z->
  ∃z' n,((r.map ρ).foldlM (EO m) vx).run P w=.ok z' {w with drawn:=n}/\w.drawn<=n/\kK z z':=by
 intro r;induction r with
 |nil=>
  intro x z vx w hx h;obtain rfl:x=z:=by simpa[Cp]using h
  exact⟨vx,w.drawn,rfl,ai _,hx⟩
 |cons a r ih=>
  intro x z vx w hx h;simp only[am]at h|-
  match ha:L9 e a,h with
  |some (.c (.d (.lit y))),h=>
   simp only[Cp]at h;split at h
   .rename_i z' hz;have hz:=AE hx (hρ a _ ha) hz;obtain⟨z1,n1,h1,l1,e1⟩:=Ek (P:=P) (w:=w) hz;obtain⟨z2,n2,h3,l2,e2⟩:=ih z' z z1 {w with drawn:=n1} e1 h;refine⟨z2,n2,?_,Nat.le_trans l1 l2,e2⟩;simp only[List.foldlM_cons,Sem.run_bind,h1,Result.andThen_ok,h3]
   .simp at h
theorem sG{m:Bool}{c:Go.Call}(ho:o.op=.call c)(hcal:c.callee=.builtin (if m then .max else .min))(hI:Inv S K w0 Kn φ (ak H) w)
  (hρ:∀x tv,L9 e x=some tv->dH S w Kn φ tv (ρ x)) (h:bD call (.lE m) (c.args.toList.map (L9 e)) H nxt=some (v,u,aj,n')):bZ P o ρ S K w0 w Kn φ (ak H) nxt n' v u:=by
 generalize hargs:c.args.toList=args at h;cases args with
 |nil=>simp[bD]at h
 |cons a r=>
  simp only[am]at h
  match ha:L9 e a,h with
  |some (.c (.d (.lit x))),h=>
   change (match Cp m x (r.map (L9 e))with|some v=>some (lv v,([]:de),([]:List Nat),nxt)|none=>none)=_ at h;split at h
   .rename_i z hz;obtain⟨rfl,rfl,rfl,rfl⟩:lv z=v/\[]=u/\[]=aj/\nxt=n':=by simpa using h
    obtain⟨z',n,h1,hle,h4⟩:=Ej (P:=P) (fun x y hx=>(hρ x _ hx).AA) r x z _ w (hρ a _ ha).AA hz;have e1:List.map ρ c.args.toList=ρ a::r.map ρ:=by rw[hargs,am]
    refine⟨.value z',z',_,?_,.inl rfl,ai _,S,φ,WJ.mX _ _ _,kq _ _,.xQ h4,(hI.mX n hle).kn fun _ hi=>.inl hi⟩;cases m
    .simp only[aG,if_false]at hcal;have h1':((r.map ρ).foldlM Builtin.min2 (ρ a)).run P w=.ok z' {w with drawn:=n}:=h1;simp[execOp,ho,hcal,resolve,invoke,builtin,Builtin.min_,e1,h1']
    .simp only[if_true]at hcal;have h1':((r.map ρ).foldlM Builtin.max2 (ρ a)).run P w=.ok z' {w with drawn:=n}:=h1;simp[execOp,ho,hcal,resolve,invoke,builtin,Builtin.max_,e1,h1']
   .simp at h
def CR(S:Nat->Prop)(w:World)(Kn:Nat->Prop)(φ:Nat->d_)(cs:List C)(vs:List Value):Prop:=cs.length=vs.length/\∀(i:Nat)(x:C)(y:Value),cs[i]?=some x->vs[i]?=some y->RC S w Kn φ x y
theorem CR.aM{cs ds:List C}{vs us:List Value}(h1:CR S w Kn φ cs vs)(h2:CR S w Kn φ ds us)(off:Nat)(hfit:off+ds.length<=cs.length):
  CR S w Kn φ (aM cs off ds) (aM vs off us):=by
 have hl1:=h1.1;have hl2:=h2.1;refine⟨by rw[cQ _ _ _ hfit,cQ _ _ _ (by omega)];exact h1.1,fun i x y hx hy=>?_⟩;rw[fH _ _ _ hfit]at hx;rw[fH _ _ _ (by omega)]at hy;by_cases c1:i<off
 .rw [if_pos c1]at hx hy;exact h1.2 i x y hx hy
 .rw [if_neg c1]at hx hy;by_cases c2:i<off+ds.length
  .rw [if_pos c2]at hx;rw[if_pos (by omega)]at hy;exact h2.2 _ x y hx hy
  .rw [if_neg c2]at hx;rw[if_neg (by omega)]at hy;exact h1.2 i x y hx hy
theorem dH.cr{tv:TV}{val:Value}{cs:List C}(h:dH S w Kn φ tv val)(hc:cellsOf tv=some cs):CR S w Kn φ cs val.cells.toList:=by
 obtain⟨h1,h2,_⟩:=h.cells hc;refine⟨by simpa using h1,fun i x y hx hy=>?_⟩;have:=h2 i x hx;have e1:val.cells.getD i undef=y:=by rw[aQ]at hy;simp[hy]
 rwa[e1]at this
theorem uj{cs:List C}{aB:Array Value}(h:CR S w Kn φ cs aB.toList):cs.length=aB.size/\∀(i:Nat)(x:C),cs[i]?=some x->RC S w Kn φ x (aB.getD i undef):=by
 have hl:cs.length=aB.size:=by simpa using h.1
 refine⟨hl,fun i x hx=>?_⟩;have hlt:i<aB.size:=by rw[<-hl];exact(af.1 hx).1
 refine h.2 i x _ hx ?_;simp[hlt]
theorem CE:∀(l:List Value)(k:Nat)(aB:Array Value)(off:Nat),off+k+l.length<=aB.size->
  ((l.zipIdx k).foldl (fun(cs:Array Value)(p:Value×Nat)=>cs.setIfInBounds (off+p.2) p.1) aB).toList=aM aB.toList (off+k) l:=by
 intro l;induction l with
 |nil=>intro k aB off _;simp[aM]
 |cons a l ih=>
  intro k aB off hfit;simp only[dk]at hfit;simp only[List.zipIdx_cons,List.foldl_cons];rw[ih (k+1) (aB.setIfInBounds (off+k) a) off (by simp;omega)];apply List.ext_getElem?;intro i;rw[fH _ _ _ (by simp;omega),fH _ _ _ (by simp;omega)];simp only[Array.toList_setIfInBounds,List.getElem?_set,dk];by_cases c1:i<off+k
  .have c3:i<off+(k+1):=by omega
   have c4:¬off+k=i:=by omega
   simp[c1,c3,c4]
  .by_cases c2:i=off+k
   .subst c2;have:off+k<off+(k+1):=by omega
    have c5:off+k<aB.size:=by omega
    simp[this,c5]
   .have c3:¬i<off+(k+1):=by omega
    have c4:¬off+k=i:=by omega
    by_cases c5:i<off+k+(l.length+1)
    .have c6:i<off+(k+1)+l.length:=by omega
     have c7:i-(off+k)=(i-(off+(k+1)))+1:=by omega
     simp[c1,c3,c5,c6,c7]
    .have c6:¬i<off+(k+1)+l.length:=by omega
     simp[c1,c3,c4,c5,c6]
theorem Fv(vs aB:Array Value)(off:Nat)(hfit:off+vs.size<=aB.size):
  (vs.zipIdx.foldl (fun(cs:Array Value)(p:Value×Nat)=>cs.setIfInBounds (off+p.2) p.1) aB).toList=aM aB.toList off vs.toList:=by
 rw[<-Array.foldl_toList,Array.toList_zipIdx];have:=CE vs.toList 0 aB off (by simpa using hfit);simpa using this
theorem q_(fK:Nat->Option (Nat×Nat)):∀(parts:List (Nat×Operand))(pl:List (Nat×Nat))(xs:List TV)(cs cs':List C)(aB:Array Value),
  pl.length=parts.length->(∀(i:Nat)(p:Nat×Operand)(q:Nat×Nat),parts[i]?=some p->pl[i]?=some q->fK p.1=some q)->
  xs.length=parts.length->(∀(i:Nat)(p:Nat×Operand)(x:TV),parts[i]?=some p->xs[i]?=some x->dH S w Kn φ x (ρ p.2))->
  CR S w Kn φ cs aB.toList->iL cs (pl.zip xs)=some cs'->
  ∃arr',Instr.fill fK aB (parts.map fun p=>(p.1,ρ p.2))=some arr'/\CR S w Kn φ cs' arr'.toList:=by
 intro parts;induction parts with
 |nil=>
  intro pl xs cs cs' aB h1 _ h2 _ hcr h;have e1:pl=[]:=List.length_eq_zero_iff.1 h1;subst e1;obtain rfl:cs=cs':=by simpa[iL]using h
  exact⟨aB,rfl,hcr⟩
 |cons p parts ih=>
  intro pl xs cs cs' aB h1 hpl h2 hxs hcr h;cases pl with
  |nil=>simp at h1
  |cons q pl=>
   cases xs with
   |nil=>simp at h2
   |cons x xs=>
    obtain⟨off,n⟩:=q;simp only[List.zip_cons_cons,iL]at h;split at h
    .rename_i ds hds;split at h
     .rename_i hb;obtain⟨hb1,hb2⟩:=hb;have hp:=hpl 0 p (off,n) rfl rfl;have hx:=(hxs 0 p x rfl rfl).cr hds;have hsz:(ρ p.2).cells.size=n:=by have:=hx.1;simp at this;omega
      have hal:cs.length=aB.size:=by simpa using hcr.1
      have hcr':=hcr.aM hx off (by omega);rw[<-Fv (ρ p.2).cells aB off (by omega)]at hcr'
      obtain⟨arr',h3,h4⟩:=ih pl xs _ cs' _ (by simpa using h1) (fun i p q hp hq=>hpl (i+1) p q (by simpa using hp) (by simpa using hq)) (by simpa using h2)
       (fun i p x hp hx=>hxs (i+1) p x (by simpa using hp) (by simpa using hx)) hcr' h
      refine⟨arr',?_,h4⟩;simp only[am,Instr.fill,hp];rw[if_neg (by simp[hsz];omega)];exact h3
     .simp at h
    .simp at h
theorem zw{z:List Value}(hp:∀x∈z,cO x=true):CR S w Kn φ (db z) z:=by refine⟨by simp[db],fun i x y hx hy=>?_⟩;simp only[db,aC,hy,bB]at hx;obtain rfl:=aa hx;exact .d (.lit (hp y (aS hy)))
theorem xD{fields:Array Field}:∀{is:List Nat}{pl:List (Nat×Nat)},kV P fields is=some pl->pl.length=is.length/\
  ∀(k i:Nat)(q:Nat×Nat),is[k]?=some i->pl[k]?=some q->∃f,fields[i]?=some f/\q.1=f.offset/\dm P f.type=some q.2:=by
 intro is;induction is with
 |nil=>
  intro pl h;obtain rfl:[]=pl:=by simpa[kV]using h
  exact⟨rfl,fun k i q hk=>by simp at hk⟩
 |cons i is ih=>
  intro pl h;simp only[kV]at h;split at h
  .rename_i f l hf hl;split at h
   .rename_i n hn;obtain rfl:=aa h;obtain⟨h1,h2⟩:=ih hl;refine⟨by simp[h1],fun k j q hk hq=>?_⟩;cases k with
    |zero=>
     obtain rfl:i=j:=by simpa using hk
     obtain rfl:(f.offset,n)=q:=by simpa using hq
     exact⟨f,hf,rfl,hn⟩
    |succ k=>exact h2 k j q (by simpa using hk) (by simpa using hq)
   .simp at h
  .simp at h
theorem xp(g:Field->Nat×Nat):∀(l:List Field),(∀f∈l,∃n,dm P f.type=some n/\g f=(f.offset,n))->
  (l.mapM fun f=>(do pure (f.offset,<-sizeOf f.type):Sem (Nat×Nat))).run P w=.ok (l.map g) w:=by
 intro l;induction l with|nil=>intro _;rfl|cons f l ih=>intro h;obtain⟨n,hn,hg⟩:=h f (by simp);have:=ih fun f hf=>h f (by simp[hf]);simp only[List.mapM_cons,Sem.run_bind,eF hn,Result.andThen_ok,Sem.run_pure,this,am,hg]
theorem vC{t:TypeId}{parts:Array (Nat×Operand)}{z:List Value}{pl:List (Nat×Nat)}(ho:o.op=.build t parts)(hz:fS P t=some z)
  (hu:(∃fields,P.underlying t=some (.struct fields)/\kV P fields (parts.toList.map (·.1))=some pl/\fields.toList.all (fun f=>(dm P f.type).isSome)=true)\/
   (∃len el n,P.underlying t=some (.array len el)/\dm P el=some n/\pl=parts.toList.map fun p=>(p.1*n,n)))
  (hI:Inv S K w0 Kn φ (ak H) w) (hρ:∀x tv,L9 e x=some tv->dH S w Kn φ tv (ρ x))
  (h:bD call (.build z pl) ((parts.toList.map (·.2)).map (L9 e)) H nxt=some (v,u,aj,n')):bZ P o ρ S K w0 w Kn φ (ak H) nxt n' v u:=by
 change (match cD ((parts.toList.map (·.2)).map (L9 e))with
  |some xs=>(match iL (db z) (pl.zip xs)with|some cs=>some (TV.agg cs,([]:de),([]:List Nat),nxt)|none=>none)
  |none=>none)=_ at h
 split at h
 .rename_i xs hxs;split at h
  .rename_i cs hcs;obtain⟨rfl,rfl,rfl,rfl⟩:TV.agg cs=v/\[]=u/\[]=aj/\nxt=n':=by simpa using h
   obtain⟨hl,hr⟩:=ol hρ hxs;obtain⟨zv,hzr,hzl,hzp⟩:=jR hz w
   have key:∀fK:Nat->Option (Nat×Nat),pl.length=parts.toList.length->(∀(i:Nat)(p:Nat×Operand)(q:Nat×Nat),parts.toList[i]?=some p->pl[i]?=some q->fK p.1=some q)->
     ∃arr',Instr.fill fK zv.cells ((parts.map fun p=>(p.1,ρ p.2)).toList)=some arr'/\CR S w Kn φ cs arr'.toList:=by
    intro fK h1 h2
    have:=q_ (S:=S) (w:=w) (Kn:=Kn) (φ:=φ) (ρ:=ρ) fK parts.toList pl xs (db z) cs zv.cells h1 h2 (by simpa using hl) (fun i p x hp hx=>hr i p.2 x (by simp only[aC,hp,bB]) hx)
     (by rw[hzl];exact zw hzp) hcs
    simpa using this
   rcases hu with⟨fields,hu,hpl,hall⟩|⟨len,el,n,hu,hn,rfl⟩
   .obtain ⟨h1,h2⟩:=xD hpl;let g:Field->Nat×Nat:=fun f=>(f.offset,(dm P f.type).getD 0)
    have hg:(fields.mapM fun f=>(do pure (f.offset,<-sizeOf f.type):Sem (Nat×Nat))).run P w=.ok (fields.map g) w:=by
     rw[Array.mapM_eq_mapM_toList];have:=xp (P:=P) (w:=w) g fields.toList fun f hf=>by have:=aL.1 hall f hf;obtain⟨n,hn⟩:=Option.isSome_iff_exists.1 this;exact⟨n,hn,by simp[g,hn]⟩
     simp only[Sem.run_map,this,Result.andThen_ok];congr 1;apply Array.ext';rw[Array.toList_map]
    obtain⟨arr',h3,h4⟩:=key (fun i=>(fields.map g)[i]?) (by simpa using h1) (fun i p q hp hq=>by obtain⟨f,hf,hq1,hq2⟩:=h2 i p.1 q (by simp only[aC,hp,bB]) hq;simp only[Array.getElem?_map,hf,bB,g,hq2,di,<-hq1]);obtain⟨h5,h6⟩:=uj h4;refine bZ.pure (val:=.agg arr') hI ?_ (.agg h5 h6);simp only[execOp,ho,Sem.run_bind,Instr.build,hzr,Result.andThen_ok,bo hu,hg,h3,Sem.run_pure]
   .obtain ⟨arr',h3,h4⟩:=key (fun i=>some (i*n,n)) (by simp) (fun i p q hp hq=>by simp only[aC,hp,bB]at hq;exact hq);obtain⟨h5,h6⟩:=uj h4;refine bZ.pure (val:=.agg arr') hI ?_ (.agg h5 h6);simp only[execOp,ho,Sem.run_bind,Instr.build,hzr,Result.andThen_ok,bo hu,eF hn,h3,Sem.run_pure]
  .simp at h
 .simp at h
theorem gI.from{S1:Nat->Prop}{hf hf1:Nat->Option Ob}{u1 u2:de}{val:Value}{w':World}(hs:WJ S w S1 w)(he:hf1=aU u1 hf)(h:gI S1 K w0 w Kn φ hf1 nxt n' v u2 val w'):
  gI S K w0 w Kn φ hf nxt n' v (u2++u1) val w':=by
 obtain⟨h1,S',φ',h2,h3,h4,h5⟩:=h;exact⟨h1,S',φ',hs.trans h2,h3,h4,by rw[cF,<-he];exact h5⟩
theorem yz{α:Type}(sz:Nat):∀(n:Nat)(l:List α),n*sz<=l.length->(ip sz n l).length=n/\∀i r,(ip sz n l)[i]?=some r->r=(l.drop (i*sz)).take sz/\r.length=sz:=by
 intro n;induction n with
 |zero=>intro l _;exact⟨rfl,fun i r hi=>by simp[ip]at hi⟩
 |succ n ih=>
  intro l hl;have e1:(n+1)*sz=n*sz+sz:=cg n sz;obtain⟨h1,h2⟩:=ih (l.drop sz) (by simp;omega);refine⟨by simp[ip,h1],fun i r hi=>?_⟩;cases i with
  |zero=>
   obtain rfl:l.take sz=r:=by simpa[ip]using hi
   exact⟨by simp,by simp;omega⟩
  |succ i=>obtain⟨h3,h4⟩:=h2 i r (by simpa[ip]using hi);refine⟨?_,h4⟩;rw[h3,List.drop_drop];congr 2;rw[cg];omega
theorem nI{zc:Array Value}{z:List Value}{sz n:Nat}(hz:zc.toList=z)(hl:z.length=sz)(hpos:0<sz):
  ((Array.range n).map (fun i=>zc[i %zc.size]!)).toList=(dJ n).map fun i=>z.getD (i %sz) undef:=by
 simp only[Array.toList_map,Array.toList_range];apply List.map_congr_left;intro i _;have e1:zc.size=sz:=by rw[<-hl,<-hz];simp
 have hlt:i %sz<zc.size:=by rw[e1];exact Km _ hpos
 rw[e1,<-hz];have:i %sz<zc.toList.length:=by simpa using hlt
 simp[hlt]
theorem rU{t el:TypeId}{len n:Nat}{parts:Array (Nat×Operand)}{z:List Value}(ho:o.op=.buildSlice t len parts)(hu:P.underlying t=some (.slice el))
  (hs:dm P el=some (n+1)) (hz:fS P el=some z) (hlim:len*(n+1)<=4096/\z.length=n+1)
  (hI:Inv S K w0 Kn φ (ak H) w) (hn0:nxt<n'->¬Kn nxt) (hρ:∀x tv,L9 e x=some tv->dH S w Kn φ tv (ρ x))
  (h:bD call (.buildSlice (n+1) len ((dJ (len*(n+1))).map fun i=>z.getD (i %(n+1)) undef) (parts.toList.map (·.1))) ((parts.toList.map (·.2)).map (L9 e)) H nxt=some (v,u,aj,n')):
  bZ P o ρ S K w0 w Kn φ (ak H) nxt n' v u:=by
 generalize hzs:((dJ (len*(n+1))).map fun i=>z.getD (i %(n+1)) undef)=zs at h
 change (match cD ((parts.toList.map (·.2)).map (L9 e))with
  |some xs=>
   (match iL (db zs) (((parts.toList.map fun(p:Nat×Operand)=>p.1).map fun i=>(i*(n+1),n+1)).zip xs)with
   |some cs=>
    (match cm H cs with
    |some (ds,aj)=>(match b_ H aj aj with|some u=>some (TV.c (.da (n+1) nxt 0 len),(nxt,some (Ob.aB (n+1) (ip (n+1) len ds)))::u,aj,nxt+1)|none=>none)
    |none=>none)
   |none=>none)
  |none=>none)=_ at h
 split at h
 .rename_i xs hxs;split at h
  .rename_i cs hcs;split at h
   .rename_i ds ids' hv;split at h
    .rename_i u' hfz;obtain⟨rfl,rfl,rfl,rfl⟩:TV.c (.da (n+1) nxt 0 len)=v/\(nxt,some (Ob.aB (n+1) (ip (n+1) len ds)))::u'=u/\ids'=aj/\nxt+1=n':=by simpa using h
     have hn:=hn0 (aN _);obtain⟨hl,hr⟩:=ol hρ hxs;obtain⟨zv,hzr,hzl,hzp⟩:=jR hz w
     have hzp':∀x∈zs,cO x=true:=by
      intro x hx;rw[<-hzs]at hx;obtain⟨i,_,rfl⟩:=c8.1 hx;have hlt:i %(n+1)<z.length:=by rw[hlim.2];exact Km _ (bV _)
      have:z.getD (i %(n+1)) undef=z[i %(n+1)]:=by simp[List.getD,hlt]
      rw[this];exact hzp _ (List.getElem_mem hlt)
     have hzero:∃zc:Array Value,(len*(n+1)=0->zc= #[])/\(¬len*(n+1)=0->zc=zv.cells)/\
       ((Array.range (len*(n+1))).map (fun i=>zc[i %zc.size]!)).toList=zs:=by
      by_cases hc:len*(n+1)=0
      .refine ⟨#[],fun _=>rfl,fun h=>absurd hc h,?_⟩;rw[<-hzs,hc];simp
      .refine ⟨zv.cells,fun h=>absurd h hc,fun _=>rfl,?_⟩;rw[nI hzl hlim.2 (bV _),hzs]
     obtain⟨zc,hzc,hzc1,hzc2⟩:=hzero
     obtain⟨arr',h3,h4⟩:=q_ (S:=S) (w:=w) (Kn:=Kn) (φ:=φ) (ρ:=ρ) (fun i=>some (i*(n+1),n+1)) parts.toList _ xs (db zs) cs ((Array.range (len*(n+1))).map (fun i=>zc[i %zc.size]!))
      (by simp) (fun i p q hp hq=>by simp only[aC,hp,bB]at hq;exact hq) (by simpa using hl)
      (fun i p x hp hx=>hr i p.2 x (by simp only[aC,hp,bB]) hx) (by rw[hzc2];exact zw hzp') hcs
     obtain⟨h5,h6⟩:=uj h4
     have hcl:cs.length=len*(n+1):=by
      have:∀(l:List ((Nat×Nat)×TV))(a b:List C),iL a l=some b->b.length=a.length:=by
       intro l;induction l with
       |nil=>
        intro a b h;obtain rfl:a=b:=by simpa[iL]using h
        rfl
       |cons p l ih=>
        intro a b h;obtain⟨⟨off,m⟩,x⟩:=p;simp only[iL]at h;split at h
        .split at h
         .rename_i hb;rw[ih _ _ h,cQ _ _ _ (by omega)]
         .simp at h
        .simp at h
      rw[this _ _ _ hcs,<-hzs];simp[db]
     obtain⟨h7,h8⟩:=lq hI cs ds ids' hv (fun i=>arr'[i]?) (fun i c hi=>by
      have hlt:i<arr'.size:=by rw[<-h5];exact(af.1 hi).1
      exact⟨arr'.getD i undef,by simp[hlt],h6 i c hi⟩)
     obtain⟨h9,h10⟩:=yz (n+1) len ds (by omega);have hI1:=hI.x_ hfz
     have hrows:bG (SB S w φ (ak H) ids') w (n+1) (fun i=>arr'[i]?) 0 (ip (n+1) len ds):=by
      refine⟨fun i r hi=>(h10 i r hi).2,fun i r hi j x hj=>?_⟩;rw[(h10 i r hi).1,cN]at hj;split at hj
      .rw [bi]at hj;obtain⟨y,hy,hd⟩:=h8 _ x hj;exact⟨y,by rw[<-hy];simp,hd⟩
      .simp at hj
     have hD:=gI.aB (K:=K) (w0:=w0) hI1 hn (cap:=len) (aB:=arr') (sz:=n+1) el (bV n) (by omega) (by omega) hrows;rw[h9]at hD;refine⟨.value _,_,_,?_,.inl rfl,gI.from (u1:=u') (SB.nk _) rfl hD⟩;have h3':Instr.fill (fun i=>some (i*(n+1),n+1)) ((Array.range (len*(n+1))).map (fun i=>zc[i %zc.size]!)) (parts.map fun p=>(p.1,ρ p.2)).toList=some arr':=by rw[<-h3];simp
     have hlim':¬len*(n+1)>2^24:=by have:=hlim.1;omega
     simp only[execOp,ho,Sem.run_bind,Instr.buildSlice,bo hu,Result.andThen_ok,eF hs,if_neg hlim'];by_cases hc:len*(n+1)=0
     .rw [hzc hc]at h3';simp only[if_pos hc,Sem.run_bind,Sem.run_pure,Result.andThen_ok,h3',newRow,run_newObj]
     .rw [hzc1 hc]at h3';simp only[if_neg hc,Sem.run_bind,hzr,Sem.run_pure,Result.andThen_ok,h3',newRow,run_newObj]
    .simp at h
   .simp at h
  .simp at h
 .simp at h
end
section
variable{P:Program}{S K:Nat->Prop}{w0 w:World}{Kn:Nat->Prop}{φ:Nat->d_}{H:aY}{e:fN}{ρ:Operand->Value}{o:Oper}{call:Call}
 {nxt n':Nat} {v:TV} {u:de} {aj:List Nat}
theorem mr{el:TypeId}(h:jH P el=true):∃i,P.info? el=some i/\0<i.bytes/\i.bytes<=16384:=by
 unfold jH at h;split at h
 .rename_i i hi;simp only[Bool.and_eq_true,decide_eq_true_eq]at h;exact⟨i,hi,h.1,h.2⟩
 .simp at h
theorem nW{t el:TypeId}{n:Nat}{l c:Operand}{z:List Value}(ho:o.op=.makeSlice t l c)(hu:P.underlying t=some (.slice el))
  (hs:dm P el=some (n+1)) (hz:fS P el=some z) (hzl:z.length=n+1) (hb:jH P el=true)
  (hI:Inv S K w0 Kn φ (ak H) w) (hn0:nxt<n'->¬Kn nxt) {tl tc:Option TV} (hl:∀y,tl=some y->dH S w Kn φ y (ρ l)) (hc:∀y,tc=some y->dH S w Kn φ y (ρ c))
  (h:bD call (.makeSlice z) [tl,tc] H nxt=some (v,u,aj,n')):bZ P o ρ S K w0 w Kn φ (ak H) nxt n' v u:=by
 change (match bC tl,bC tc with
  |some l,some c=>if 0<=l/\l<=c/\c<=vO then some (TV.c (.da z.length nxt 0 l.toNat),[(nxt,some (Ob.aB z.length (au l.toNat (bO z))))],([]:List Nat),nxt+1)else none
  |_,_=>none)=_ at h
 split at h
 .rename_i a b ha hb';split at h
  .rename_i hle;obtain⟨h0,h1,h2⟩:=hle;obtain⟨rfl,rfl,rfl,rfl⟩:TV.c (.da z.length nxt 0 a.toNat)=v/\[(nxt,some (Ob.aB z.length (au a.toNat (bO z))))]=u/\[]=aj/\nxt+1=n':=by simpa using h
   have hn:=hn0 (aN _);obtain⟨k1,hk1⟩:=fD ha hl;obtain⟨k2,hk2⟩:=fD hb' hc;obtain⟨i,hi,hby0,hby⟩:=mr hb;obtain⟨zv,hzr,hzv,hzp⟩:=jR hz w;simp only[vO]at h2;have hwa:IntKind.i64.wrap a=a:=YL h0 (by omega);have hwb:IntKind.i64.wrap b=b:=YL (by omega) (by omega);have hmul:(i.bytes:Int)*b<=16384*2147483648:=Int.mul_le_mul (by omega) (by omega) (by omega) (by omega);have hsz:(z.length)=zv.cells.size:=by rw[<-hzv];simp
   let aB:Array Value:=(Array.range (b.toNat*(n+1))).map (fun i=>zv.cells[i %zv.cells.size]!);have harr:aB.toList=(dJ (b.toNat*(n+1))).map fun i=>z.getD (i %(n+1)) undef:=nI hzv hzl (bV _);have hsize:aB.size=b.toNat*(n+1):=by simp[aB]
   have hrows:bG S w (n+1) (fun i=>aB[i]?) 0 (au a.toNat (bO z)):=by
    refine⟨fun i r hi=>?_,fun i r hi j x hj=>?_⟩
    .obtain ⟨_,rfl⟩:i<a.toNat/\bO z=r:=by
      rw[bY]at hi;split at hi
      .rename_i hlt;exact⟨hlt,aa hi⟩
      .simp at hi
     simp[bO,hzl]
    .obtain ⟨hlt,rfl⟩:i<a.toNat/\bO z=r:=by
      rw[bY]at hi;split at hi
      .rename_i hlt;exact⟨hlt,aa hi⟩
      .simp at hi
     simp only[bO,aC]at hj;obtain⟨y,hy,rfl⟩:=aA.1 hj;have hjl:j<n+1:=by rw[<-hzl];exact(af.1 hy).1
     refine⟨y,?_,.lit (hzp y (aS hy))⟩;have hidx:i*(n+1)+j<b.toNat*(n+1):=by have:(i+1)*(n+1)<=b.toNat*(n+1):=aw _ (by omega);rw[cg]at this;omega
     show aB[0+i*(n+1)+j]?=some y;rw[<-aQ,harr,bl,aC,fR hidx];have e1:(i*(n+1)+j) %(n+1)=j:=by rw[Nat.add_comm,Nat.add_mul_mod_self_right];exact Nat.mod_eq_of_lt hjl
     simp[e1,List.getD,hy]
   have hD:=gI.aB (K:=K) (w0:=w0) hI hn (cap:=b.toNat) (aB:=aB) el (bV n) (by simp;omega) (by rw[hsize];exact ai _) hrows;rw[bW]at hD;rw[hzl];refine⟨.value (.slice (some ⟨w.heap.size,0,none⟩) a.toNat b.toNat),_,_,?_,.inl rfl,hD⟩;have hinfo:∀w:World,(typeInfo el).run P w=.ok i w:=fun w=>by simp[typeInfo,hi]
   have harr0:∀zc:Array Value,(b.toNat*(n+1)=0->zc= #[])->(¬b.toNat*(n+1)=0->zc=zv.cells)->((Array.range (b.toNat*(n+1))).map (fun i=>zc[i %zc.size]!))=aB:=by
    intro zc h1 h2;by_cases hc0:b.toNat*(n+1)=0
    .apply Array.ext';rw[harr,hc0];simp
    .rw [h2 hc0]
   have hnl:¬(decide (b<0)||decide ((i.bytes:Int)*b>2^48))=true:=by simp only[dE,decide_eq_true_eq,not_or];constructor<;>omega
   simp only[execOp,ho,Sem.run_bind,Instr.makeSlice,bo hu,Result.andThen_ok,oP hk1,oP hk2,hinfo,hwa,hwb];rw[Sem.run_ite,if_neg (by simp only[dE,decide_eq_true_eq];simp only[dE,decide_eq_true_eq]at hnl;omega)];simp only[Sem.run_pure,Result.andThen_ok,Sem.run_bind,run_askRoom,eF hs];by_cases hc0:b.toNat*(n+1)=0
   .have:=harr0 #[] (fun _=>rfl) (fun h=>absurd hc0 h);simp only[if_pos hc0,Sem.run_bind,Sem.run_pure,Result.andThen_ok,newRow,run_newObj,this]
   .have:=harr0 zv.cells (fun h=>absurd h hc0) (fun _=>rfl);simp only[if_neg hc0,Sem.run_bind,hzr,Sem.run_pure,Result.andThen_ok,newRow,run_newObj,this]
  .simp at h
 .simp at h
theorem B_{t el:TypeId}{n m:Nat}{l c:Operand}{z:List Value}(ho:o.op=.makeSlice t l c)(hu:P.underlying t=some (.slice el))
  (hs:dm P el=some (n+1)) (hz:fS P el=some z) (hzl:z.length=n+1) (hb:jH P el=true) (hz1:x7 z=true) (hm:0<m)
  (hI:Inv S K w0 Kn φ (ak H) w) (hn0:nxt<n'->¬Kn nxt) {tl tc:Option TV} (hl:∀y,tl=some y->dH S w Kn φ y (ρ l)) (hc:∀y,tc=some y->dH S w Kn φ y (ρ c))
  (h:bD call (.sM m) [tl,tc] H nxt=some (v,u,aj,n')):bZ P o ρ S K w0 w Kn φ (ak H) nxt n' v u:=by
 obtain rfl:z=[.slice none 0 0]:=by
  unfold x7 at hz1;split at hz1
  .rfl
  .simp at hz1
 change (match bC tl,bC tc with
  |some l,some c=>if 0<=l/\l<=c/\c<=vO then some (TV.c (.da 1 nxt 0 l.toNat),[(nxt,some (Ob.nst m (au l.toNat .nil)))],([]:List Nat),nxt+1)else none
  |_,_=>none)=_ at h
 split at h
 .rename_i a b ha hb';split at h
  .rename_i hle;obtain⟨rfl,rfl,rfl,rfl⟩:TV.c (.da 1 nxt 0 a.toNat)=v/\[(nxt,some (Ob.nst m (au a.toNat .nil)))]=u/\[]=aj/\nxt+1=n':=by simpa using h
   have hev:bD call (.makeSlice [.slice none 0 0]) [tl,tc] H nxt=some (TV.c (.da 1 nxt 0 a.toNat),[(nxt,some (Ob.aB 1 (au a.toNat (bO [.slice none 0 0]))))],[],nxt+1):=by
    show(match bC tl,bC tc with
     |some l,some c=>if 0<=l/\l<=c/\c<=vO then some (TV.c (.da ([.slice none 0 0]:List Value).length nxt 0 l.toNat),[(nxt,some (Ob.aB ([.slice none 0 0]:List Value).length (au l.toNat (bO [.slice none 0 0]))))],([]:List Nat),nxt+1)else none
     |_,_=>none)=_
    rw[ha,hb'];show(if 0<=a/\a<=b/\b<=vO then _ else _)=_;rw[if_pos hle];rfl
   obtain⟨nx,val,w',h1,h2,h3,S',φ',h4,h5,h6,h7⟩:=nW ho hu hs hz hzl hb hI hn0 hl hc hev;refine⟨nx,val,w',h1,h2,h3,S',φ',h4,h5,h6,?_⟩;have e1:aU [(nxt,some (Ob.aB 1 (au a.toNat (bO [.slice none 0 0]))))] (ak H) nxt=some (.aB 1 (au a.toNat (bO [.slice none 0 0]))):=by rw[bk,if_pos rfl]
   obtain⟨_,hro⟩:=h7.fh nxt _ e1
   have h8:=h7.IY (o':=.nst m (au a.toNat .nil)) e1 rfl (fun sz sl k rows e hk=>by
    cases e;rw[bY]at hk;split at hk<;>cases hk) (by
    cases hro with
    |aB hsz hl hS hK hown hext hfit hrr hv=>
     rw[bW]at hv hfit;refine .nst hm hl hS hK hown hext (by rw[bW];omega) (fun i s hi=>?_) (by rw[bW];exact hv);rw[bY]at hi;split at hi
     .rename_i hlt;obtain rfl:=aa hi;obtain⟨v,q1,q2⟩:=hrr.2 i (bO [.slice none 0 0]) (by rw[bY,if_pos hlt]) 0 _ rfl;cases q2 with|lit _=>exact⟨_,by rw[<-q1];simp,.nil⟩
     .cases hi)
   have e2:aU [(nxt,some (Ob.nst m (au a.toNat .nil)))] (aU [(nxt,some (Ob.aB 1 (au a.toNat (bO [.slice none 0 0]))))] (ak H))=aU [(nxt,some (Ob.nst m (au a.toNat .nil)))] (ak H):=by
    funext j;simp only[bk,dl];by_cases e:nxt=j
    .rw [if_pos e,if_pos e]
    .rw [if_neg e,if_neg e,if_neg e]
   rw[e2]at h8;exact h8
  .simp at h
 .simp at h
theorem CR.mono{S':Nat->Prop}{w':World}{Kn':Nat->Prop}{φ':Nat->d_}(hs:WJ S w S' w')(hr:mS Kn φ Kn' φ'){cs:List C}{vs:List Value}(h:CR S w Kn φ cs vs):CR S' w' Kn' φ' cs vs:=⟨h.1,fun i x y hx hy=>(h.2 i x y hx hy).mono hs hr⟩
theorem HJ{cs:List C}{aB:Array Value}(h1:cs.length=aB.size)(h2:∀(i:Nat)(x:C),cs[i]?=some x->RC S w Kn φ x (aB.getD i undef)):CR S w Kn φ cs aB.toList:=by
 refine⟨by simpa using h1,fun i x y hx hy=>?_⟩;have:=h2 i x hx;rw[aQ]at hy;have e1:aB.getD i undef=y:=by simp[hy]
 rwa[e1]at this
theorem Mx{b o n:Nat}{aB:Array Value}{vs:List Value}(ho:ju w b aB)(hn:vs.length=n):
  ju (w.setRow b (aB.toList.take o++vs++aB.toList.drop (o+n)).toArray) b (aM aB.toList o vs).toArray/\
  (∀c,c≠b->(w.setRow b (aB.toList.take o++vs++aB.toList.drop (o+n)).toArray).heap[c]?=w.heap[c]?)/\
  (w.setRow b (aB.toList.take o++vs++aB.toList.drop (o+n)).toArray).heap.size=w.heap.size/\
  (∀a,(w.setRow b (aB.toList.take o++vs++aB.toList.drop (o+n)).toArray).frozen? a=w.frozen? a)/\
  (o+n<=aB.size->∀arr1,ju w b arr1->∃arr',ju (w.setRow b (aB.toList.take o++vs++aB.toList.drop (o+n)).toArray) b arr'/\arr'.size=arr1.size):=by
 rw[Gy hn];refine⟨qF ho,fun c hc=>setRow_other w b c _ hc,by simp,rY ho,fun hle arr1 h1=>⟨_,qF ho,?_⟩⟩;obtain⟨t1,h1⟩:=h1;obtain⟨t2,h2⟩:=ho;rw[h1]at h2;obtain rfl:arr1=aB:=by simp at h2;exact h2.1
 simp only[eM];rw[cQ _ _ _ (by simp;omega)];simp
theorem Inv.uA{hf hf':Nat->Option Ob}{S':Nat->Prop}{w':World}(_:Inv S K w0 Kn φ hf w)(hs:WJ S w S' w')(hI:Inv S' K w0 Kn φ hf' w'){u:de}{n:Nat}(he:hf'=aU u hf):
  gI S K w0 w Kn φ hf n n (.fm []) u undef w':=
 ⟨ai _,S',φ,hs,kq _ _,.fm rfl (fun i x hi=>by simp at hi),he▸hI.kn fun _ h=>.inl h⟩
theorem u6{sz aF cU off:Nat}{rows:List (List D)}{r ds:List D}{aB:Array Value}{vs:List Value}(h:bG S w sz (fun i=>aB[i]?) aF rows)(hrow:rows[cU]?=some r)
  (hfit:off+ds.length<=r.length) (hl:ds.length=vs.length) (hd:∀(i:Nat)(x:D),ds[i]?=some x->∃y,vs[i]?=some y/\RD S w x y) (hsz:aF+rows.length*sz<=aB.size):
  bG S w sz (fun i=>(aM aB.toList (aF+cU*sz+off) vs).toArray[i]?) aF (rows.set cU (aM r off ds)):=by
 have hrl:=h.1 cU r hrow;have hlt:cU<rows.length:=(af.1 hrow).1;have hmul:(cU+1)*sz<=rows.length*sz:=aw _ (by omega);rw[cg]at hmul;have hget:∀k,(aM aB.toList (aF+cU*sz+off) vs).toArray[k]?=if k<aF+cU*sz+off then aB[k]?else if k<aF+cU*sz+off+vs.length then vs[k-(aF+cU*sz+off)]?else aB[k]?:=by intro k;rw[<-aQ];show(aM aB.toList _ vs)[k]?=_;rw[fH _ _ _ (by simp;omega)];simp only[aQ]
 have hsetr:∀i q,(rows.set cU (aM r off ds))[i]?=some q->(i=cU/\q=aM r off ds)\/(i≠cU/\rows[i]?=some q):=by
  intro i q hi;by_cases e1:i=cU
  .subst e1;rw[gp hlt]at hi;exact .inl ⟨rfl,(aa hi).symm⟩
  .rw [List.getElem?_set_ne (fun e=>e1 e.symm)]at hi;exact .inr ⟨e1,hi⟩
 refine⟨fun i q hi=>?_,fun i q hi j z hj=>?_⟩
 .rcases hsetr i q hi with⟨rfl,rfl⟩|⟨_,h1⟩
  .rw [cQ _ _ _ hfit];exact hrl
  .exact h.1 i q h1
 .simp only[hget];rcases hsetr i q hi with⟨rfl,rfl⟩|⟨hne,h1⟩
  .rw [fH _ _ _ hfit]at hj;by_cases c1:j<off
   .rw [if_pos c1]at hj;rw[if_pos (by omega)];exact h.2 i r hrow j z hj
   .rw [if_neg c1]at hj;by_cases c2:j<off+ds.length
    .rw [if_pos c2]at hj;obtain⟨y,hy,hr⟩:=hd _ z hj;rw[if_neg (by omega),if_pos (by omega)];refine⟨y,?_,hr⟩;rw[<-hy];congr 1;omega
    .rw [if_neg c2]at hj;rw[if_neg (by omega),if_neg (by omega)];exact h.2 i r hrow j z hj
  .have hjl:j<sz:=by rw[<-h.1 i q h1];exact(af.1 hj).1
   have hout:aF+i*sz+j<aF+cU*sz+off\/aF+cU*sz+off+vs.length<=aF+i*sz+j:=by
    rcases Nat.lt_or_gt_of_ne hne with hlt2|hgt
    .have:(i+1)*sz<=cU*sz:=aw _ (by omega);rw[cg]at this;omega
    .have:(cU+1)*sz<=i*sz:=aw _ (by omega);rw[cg]at this;omega
   rcases hout with c|c
   .rw [if_pos c];exact h.2 i q h1 j z hj
   .rw [if_neg (by omega),if_neg (by omega)];exact h.2 i q h1 j z hj
theorem Ef{α:Type}{l:List α}{o:Nat}{v:α}(h:o<l.length):aM l o [v]=l.set o v:=by rw[List.set_eq_take_append_cons_drop,if_pos h];simp[aM]
theorem Ey{id cU sz:Nat}{slots:List gH}{cs:List C}{vs:List Value}{u:de}{aj:List Nat}{aB:Array Value}(hI:Inv S K w0 Kn φ (ak H) w)(hob:ak H id=some (.nst sz slots))(hrow:cU<slots.length)
  (hcr:CR S w Kn φ cs vs) (hlen:cs.length=1) (hown:ju w (φ id).bH aB) (hfit:(φ id).aF+cU<aB.size) (h:lK id cU sz slots cs H=some (u,aj)):
  WJ S w S (w.setRow (φ id).bH (aB.toList.take ((φ id).aF+cU)++vs++aB.toList.drop ((φ id).aF+cU+1)).toArray)/\
   Inv S K w0 Kn φ (aU u (ak H)) (w.setRow (φ id).bH (aB.toList.take ((φ id).aF+cU)++vs++aB.toList.drop ((φ id).aF+cU+1)).toArray):=by
 have hvl:vs.length=1:=by rw[<-hcr.1];exact hlen
 obtain⟨p1,p2,p3,p4,_⟩:=Mx (w:=w) (b:=(φ id).bH) (o:=(φ id).aF+cU) (n:=1) (vs:=vs) hown hvl;have hio:Io w (w.setRow (φ id).bH (aB.toList.take ((φ id).aF+cU)++vs++aB.toList.drop ((φ id).aF+cU+1)).toArray):=⟨rfl,rfl,rfl,ai _⟩
 generalize w.setRow (φ id).bH (aB.toList.take ((φ id).aF+cU)++vs++aB.toList.drop ((φ id).aF+cU+1)).toArray=w' at*
 obtain⟨x,rfl⟩:∃x,vs=[x]:=by
  match vs,hvl with|[x],_=>exact⟨x,rfl⟩
 rw[Ef (by simpa using hfit)]at p1
 have key:∀s',(WJ S w S w'->rH S K w' Kn φ sz s' x)->(∀rows,s'≠.aW rows)->WJ S w S w'/\Inv S K w0 Kn φ (aU [(id,some (.nst sz (slots.set cU s')))] (ak H)) w':=fun s' h1 h2=>
  hI.Ja hob hown p1 (by simp) p2 p3 p4 hio (fun i hi=>by
   rw[bE,List.getElem?_set_ne (by omega),aQ]) (fun _=>by
   rw[bE,gp (by simpa using hfit)]) h1 h2
 unfold lK at h;split at h
 .obtain ⟨rfl,rfl⟩:[(id,some (Ob.nst sz (slots.set cU .nil)))]=u/\[id]=aj:=by simpa using h
  have hx:=hcr.2 0 _ x rfl rfl;cases hx with
  |d hd=>cases hd with|lit _=>exact key .nil (fun _=>.nil) (fun _ e=>by cases e)
 .rename_i sz' id2 len;split at h
  .rename_i sz2 rows h2;split at h
   .rename_i hc;obtain⟨rfl,rfl,hne⟩:=hc;obtain⟨rfl,rfl⟩:[(id,some (Ob.nst sz' (slots.set cU (.aW rows)))),(id2,none)]=u/\[id,id2]=aj:=by simpa using h
    obtain⟨q1,q2⟩:=key (.ku id2 rows.length) (fun hs=>.ku ((hcr.2 0 _ x rfl rfl).mono hs (mS.refl _ _))) (fun _ e=>by cases e);refine⟨q1,?_⟩;have e1:aU [(id,some (Ob.nst sz' (slots.set cU (.ku id2 rows.length))))] (ak H) id=some (.nst sz' (slots.set cU (.ku id2 rows.length))):=by rw[bk,if_pos rfl]
    have e2:aU [(id,some (Ob.nst sz' (slots.set cU (.ku id2 rows.length))))] (ak H) id2=some (.aB sz2 rows):=by rw[bk,if_neg (fun e=>hne e.symm),dl,h2]
    have q3:=q2.DP e1 (gp hrow) e2;rw[List.set_set]at q3
    have e3:aU [(id,some (Ob.nst sz' (slots.set cU (.aW rows)))),(id2,none)] (aU [(id,some (Ob.nst sz' (slots.set cU (.ku id2 rows.length))))] (ak H))=aU [(id,some (Ob.nst sz' (slots.set cU (.aW rows)))),(id2,none)] (ak H):=by
     funext j;simp only[bk,dl];by_cases e:id=j
     .rw [if_pos e,if_pos e]
     .rw [if_neg e,if_neg e,if_neg e]
    rw[e3]at q3;exact q3
   .simp at h
  .simp at h
 .simp at h
theorem B9{t:TypeId}{n:Nat}{a x:Operand}(ho:o.op=.store t a x)(hs:dm P t=some n)(hI:Inv S K w0 Kn φ (ak H) w)
  {ta tx:Option TV} (ha:∀y,ta=some y->dH S w Kn φ y (ρ a)) (hx:∀y,tx=some y->dH S w Kn φ y (ρ x))
  (h:bD call (.store n) [ta,tx] H nxt=some (v,u,aj,n')):bZ P o ρ S K w0 w Kn φ (ak H) nxt n' v u:=by
 match ta,tx,h,ha,hx with
 |some (.c p),some tv,h,ha,hx=>
  change (match ia n p tv H with|some (u,aj)=>some (TV.fm [],u,aj,nxt)|none=>none)=_ at h;split at h
  .rename_i u' ids' c9;obtain⟨rfl,rfl,rfl,rfl⟩:TV.fm []=v/\u'=u/\ids'=aj/\nxt=n':=by simpa using h
   unfold ia at c9;split at c9
   .simp at c9
   .rename_i cs hcs;split at c9
    .rename_i hlen;have hcr:=(hx _ rfl).cr hcs;obtain⟨_,_,hone⟩:=(hx _ rfl).cells hcs;have hvl:(ρ x).cells.size=n:=by have:=hcr.1;simp at this;omega
     have hr:=ha _ rfl;generalize hv0:ρ a=val at hr
     have run:∀b off aB,val=.pointer (some ⟨b,off,none⟩)->ju w b aB->off+n<=aB.size->
       (execOp ρ o).run P w=.ok .skip (w.setRow b (aB.toList.take off++(ρ x).cells.toList++aB.toList.drop (off+n)).toArray):=by
      intro b off aB hv hown hfit;simp[execOp,ho,hv0,hv,Instr.storeAt,Instr.sureAddr,Ei hs hown hvl hfit hone]
     cases hr with
     |c hr=>
     split at c9
     .rename_i id cU off;split at c9
      .rename_i sz rows hob;split at c9
       .rename_i r ds ids1 hrow hvw;split at c9
        .rename_i u1 hfz;split at c9
         .rename_i hb;obtain⟨hb1,hb2⟩:=hb;obtain⟨rfl,rfl⟩:(id,some (Ob.aB sz (rows.set cU (aM r off ds))))::u1=u'/\id::ids1=ids':=by simpa using c9
          have hnm:id∉ids1:=by simpa using hb2
          obtain⟨hdl,hds⟩:=lq hI cs ds ids1 hvw (fun i=>(ρ x).cells.toList[i]?) (fun i c hi=>by
           have hlt:i<(ρ x).cells.toList.length:=by rw[<-hcr.1];exact(af.1 hi).1
           exact⟨_,ap hlt,hcr.2 i c _ hi (ap hlt)⟩)
          have hI1:=hI.x_ hfz;have hob1:aU u1 (ak H) id=some (.aB sz rows):=by simp only[aU,(gO ids1 u1 hfz id).2 hnm,hob]
          obtain⟨hk,h0⟩:=hI1.fh _ _ hob1;generalize hphi:φ id=l at*;cases h0 with
          |@aB _ _ aB hsz hl hS hK hown hext hfit hrr hvis=>
           cases hr with
           |ep hk'=>
            rw[hphi]at run;subst hl;have hrl:=hrr.1 cU r hrow;have hrowlt:cU<rows.length:=(af.1 hrow).1;have hmul:(cU+1)*l.sz<=rows.length*l.sz:=aw _ (by omega);rw[cg]at hmul;have hfit2:l.aF+cU*l.sz+off+n<=aB.size:=by rw[hext];omega
            obtain⟨p1,p2,p3,p4,p5⟩:=Mx (w:=w) (b:=l.bH) (o:=l.aF+cU*l.sz+off) (n:=n) (vs:=(ρ x).cells.toList) hown (by simpa using hvl);have hset:=hI1.set (o':=.aB l.sz (rows.set cU (aM r off ds))) hob1 rfl (by rw[hphi];exact p2) p3 p4 (by rw[hphi];exact p5 hfit2) ⟨rfl,rfl,rfl,ai _⟩ (fun c9=>by rw[hphi];have h5:=(u6 (off:=off) (vs:=(ρ x).cells.toList) hrr hrow (by omega) (by rw[hdl];exact hcr.1) hds (by omega)).mono c9;exact .aB hsz rfl hS hK p1 (by simp only[eM];rw[cQ _ _ _ (by simp;omega)];simpa using hext) (by simpa using hfit) h5 (by simpa using hvis));refine⟨.skip,undef,_,run _ _ _ rfl hown hfit2,.inr ⟨rfl,rfl⟩,hI.uA ((SB.nk ids1).trans hset.1) hset.2 ?_⟩;rw[<-cF];rfl
         .simp at c9
        .simp at c9
       .simp at c9
      .rename_i sz slots hob;split at c9
       .rename_i hc;obtain⟨rfl,rfl,hrow⟩:=hc;obtain⟨hk,h0⟩:=hI.fh _ _ hob;cases h0 with
        |@nst _ _ aB hsz hl hS hK hown hext hfit hrr hvis=>cases hr with|ep hk'=>obtain⟨q1,q2⟩:=Ey hI hob hrow hcr hlen hown (by omega) c9;have hrun:=run (φ id).bH ((φ id).aF+cU*(φ id).sz+0) aB rfl hown (by rw[hl];omega);rw[hl,gQ,ci]at hrun;refine⟨.skip,undef,_,hrun,.inr ⟨rfl,rfl⟩,hI.uA q1 q2 rfl⟩
       .simp at c9
      .simp at c9
     .rename_i id off;split at c9
      .rename_i cells hob;split at c9
       .rename_i hb;obtain⟨rfl,rfl⟩:[(id,some (Ob.box (aM cells off cs)))]=u'/\[id]=ids':=by simpa using c9
        obtain⟨hk,h0⟩:=hI.fh _ _ hob;generalize hphi:φ id=l at*;cases h0 with
        |@box _ aB hbase hS hK hown hlen2 hrr=>cases hr with|op hk'=>rw[hphi,hbase,bl]at run;obtain⟨p1,p2,p3,p4,p5⟩:=Mx (w:=w) (b:=l.bH) (o:=off) (n:=n) (vs:=(ρ x).cells.toList) hown (by simpa using hvl);have hset:=hI.set (o':=.box (aM cells off cs)) hob rfl (by rw[hphi];exact p2) p3 p4 (by rw[hphi];exact p5 (by omega)) ⟨rfl,rfl,rfl,ai _⟩ (fun c9=>by rw[hphi];have h5:=((HJ hlen2 hrr).aM hcr off (by omega)).mono c9 (mS.refl _ _);obtain⟨h6,h7⟩:=uj (aB:=(aM aB.toList off (ρ x).cells.toList).toArray) (by rw[List.toList_toArray];exact h5);exact .box hbase hS hK p1 h6 h7);exact⟨.skip,undef,_,run _ _ _ rfl hown (by omega),.inr ⟨rfl,rfl⟩,hI.uA hset.1 hset.2 rfl⟩
       .simp at c9
      .simp at c9
     .simp at c9
    .simp at c9
  .simp at h
end
section
variable{P:Program}{S K:Nat->Prop}{w0 w:World}{Kn:Nat->Prop}{φ:Nat->d_}{H:aY}{e:fN}{ρ:Operand->Value}{o:Oper}{call:Call}
 {nxt n':Nat} {v:TV} {u:de} {aj:List Nat}
theorem kX{sz b addr:Nat}{rows:List (List D)}(hsz:0<sz)(h:bG S w sz (fun i=>w.cell? ⟨b,i,none⟩) addr rows):
  ∃aB,(∀w':World,w'.heap=w.heap->(loadCells ⟨b,addr,none⟩ (rows.length*sz)).run P w'=.ok aB w')/\aB.size=rows.length*sz/\bG S w sz (fun i=>aB[i]?) 0 rows/\∀x∈aB.toList,one x=true:=by
 have hcell:∀k,k<rows.length*sz->∃y,w.cell? ⟨b,addr+k,none⟩=some y/\one y=true:=by
  intro k hk;have h1:k/sz<rows.length:=Nat.div_lt_of_lt_mul (by rw[gm];exact hk);have h2:=h.1 (k/sz) rows[k/sz] (ap h1);have h3:k %sz<rows[k/sz].length:=by rw[h2];exact Km _ hsz
  obtain⟨y,hy,hr⟩:=h.2 (k/sz) rows[k/sz] (ap h1) (k %sz) _ (ap h3);refine⟨y,?_,hr.one⟩;rw[<-hy];have:=Nat.div_add_mod k sz;rw[gm]at this;show w.cell? ⟨b,addr+k,none⟩=w.cell? ⟨b,addr+k/sz*sz+k %sz,none⟩;congr 2;omega
 refine⟨((dJ (rows.length*sz)).map fun j=>(w.cell? ⟨b,addr+j,none⟩).getD undef).toArray,fun w' hw=>run_loadCells w' ⟨b,addr,none⟩ _ (fun j=>(w.cell? ⟨b,addr+j,none⟩).getD undef) fun j hj=>?_,by simp,
  ⟨h.1,fun i r hi j x hj=>?_⟩,fun x hx=>?_⟩
 .obtain ⟨y,hy,_⟩:=hcell j hj;have:w'.cell? ⟨b,addr+j,none⟩=w.cell? ⟨b,addr+j,none⟩:=by unfold World.cell?;rw[hw]
  rw[kc,this,hy];rfl
 .obtain ⟨y,hy,hr⟩:=h.2 i r hi j x hj;refine⟨y,?_,hr⟩;have hil:i<rows.length:=(af.1 hi).1;have hjl:j<sz:=by rw[<-h.1 i r hi];exact(af.1 hj).1
  have hm:(i+1)*sz<=rows.length*sz:=aw _ hil;rw[cg]at hm;simp only at hy;have hlt:0+i*sz+j<rows.length*sz:=by omega
  have e1:addr+(0+i*sz+j)=addr+i*sz+j:=by omega
  show(((dJ (rows.length*sz)).map fun j=>(w.cell? ⟨b,addr+j,none⟩).getD undef).toArray)[0+i*sz+j]?=some y;rw[<-aQ,aC,fR hlt];simp only[bB,e1,hy,di]
 .simp only[c8,List.mem_range]at hx;obtain⟨k,hk,rfl⟩:=hx;obtain⟨y,hy,h1⟩:=hcell k hk;rw[hy];exact h1
def DW(P:Program)(S:Nat->Prop)(w:World)(sz:Nat)(xv:Value)(new:List (List D))(aB:Array Value):Prop:=
 (∀w':World,w'.heap=w.heap->(Builtin.lenOf xv).run P w'=.ok new.length w'/\(Builtin.firstCells sz new.length xv).run P w'=.ok aB w')/\
 aB.size=new.length*sz/\bG S w sz (fun i=>aB[i]?) 0 new/\∀x∈aB.toList,one x=true
theorem sV{sz b addr len cap:Nat}{new:List (List D)}(hsz:0<sz)(hl:new.length=len)(h:bG S w sz (fun i=>w.cell? ⟨b,i,none⟩) addr new):
  ∃aB,DW P S w sz (.slice (some ⟨b,addr,none⟩) len cap) new aB:=by
 subst hl;obtain⟨aB,h1,h2,h3,h4⟩:=kX (P:=P) hsz h;exact⟨aB,fun w' hw=>⟨rfl,h1 w' hw⟩,h2,h3,h4⟩
theorem xo{sz:Nat}{x:C}{xv:Value}{new:List (List D)}(hsz:0<sz)(hI:Inv S K w0 Kn φ (ak H) w)(hr:RC S w Kn φ x xv)(h:fz sz H x=some (new,aj)):
  ∃aB,DW P S w sz xv new aB:=by
 unfold fz at h;split at h
 .obtain ⟨rfl,rfl⟩:[]=new/\[]=aj:=by simpa using h
  cases hr with
  |d hd=>cases hd with|lit hp=>exact⟨#[],fun w' _=>⟨rfl,rfl⟩,by simp,⟨fun i r hi=>by simp at hi,fun i r hi=>by simp at hi⟩,fun x hx=>by simp at hx⟩
 .rename_i sz' rows;split at h
  .rename_i e1;subst e1;obtain⟨rfl,rfl⟩:rows=new/\[]=aj:=by simpa using h
   cases hr with
   |d hd=>cases hd with
    |sl f hb hsz0 hcap hrow hcell hrd=>exact sV hsz rfl ⟨hrow,fun i r hi j x hj=>⟨_,hcell i r hi j x hj,hrd i r hi j x hj⟩⟩
    |mD hsz0=>exact⟨#[],fun w' _=>⟨rfl,by
      have h0:([]:List (List D)).length*sz'=0:=by simp
      simp only[Builtin.firstCells,h0];rfl⟩,by simp,⟨fun i r hi=>by simp at hi,fun i r hi=>by simp at hi⟩,fun x hx=>by simp at hx⟩
  .simp at h
 .rename_i sz' id off len
  have key:∀szo rows,(ak H id=some (.aB szo rows)\/ak H id=some (.ML szo rows))->(if sz'=sz/\off+len<=rows.length then some ((rows.drop off).take len,[id])else none)=some (new,aj)->
    ∃aB,DW P S w sz xv new aB:=by
   intro szo rows ho hq;split at hq
   .rename_i hb;obtain⟨e1,hle⟩:=hb;subst e1;obtain⟨rfl,rfl⟩:=ad (aa hq);obtain⟨hsz1,hl,hR⟩:=iZ hI ho;subst hl;cases hr with|da hk hcap haddr hext=>exact sV hsz1 (by simp;omega) (hR.pH off len fun h=>haddr (by omega))
   .simp at hq
  split at h
  .exact key _ _ (.inl (by assumption)) h
  .exact key _ _ (.inr (by assumption)) h
  .simp at h
 .simp at h
theorem EX(need:Nat)(c:Nat):Builtin.growBy need 4 c<=3*c+3072:=by
 simp only[Builtin.growBy]
 repeat' split
 all_goals omega
theorem Cj{need cap:Nat}(h1:need<=2147483648)(h2:cap<need):Builtin.nextslicecap need cap<=6442454016:=by
 unfold Builtin.nextslicecap;split
 .omega
 .split
  .omega
  .have:=EX need cap;omega
theorem Inv.FK{hf:Nat->Option Ob}{w':World}{b:Nat}(h:Inv S K w0 Kn φ hf w)(hS:¬S b)(hK:¬K b)(hfree:∀i o,hf i=some o->bF o=true->b∉adh w φ hf i)
  (hother:∀c,c≠b->w'.heap[c]?=w.heap[c]?) (hsize:w'.heap.size=w.heap.size) (hfrz:∀a,w'.frozen? a=w.frozen? a)
  (hsz:∀aB,ju w b aB->∃arr',ju w' b arr'/\arr'.size=aB.size) (hio:Io w w'):WJ S w S w'/\Inv S K w0 Kn φ hf w':=by
 have hs:WJ S w S w':=⟨fun _ h=>h,fun c hc=>hother c (fun e=>hS (e▸hc))⟩
 refine⟨hs,h.jQ hs (mS.refl _ _) (fun c hc=>hsize▸h.nM c hc) h.sk ⟨h.iT.xX,fun c hc=>(hother c (fun e=>hK (e▸hc))).trans (h.iT.ik c hc),hsize▸h.iT.grow,fun a ha=>(hfrz a).trans (h.iT.sO a ha),h.iT.qE hother hsz,h.iT.io.trans hio⟩ ?_ h.jq fun id sz sl hi=>⟨hi,hother _ fun e=>hfree id _ hi rfl (e▸gE id),fun k x hp=>⟨hother x fun e=>hfree id _ hi rfl (cu.2 (.inr ⟨sz,sl,k,hi,e▸hp⟩)),(h.Ai hi hp).1,(h.pw id sz sl k x hi hp).1⟩⟩⟩;intro id o ho;exact .inl ⟨ho,fun hown=>⟨hother _ fun e=>hfree id o ho hown (e▸gE id),((h.fh id o ho).2.aW hown).1⟩⟩
theorem s_{w':World}{hf:Nat->Option Ob}{i:Nat}(h:w'.heap[(φ i).bH]?=w.heap[(φ i).bH]?):adh w' φ hf i=adh w φ hf i:=by
 have key:∀(l:d_),w'.heap[l.bH]?=w.heap[l.bH]?->∀(sl:List gH)(k:Nat),lC w' l sl k=lC w l sl k:=by
  intro l hl sl;induction sl with
  |nil=>intro k;rfl
  |cons s sl ih=>intro k;cases s with|aW rows=>simp only[lC,ih,iq hl]|_=>exact ih (k+1)
 unfold adh;congr 1;split
 .exact key _ h _ _
 .rfl
theorem kp{sz aF:Nat}{a b:List (List D)}{get:Nat->Option Value}(h1:bG S w sz get aF a)(h2:bG S w sz get (aF+a.length*sz) b):bG S w sz get aF (a++b):=by
 have key:∀(i:Nat)(r:List D),(a++b)[i]?=some r->a[i]?=some r\/(a.length<=i/\b[i-a.length]?=some r):=by
  intro i r hi;by_cases hc:i<a.length
  .rw [List.getElem?_append_left hc]at hi;exact .inl hi
  .rw [List.getElem?_append_right (by omega)]at hi;exact .inr ⟨by omega,hi⟩
 refine⟨fun i r hi=>?_,fun i r hi j x hj=>?_⟩
 .rcases key i r hi with h|⟨_,h⟩
  .exact h1.1 i r h
  .exact h2.1 _ r h
 .rcases key i r hi with h|⟨hle,h⟩
  .exact h1.2 i r h j x hj
  .obtain ⟨y,hy,hr⟩:=h2.2 _ r h j x hj;refine⟨y,?_,hr⟩;rw[<-hy];congr 1;have:a.length*sz+(i-a.length)*sz=i*sz:=by rw[<-bf];congr 1;omega
   omega
theorem RC.gk{sz id off len:Nat}{v:Value}(h:RC S w Kn φ (.da sz id off len) v):∃cap addr,v=.slice (some ⟨(φ id).bH,addr,none⟩) len cap/\(φ id).sz=sz/\Kn id/\len<=cap/\
  (0<cap->addr=(φ id).aF+off*(φ id).sz)/\addr+cap*(φ id).sz<=(φ id).ext/\off+cap=(φ id).cap:=by
 cases h with|da hk hcap haddr hext hc=>exact⟨_,_,rfl,rfl,hk,hcap,haddr,hext,hc⟩
theorem Av{c:Go.Call}{s x:Operand}{st xt el el2:TypeId}{n:Nat}{z:List Value}(ho:o.op=.call c)(hcal:c.callee=.builtin .append)(hargs:c.args= #[s,x])(hts:c.argTypes= #[st,xt])
  (hus:P.underlying st=some (.slice el)) (hux:P.underlying xt=some (.slice el2)) (hsz:dm P el=some (n+1)) (hz:fS P el=some z) (hzl:z.length=n+1) (hby:jH P el=true)
  (hI:Inv S K w0 Kn φ (ak H) w) (hn0:nxt<n'->¬Kn nxt) {ta tx:Option TV} (ha:∀y,ta=some y->dH S w Kn φ y (ρ s)) (hx:∀y,tx=some y->dH S w Kn φ y (ρ x))
  (h:bD call (.append (n+1)) [ta,tx] H nxt=some (v,u,aj,n')):bZ P o ρ S K w0 w Kn φ (ak H) nxt n' v u:=by
 obtain⟨inf,hinf,hb0,hb1⟩:=mr hby;obtain⟨zv,hzr,hzv,_⟩:=jR hz w
 match ta,tx,h,ha,hx with
 |some (.c sc),some (.c xc),h,ha,hx=>
  change jj (n+1) sc xc H nxt=_ at h;unfold jj at h;split at h
  .simp at h
  .rename_i new ids1 hrx;cases hx _ rfl with
   |c hxr=>
   obtain⟨narr,hel,hns,hnR,hnone⟩:=xo (P:=P) (sz:=n+1) (bV n) hI hxr hrx;have hinfo:∀w:World,(typeInfo el).run P w=.ok inf w:=fun w=>by simp[typeInfo,hinf]
   have hzr':∀w:World,(zeroValue el).run P w=.ok zv w:=by intro w';simp only[zeroValue,typeInfo,Sem.run_bind,run_program,Result.andThen_ok,hinf,Sem.run_pure]at hzr|-;cases hzz:inf.zero with|none=>rw[hzz]at hzr;simp at hzr|some q=>rw[hzz]at hzr;simp at hzr|-;exact hzr
   have hunx:∀w:World,(underlying xt).run P w=.ok (.slice el2) w:=bo hux
   -- what the model does where there is no e9
   have grows:∀(aF:Option Addr)(sLen sCap:Nat)(old:Array Value),ρ s=.slice aF sLen sCap->sCap<sLen+new.length->sLen+new.length<=2147483648->
     (∀w':World,w'.heap=w.heap->(Builtin.firstCells (n+1) sLen (.slice aF sLen sCap)).run P w'=.ok old w')->
     ∃newCap,sLen+new.length<=newCap/\(execOp ρ o).run P w=.ok (.value (.slice (some ⟨w.heap.size,0,none⟩) (sLen+new.length) newCap))
      {({w with drawn:=w.drawn+1}:World)with heap:=w.heap.push (.cells (old++narr++Builtin.zeroCells zv.cells (newCap-(sLen+new.length))) el)}:=by
    intro aF sLen sCap old hs hlt hle hold;refine⟨(Question.appendCap (sLen+new.length) sCap el).cut (w.tape w.drawn (.appendCap (sLen+new.length) sCap el)),by simp[Question.cut],?_⟩;have hcap:¬Builtin.nextslicecap (sLen+new.length) sCap*inf.bytes>2^48:=by have h1:=Cj hle hlt;have h2:Builtin.nextslicecap (sLen+new.length) sCap*inf.bytes<=6442454016*16384:=Nat.mul_le_mul h1 hb1;omega
    have hbz:¬inf.bytes=0:=by omega
    have hnle:¬sLen+new.length<=sCap:=by omega
    have ho2:=hold {w with drawn:=w.drawn+1} rfl;have hn2:=(hel {w with drawn:=w.drawn+1} rfl).2;have hl2:=(hel w rfl).1
    simp only[execOp,ho,hcal,resolve,hargs,Sem.run_bind,Sem.run_pure,Result.andThen_ok,invoke,builtin,Builtin.append_,hts,cS,am,aO,hs,bE,
     bJ,c_,bo hus,eF hsz,hunx,hl2,hnle,if_false,hinfo,hcap,hbz,aG,or_self,and_false,run_choose,Question.forced,run_askRoom,ho2,hn2,hzr',newRow,run_newObj,Bool.not_false,if_true]
   have room_new:¬Kn nxt->∀(k:Nat)(_:w.drawn<=k)(hf:Nat->Option Ob)(rows:List (List D))(aB:Array Value)(cap:Nat),Inv S K w0 Kn φ hf w->rows.length<=cap->cap*(n+1)<=aB.size->bG S w (n+1) (fun i=>aB[i]?) 0 rows->
     gI S K w0 w Kn φ hf nxt (nxt+1) (.c (.da (n+1) nxt 0 rows.length)) [(nxt,some (.aB (n+1) rows))] (.slice (some ⟨w.heap.size,0,none⟩) rows.length cap)
      {({w with drawn:=k}:World)with heap:=w.heap.push (.cells aB el)}:=by
    intro hn k hk hf rows aB cap hI1 h1 h2 h3;obtain⟨a1,S',φ',a2,a3,a4,a5⟩:=gI.aB (hI1.mX k hk) hn el (bV n) h1 h2 (h3.mono (WJ.mX S w k));exact⟨a1,S',φ',(WJ.mX S w k).trans a2,a3,a4,a5⟩
   have zsize:∀m,(Builtin.zeroCells zv.cells m).size=m*(n+1):=by
    intro m;have:zv.cells.size=n+1:=by rw[<-hzl,<-hzv];simp
    simp[Builtin.zeroCells,this]
   split at h
   .--a nil slice
    split at h
    .rename_i hle;simp only[vO]at hle;obtain⟨hv,_⟩:=(ha _ rfl).lit;cases new with
     |nil=>
      obtain⟨rfl,rfl,rfl,rfl⟩:TV.c (.d (.lit (.slice none 0 0)))=v/\[]=u/\ids1=aj/\nxt=n':=by simpa using h
      refine bZ.pure hI ?_ (ha _ rfl);have hl2:=(hel w rfl).1;have hn2:=(hel w rfl).2;simp only[gy]at hl2 hn2
      simp only[execOp,ho,hcal,resolve,hargs,Sem.run_bind,Sem.run_pure,Result.andThen_ok,invoke,builtin,Builtin.append_,hts,cS,am,aO,hv,bE,
       bJ,c_,bo hus,eF hsz,hunx,hl2,ai,if_true,Bool.not_false,hn2,aG,if_false,ci]
     |cons q new=>
      obtain⟨rfl,rfl,rfl,rfl⟩:TV.c (.da (n+1) nxt 0 (q::new).length)=v/\[(nxt,some (Ob.aB (n+1) (q::new)))]=u/\ids1=aj/\nxt+1=n':=by simpa using h
      obtain⟨newCap,hnc,hrun⟩:=grows none 0 0 #[] hv (by simp) (by simpa using hle) (fun w' _=>rfl);rw[bl]at hrun hnc;refine⟨.value _,_,_,hrun,.inl rfl,room_new (hn0 (aN _)) _ (a_ _) _ _ _ _ hI hnc ?_ ?_⟩
      .simp only[eN,hns,zsize,eM,gy];rw[bl,<-bf];exact aw _ (by omega)
      .refine ⟨hnR.1,fun i r hi j x hj=>?_⟩;obtain⟨y,hy,hr⟩:=hnR.2 i r hi j x hj;refine⟨y,?_,hr⟩;have hlt:=(aT.1 hy).1;simp only at hy|-;rw[bT (by simp;omega)];simpa using hy
    .simp at h
   .--a slice of one's aW
    rename_i sz' id off len;split at h
    .rename_i szo rows hob;split at h
     .rename_i hb;obtain⟨e1,hle,hlim⟩:=hb;subst e1;simp only[vO]at hlim;obtain⟨rfl,rfl,rfl,rfl⟩:TV.c (.da (n+1) nxt 0 (len+new.length))=v/\[(id,none),(nxt,some (Ob.aB (n+1) ((rows.drop off).take len++new++rows.drop (off+len+new.length))))]=u/\id::ids1=aj/\nxt+1=n':=by simpa using h
      have hn:=hn0 (aN _);have hr:=ha _ rfl;generalize hv0:ρ s=val at hr;cases hr with
      |c hr=>
      have hlen:((rows.drop off).take len).length=len:=by simp;omega
      have hlen2:((rows.drop off).take len++new).length=len+new.length:=by simp;omega
      have hku:∀hf:Nat->Option Ob,aU [(id,none),(nxt,some (Ob.aB (n+1) ((rows.drop off).take len++new++rows.drop (off+len+new.length))))] hf=aU [(nxt,some (Ob.aB (n+1) ((rows.drop off).take len++new++rows.drop (off+len+new.length))))] (aU [(id,none)] hf):=by intro hf;have hne:id≠nxt:=fun e=>hn (e▸(hI.fh _ _ hob).1);rw[<-cF];exact iu (u:=[(id,none)]) fun p hp q hq=>by obtain rfl:=ao.1 hp;obtain rfl:=ao.1 hq;exact hne
      have hkill:Inv S K w0 Kn φ (aU [(id,none)] (ak H)) w:=hI.Mg fun i o ho=>by
       rw[bk]at ho;split at ho
       .simp at ho
       .exact ho
      obtain⟨hk0,h0⟩:=hI.fh _ _ hob;generalize hphi:φ id=l at*;cases h0 with
      |@aB _ _ aB hsz0 hl hS hK hown hext hfit hrr hvis=>
      obtain⟨cap,addr,rfl,hszl,hk,hcap,haddr,hextc,hcl⟩:=hr.gk;rw[hphi]at hv0 haddr hextc hszl hcl;have e2:szo=n+1:=by rw[<-hl,hszl]
      subst e2;rw[hl]at haddr hextc;have hR:∀len',len'=len->bG S w (n+1) (fun i=>aB[i]?) addr ((rows.drop off).take len'):=fun len' e=>by subst e;exact hrr.pH off len' fun h=>haddr (by omega)
      have hRc:bG S w (n+1) (fun i=>w.cell? ⟨l.bH,i,none⟩) addr ((rows.drop off).take len):=⟨(hR len rfl).1,fun i r hi j x hj=>let⟨y,hy,hd⟩:=(hR len rfl).2 i r hi j x hj;⟨y,(hown.cell _).trans hy,hd⟩⟩
      by_cases hroom:len+new.length<=cap
      .--there is e9
       have hl2:=(hel w rfl).1;have hn2:=(hel w rfl).2;have hcm:(len+new.length)*(n+1)<=cap*(n+1):=aw _ hroom;rw[bf]at hcm;obtain⟨ty,hty⟩:=hown;have c9:=run_storeCells_at P l.bH (addr+len*(n+1)) ty narr.toList 0 aB w hty (by simp only[dp,hns];omega) (fun v hv=>by rw[jU];exact hnone v hv);simp only[ci,dp,hns]at c9;have hown:ju w l.bH aB:=⟨ty,hty⟩
       obtain⟨p1,p2,p3,p4,p5⟩:=Mx (w:=w) (b:=l.bH) (o:=addr+len*(n+1)) (n:=new.length*(n+1)) (vs:=narr.toList) hown (by simpa using hns);have hio:Io w (w.setRow l.bH (aB.toList.take (addr+len*(n+1))++narr.toList++aB.toList.drop (addr+len*(n+1)+new.length*(n+1))).toArray):=⟨rfl,rfl,rfl,ai _⟩
       generalize hw':w.setRow l.bH (aB.toList.take (addr+len*(n+1))++narr.toList++aB.toList.drop (addr+len*(n+1)+new.length*(n+1))).toArray=w' at*
       have hrun:(execOp ρ o).run P w=.ok (.value (.slice (some ⟨l.bH,addr,none⟩) (len+new.length) cap)) w':=by
        simp only[execOp,ho,hcal,resolve,hargs,Sem.run_bind,Sem.run_pure,Result.andThen_ok,invoke,builtin,Builtin.append_,hts,cS,am,aO,hv0,bE,
         bJ,c_,bo hus,eF hsz,hunx,hl2,hroom,if_true,Bool.not_false,hn2,aG,if_false,kc,c9]
       have hfree:∀i o,aU [(id,none)] (ak H) i=some o->bF o=true->l.bH∉adh w φ (aU [(id,none)] (ak H)) i:=by
        intro i o hi ho hm;have hi':=hi;rw[bk]at hi';split at hi'
        .simp at hi'
        .rename_i hne;rw[dU rfl (hi.trans hi'.symm)]at hm;exact MA hI hi' hob ho rfl (fun e=>hne e.symm) hm (by rw[<-hphi];exact gE id)
       obtain⟨hs1,hI1⟩:=hkill.FK hS hK hfree p2 p3 p4 (p5 (by omega)) hio;have hget:∀k,(aM aB.toList (addr+len*(n+1)) narr.toList).toArray[k]?=if k<addr+len*(n+1)then aB[k]?else if k<addr+len*(n+1)+narr.size then narr[k-(addr+len*(n+1))]?else aB[k]?:=by intro k;rw[<-aQ];show(aM aB.toList _ narr.toList)[k]?=_;rw[fH _ _ _ (by simp only[dp,hns];omega)];simp only[aQ,dp]
       have hrows:bG S w' (n+1) (fun i=>(aM aB.toList (addr+len*(n+1)) narr.toList).toArray[i]?) addr ((rows.drop off).take len++new):=by
        refine kp (bG.mono hs1 ⟨(hR len rfl).1,fun i r hi j x hj=>?_⟩) (bG.mono hs1 ⟨hnR.1,fun i r hi j x hj=>?_⟩)
        .obtain ⟨y,hy,hd⟩:=(hR len rfl).2 i r hi j x hj;refine⟨y,?_,hd⟩;have hil:i<len:=by rw[<-hlen];exact(af.1 hi).1
         have hjl:j<n+1:=by rw[<-(hR len rfl).1 i r hi];exact(af.1 hj).1
         have hm:(i+1)*(n+1)<=len*(n+1):=aw _ hil;rw[cg]at hm;show(aM aB.toList (addr+len*(n+1)) narr.toList).toArray[_]?=_;rw[hget,if_pos (by omega)];exact hy
        .obtain ⟨y,hy,hd⟩:=hnR.2 i r hi j x hj;refine⟨y,?_,hd⟩;have hlt:=(aT.1 hy).1;show(aM aB.toList (addr+len*(n+1)) narr.toList).toArray[_]?=_;rw[hlen,hget,if_neg (by omega),if_pos (by omega)];rw[<-hy];show narr[_]?=narr[_]?;congr 1;omega
       have hsz':(aM aB.toList (addr+len*(n+1)) narr.toList).toArray.size=l.ext:=by simp only[eM];rw[cQ _ _ _ (by simp only[dp,hns];omega)];simpa using hext
       have hLl:(rows.drop (off+len+new.length)).length=rows.length-(off+len+new.length):=by simp
       have hLR:bG S w (n+1) (fun i=>aB[i]?) (addr+(len+new.length)*(n+1)) (rows.drop (off+len+new.length)):=by
        have h7:=hrr.pH (addr:=addr+(len+new.length)*(n+1)) (off+len+new.length) (rows.length-(off+len+new.length)) fun h=>by have:=haddr (by omega);rw[this,bK off len new.length,bf off (len+new.length)];omega
        rwa[List.take_of_length_le (by rw[hLl];omega)]at h7
       have hrows2:bG S w' (n+1) (fun i=>(aM aB.toList (addr+len*(n+1)) narr.toList).toArray[i]?) addr ((rows.drop off).take len++new++rows.drop (off+len+new.length)):=by refine kp hrows ?_;rw[hlen2];refine bG.mono hs1 ⟨hLR.1,fun i r hi j x hj=>?_⟩;obtain⟨y,hy,hd⟩:=hLR.2 i r hi j x hj;refine⟨y,?_,hd⟩;show(aM aB.toList (addr+len*(n+1)) narr.toList).toArray[_]?=_;rw[hget,if_neg (by rw[bf];omega),if_neg (by rw[hns,bf];omega)];exact hy
       have hlen3:((rows.drop off).take len++new++rows.drop (off+len+new.length)).length<=cap:=by rw[List.length_append,hlen2,hLl];omega
       have hname:=hI1.name hn ⟨l.bH,addr,n+1,l.ext,cap⟩ (.aB (n+1) ((rows.drop off).take len++new++rows.drop (off+len+new.length))) (fun _ j b hj hb hm=>hfree j b hj hb (by rwa[s_ (p2 _ fun e=>hfree j b hj hb (e▸gE j))]at hm))
        (.aB (bV n) rfl hS hK p1 hsz' (by have h8:=aw (n+1) hlen3;simp only;omega) hrows2 hlen3)
       refine⟨.value _,_,_,hrun,.inl rfl,a_ _,S,_,hs1,⟨fun _ h=>.inl h,(fP _ hn).cK⟩,.c ?_,(hku (ak H)▸hname).pJ fun j=>jY j⟩;have e:ext φ nxt ⟨l.bH,addr,n+1,l.ext,cap⟩ nxt=⟨l.bH,addr,n+1,l.ext,cap⟩:=by simp[ext]
       have:=RC.da (S:=S) (w:=w') (Kn:=jI Kn nxt (nxt+1)) (φ:=ext φ nxt ⟨l.bH,addr,n+1,l.ext,cap⟩) (id:=nxt) (off:=0) (len:=len+new.length) (cap:=cap) (addr:=addr)
        (.inr (by omega)) hroom (by rw[e];simp) (by rw[e];exact hextc) (by rw[e];simp)
       rw[e]at this;exact this
      .--there is none
       obtain⟨old,hold,hos,hoR,hoone⟩:=kX (P:=P) (sz:=n+1) (bV n) hRc;rw[hlen]at hold hos;obtain⟨newCap,hnc,hrun⟩:=grows (some ⟨l.bH,addr,none⟩) len cap old hv0 (by omega) hlim (fun w' hw=>hold w' hw);refine⟨.value _,_,_,hrun,.inl rfl,?_⟩
       have hD:=room_new hn (w.drawn+1) (a_ _) (aU [(id,none)] (ak H)) ((rows.drop off).take len++new) (old++narr++Builtin.zeroCells zv.cells (newCap-(len+new.length))) newCap hkill (by rw[hlen2];exact hnc)
        (by simp only[eN,hos,hns,zsize];rw[<-bf,<-bf];exact aw _ (by omega))
        (by
         refine kp ⟨hoR.1,fun i r hi j x hj=>?_⟩ ⟨hnR.1,fun i r hi j x hj=>?_⟩
         .obtain ⟨y,hy,hd⟩:=hoR.2 i r hi j x hj;refine⟨y,?_,hd⟩;have hlt:=(aT.1 hy).1;show(old++narr++_)[_]?=_;rw[bT (by rw[eN];omega),bT hlt];exact hy
         .obtain ⟨y,hy,hd⟩:=hnR.2 i r hi j x hj;refine⟨y,?_,hd⟩;have hlt:=(aT.1 hy).1;show(old++narr++_)[_]?=_;rw[hlen,bT (by rw[eN,hos];omega),Array.getElem?_append_right (by rw[hos];omega)];rw[<-hy,hos];show narr[_]?=narr[_]?;congr 1;omega)
       rw[hlen2]at hD;obtain⟨q1,S',φ',q2,q3,q4,q5⟩:=hD;have hL0:rows.drop (off+len+new.length)=[]:=List.drop_eq_nil_of_le (by omega);exact⟨q1,S',φ',q2,q3,q4,by rw[hku,hL0,List.append_nil];exact q5⟩
     .simp at h
    .simp at h
   .simp at h
end
end Go.Ev
