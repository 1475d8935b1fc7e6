/- The model's operations, one by one, against the abstract machine's. Conditions: the relation of XEvC. -/
import Derived.Test.YthcplpfiidlinaaDoorEvF
open Array renaming getElem?_append_left->dw,getElem?_eq_some_iff->bv,getElem?_toList->bo,length_toList->fP,size_append->ij
open Bool renaming false_eq_true->aX,not_false->dv,or_eq_true->cA
open List renaming all_eq_true->bq,getD->lO,getElem?_cons_succ->fg,getElem?_cons_zero->c_,getElem?_drop->bW,getElem?_eq_getElem->aE,getElem?_eq_some_iff->aq,getElem?_map->aM,getElem?_range->jK,getElem?_replicate->dG,getElem?_set_self->kp,getElem?_take->eJ,getElem?_toArray->cM,length_cons->cP,length_nil->kC,length_replicate->dD,map_cons->aD,map_nil->bh,map_toArray->eQ,mem_map->c9,mem_of_getElem?->bk,mem_singleton->av,range->bt,replicate->aA,size_toArray->ii
open Nat renaming add_assoc->db,add_mul->b_,add_zero->di,le_refl->aw,le_succ->bQ,lt_succ_self->bl,mul_le_mul_right->aO,mul_one->mP,succ_mul->dN,succ_pos->dA,zero_add->bN
open Option renaming getD_some->fH,map_eq_some_iff->aK,map_some->bY
open Option.some renaming inj->aa
open Prod.mk renaming inj->ad
namespace Go.Ev
abbrev Bz:=FuncId->Bool×List Bool
def dY(P:Program)(fields:Array Field):List Nat->Option (List (Nat×Nat))
 |[]=>some []
 |i::r=>
  match fields[i]?,dY P fields r with
  |some f,some l=>match fK P f.type with|some n=>some ((f.offset,n)::l)|none=>none
  |_,_=>none
def oP:Nat->Value
 |0=>.slice none 0 0
 |1=>.pointer none
 |_=>.nilFunc
def wM:Nat->Operand->Bool
 |0,.const (.slice none 0 0)|1,.const (.pointer none)|2,.const .nilFunc=>true
 |_,_=>false
def Ox(P:Program)(g:TypeId->Option (List Kd)):List Field->Nat->Option (List Kd)
 |[],_=>some []
 |f::r,o=>
  if f.offset=o/\f.name≠ "_" then
   match g f.type with|some ks=>if fK P f.type=some ks.length then(match Ox P g r (o+ks.length)with|some l=>some (ks++l)|none=>none)else none|none=>none
  else none
def z5(P:Program):Nat->TypeId->Option (List Kd)
 |0,_=>none
 |d+1,t=>
  match P.underlying t with
  |some .bool=>if fK P t=some 1 then some [.b]else none
  |some (.int q)=>if fK P t=some 1 then some [.i q]else none
  |some .string=>if fK P t=some 1 then some [.s]else none
  |some (.array n e)=>match z5 P d e with|some ks=>if fK P e=some ks.length/\fK P t=some (n*ks.length)then some (aA n ks).flatten else none|none=>none
  |some (.struct fs)=>match Ox P (z5 P d) fs.toList 0 with|some ks=>if P.stoodInHeld t=false/\fK P t=some ks.length then some ks else none|none=>none
  |_=>none
def ER(P:Program)(t:TypeId):Option Bool:=((P.info? t).bind (·.zero)).map fun|.agg _=>true|_=>false
def za(P:Program)(k e:TypeId):Option (Bool×List Kd×Bool×List Value):=match fS P k,z5 P 8 k,fS P e,jL P e with|some ka,some ks,some va,some z=>if ER P e=some va then some (ka,ks,va,z)else none|_,_,_,_=>none
def qM(kind:Nat)(neg:Bool)(x y:Operand):K×List Operand:=if wM kind y then(.rF kind neg,[x])else if wM kind x then(.rF kind neg,[y])else(.gi,[])
def Hn(P:Program)(op:BinOp)(t:TypeId)(x y:Operand):K×List Operand:=
 match op with
 |.eql|.neq=>
  match P.underlying t with
  |some .bool=>(.ve (op==.neq),[x,y])
  |some (.int _)|some (.float _)|some .string=>(.Au op,[x,y])
  |some (.slice _)=>qM 0 (op==.neq) x y
  |some (.pointer _)=>qM 1 (op==.neq) x y
  |some (.func _ _ _)=>qM 2 (op==.neq) x y
  |some (.struct _)|some (.array _ _)=>match z5 P 8 t with|some ks=>if P.eqGuardType P.depth t=false then(.zD (op==.neq) ks,[x,y])else(.gi,[])|none=>(.gi,[])
  |_=>(.gi,[])
 |op=>(.Au op,[x,y])
def pH(P:Program)(e:TypeId):Bool:=match P.info? e with|some i=>decide (0<i.bytes)&&decide (i.bytes<=16384)|none=>false
def tQ(P:Program)(b:Builtin)(args:List Operand)(ts:List TypeId):K×List Operand:=
 match b,ts with
 |.len,[t]=>match P.underlying t with|some .string=>(.len true,args)|some (.slice _)=>(.len false,args)|_=>(.gi,[])
 |.max,_=>(.u9 true,args)
 |.min,_=>(.u9 false,args)
 |.append,[s,x]=>
  match P.underlying s,P.underlying x with
  |some (.slice e),some (.slice _)=>match fK P e,jL P e with|some (n+1),some z=>if pH P e=true/\z.length=n+1 then(.append (n+1),args)else(.gi,[])|_,_=>(.gi,[])
  |some (.slice e),some (.int _)=>match fK P e,jL P e with|some (n+1),some z=>if pH P e=true/\z.length=n+1 then(.Q0 z,args)else(.gi,[])|_,_=>(.gi,[])
  |_,_=>(.gi,[])
 |.cap,[t]=>match P.underlying t with|some (.slice _)=>(.LH,args)|_=>(.gi,[])
 |.copy,[d,_]=>
  match P.underlying d with
  |some (.slice e)=>match fK P e with|some (n+1)=>(.copy (n+1),args)|_=>(.gi,[])
  |_=>(.gi,[])
 |.clear,[s]=>
  match P.underlying s with
  |some (.slice e)=>match fK P e,jL P e with|some (n+1),some z=>if z.length=n+1 then(.clear z,args)else(.gi,[])|_,_=>(.gi,[])
  |_=>(.gi,[])
 |_,_=>(.gi,[])
def KQ(P:Program)(f:FuncId):Bool:=
 match P.funcs[f]?with
 |some fn=>
  !(fn.name== "runtime.NumGoroutine")&&fn.body.isNone&&(Extern.findNext fn).isNone&&(Extern.allGenericRows.lookup fn.name).isNone&&(Extern.allTypedRows.lookup fn.name).isNone&&(Extern.allRows.lookup fn.name).isNone&&fn.origin== "slices.overlaps" &&
  (match fn.params.toList with
   |t::_=>(match P.underlying t with|some (.slice e)=>(match fK P e with|some (_+1)=>true|_=>false)|_=>false)
   |[]=>false)
 |none=>false
def F3:List Value->Bool
 |[.slice none 0 0]=>true
 |_=>false
def NX(P:Program)(cH:Bz)(e:TypeId)(z:List Value):Option Nat:=if(cH 1000000000).1=true/\F3 z=true then(match P.underlying e with|some (.slice ee)=>(match fK P ee with|some (m+1)=>some (m+1)|_=>none)|_=>none)else none
def DZ(P:Program)(t:TypeId):Bool:=match P.underlying t with|some (.slice _)=>true|_=>false
def xD(P:Program)(cH:Bz):Op->K×List Operand
 |.move x|.assign x=>(.mv,[x])
 |.pick c a b=>(.pick,[c,a,b])
 |.alloc e=>match jL P e with|some z=>(.alloc z,[])|none=>(.gi,[])
 |.box _ x=>(.box,[x])
 |.build t parts=>
  match P.underlying t,jL P t with
  |some (.struct fields),some z=>match dY P fields (parts.toList.map (·.1))with|some pl=>if fields.toList.all (fun f=>(fK P f.type).isSome)then(.build z pl,parts.toList.map (·.2))else(.gi,[])|none=>(.gi,[])
  |some (.array _ e),some z=>match fK P e with|some n=>(.build z (parts.toList.map fun p=>(p.1*n,n)),parts.toList.map (·.2))|none=>(.gi,[])
  |_,_=>(.gi,[])
 |.buildSlice t len parts=>
  match P.underlying t with
  |some (.slice e)=>match fK P e,jL P e with|some (n+1),some z=>if len*(n+1)<=4096/\z.length=n+1 then(.buildSlice (n+1) len ((bt (len*(n+1))).map fun i=>z.getD (i %(n+1)) undef) (parts.toList.map (·.1)),parts.toList.map (·.2))else(.gi,[])|_,_=>(.gi,[])
  |_=>(.gi,[])
 |.load t a=>match fS P t,fK P t with|some g,some n=>(if(cH 1000000000).1=true/\DZ P t=true/\g=false/\n=1 then .uD else .load g n,[a])|_,_=>(.gi,[])
 |.store t a x=>match fK P t with|some n=>(.store n,[a,x])|none=>(.gi,[])
 |.nilCheck x=>(.nilCheck,[x])
 |.binOp op t x y _=>Hn P op t x y
 |.unOp op _ x=>(.un op,[x])
 |.convert s d x=>match P.underlying s,P.underlying d with|some (.int _),some (.int k)=>(.vY k,[x])|some .string,some .string=>(.tP,[x])|_,_=>(.gi,[])
 |.makeFunc (.func f) first captured=>if first.isEmpty then(.It f,captured.toList)else(.gi,[])
 |.makeSlice t l c=>
  match P.underlying t with
  |some (.slice e)=>match fK P e,jL P e with|some (n+1),some z=>if z.length=n+1/\pH P e=true then(match NX P cH e z with|some m=>.A0 m|none=>.makeSlice z,[l,c])else(.gi,[])|_,_=>(.gi,[])
  |_=>(.gi,[])
 |.slice t x lo hi none=>
  match P.underlying t with
  |some .string=>(.slice true 1 lo.isSome hi.isSome,x::lo.toList++hi.toList)
  |some (.slice e)=>match fK P e with|some n=>(.slice false n lo.isSome hi.isSome,x::lo.toList++hi.toList)|none=>(.gi,[])
  |_=>(.gi,[])
 |.slice t x (some l) (some u) (some m)=>
  match P.underlying t with
  |some (.slice e)=>match fK P e with|some n=>(.BI n,[x,l,u,m])|none=>(.gi,[])
  |_=>(.gi,[])
 |.fieldAddr s x f=>
  match P.underlying s with
  |some (.struct fields)=>match fields[f]?with|some fl=>(match fK P fl.type with|some (m+1)=>(.fieldAddr fl.offset (m+1),[x])|_=>(.gi,[]))|none=>(.gi,[])
  |_=>(.gi,[])
 |.field s x f=>
  match P.underlying s with
  |some (.struct fields)=>match fields[f]?with|some fl=>(match fS P fl.type,fK P fl.type with|some g,some n=>(.field g fl.offset n,[x])|_,_=>(.gi,[]))|none=>(.gi,[])
  |_=>(.gi,[])
 |.indexAddr t x i=>
  match P.underlying t with
  |some (.slice e)=>match fK P e with|some n=>(.indexAddr none n,[x,i])|none=>(.gi,[])
  |some (.array len e)=>match fK P e with|some n=>(.indexAddr (some len) n,[x,i])|none=>(.gi,[])
  |_=>(.gi,[])
 |.index t x i=>
  match P.underlying t with
  |some .string=>(.qb,[x,i])
  |some (.array len e)=>match fS P e,fK P e with|some g,some n=>(.index g len n,[x,i])|_,_=>(.gi,[])
  |_=>(.gi,[])
 |.extract x i=>(.extract i,[x])
 |.makeMap t none=>
  match P.underlying t with
  |some (.map k e)=>match fS P k,fS P e with|some ka,some va=>(.makeMap ka va,[])|_,_=>(.gi,[])
  |_=>(.gi,[])
 |.lookup t x ix ok=>
  match P.underlying t with
  |some (.map k e)=>match za P k e with|some (ka,ks,va,z)=>(.lookup ka ks va z ok,[x,ix])|none=>(.gi,[])
  |_=>(.gi,[])
 |.mapEntry t m k=>
  match P.underlying t with
  |some (.map kt e)=>match za P kt e with|some (ka,ks,va,z)=>(.mapEntry ka ks va z,[m,k])|none=>(.gi,[])
  |_=>(.gi,[])
 |.entryStore t m s x=>
  match P.underlying t with
  |some (.map kt e)=>match za P kt e with|some (_,_,va,z)=>(.entryStore va z.length,[m,s,x])|none=>(.gi,[])
  |_=>(.gi,[])
 |.call c=>match c.callee with|.builtin b=>tQ P b c.args.toList c.argTypes.toList|.value (.func f)=>if(cH f).2.length=9 then(if KQ P f=true then(.Qo,c.args.toList)else(.gi,[]))else(.call (cH f).1 (cH f).2,.func f::c.args.toList)|.value f=>(.call false [],f::c.args.toList)|.invoke _ _=>(.gi,[])
 |_=>(.gi,[])
section
variable{P:Program}{S K:Nat->Prop}{w0 w:World}{Kn:Nat->Prop}{φ:Nat->gI}{hf:Nat->Option Ob}
def lE(S K:Nat->Prop)(w0 w:World)(Kn:Nat->Prop)(φ:Nat->gI)(hf:Nat->Option Ob)(nxt n':Nat)(v:TV)(u:fA)(val:Value)(w':World):Prop:=nxt<=n'/\∃S' φ',gU S w S' w'/\up Kn φ (pJ Kn nxt n') φ'/\ge S' w' (pJ Kn nxt n') φ' v val/\Inv S' K w0 (pJ Kn nxt n') φ' (bA u hf) w'
theorem ge.kn{Kn':Nat->Prop}{c:TV}{v:Value}(h:ge S w Kn φ c v)(hs:∀i,Kn i->Kn' i):ge S w Kn' φ c v:=h.mono (gU.refl _ _) ⟨hs,fun _ _=>rfl⟩
theorem lE.pure{n:Nat}{v:TV}{val:Value}(hI:Inv S K w0 Kn φ hf w)(h:ge S w Kn φ v val):lE S K w0 w Kn φ hf n n v [] val w:=⟨aw _,S,φ,gU.refl _ _,ub _ _,h.kn fun _ hi=>.inl hi,hI.kn fun _ hi=>.inl hi⟩
def dK(P:Program)(o:Oper)(ρ:Operand->Value)(S K:Nat->Prop)(w0 w:World)(Kn:Nat->Prop)(φ:Nat->gI)(hf:Nat->Option Ob)(nxt n':Nat)(v:TV)(u:fA):Prop:=∃nx val w',(execOp ρ o).run P w=.ok nx w'/\(nx=.value val\/(nx=.skip/\val=undef))/\lE S K w0 w Kn φ hf nxt n' v u val w'
theorem Lu{v:Value}{tv:TV}(h:cv v=some tv):ge S w Kn φ tv v:=by
 unfold cv at h;split at h
 .rename_i cs;split at h
  .rename_i hp;obtain rfl:=aa h;refine .agg (by simp) fun i x hi=>?_;rw[aM]at hi;obtain⟨y,hy,rfl⟩:=aK.1 hi;have hlt:i<cs.size:=by simpa using(aq.1 hy).1
   have e:cs.getD i undef=y:=by rw[bo]at hy;simp[hy]
   rw[e];exact .d (.lit (bq.1 hp y (bk hy)))
  .simp at h
 .split at h
  .rename_i hp;obtain rfl:=aa h;exact .c (.d (.lit hp))
  .simp at h
def jG.ok(S:Nat->Prop)(w:World)(Kn:Nat->Prop)(φ:Nat->gI)(e:jG)(tmps:Array Value):Prop:=∀t x,cz e t=some x->ge S w Kn φ x (tmps.getD t undef)
theorem ue{e:jG}{a:Act}(hg:Ay S w)(hE:jG.ok S w Kn φ e a.tmps){x:Operand}{tv:TV}(h:kP e x=some tv):ge S w Kn φ tv (a.eval x):=by
 cases x with
 |tmp t=>exact hE t tv h
 |const v=>exact Lu h
 |global g=>obtain⟨d,hd,rfl⟩:=aK.1 (show(Pj g).map (fun d=>TV.c (.d d))=some tv from h);exact .c (.d (hg g d hd))
 |func f=>
  obtain rfl:TV.c (.d (.fn f []))=tv:=by simpa[kP]using h
  exact .c (.d (.fn rfl fun j x hj=>by simp at hj))
theorem ge.lit{v val:Value}(h:ge S w Kn φ (.c (.d (.lit v))) val):val=v/\fB v=true:=by
 cases h with
 |c h=>cases h with
  |d h=>cases h with|lit h=>exact⟨rfl,h⟩
theorem ge.o9{v:Value}(h:fB v=true):ge S w Kn φ (lv v) v:=.c (.d (.lit h))
theorem JL{op:BinOp}{t:TypeId}{x y v:Value}(h:sW op x y=some v):(binOp op t x y).run P w=.ok v w/\fB v=true/\(∀a b,(eqGuard op t a b x y).run P w=.ok () w):=by
 have hg:∀a b,(match x,y with|.nilIface,.nilIface=>False|.agg _,.agg _=>False|_,_=>True)->(eqGuard op t a b x y).run P w=.ok () w:=by intro a b hxy;unfold eqGuard;cases op<;>simp<;>(cases x<;>cases y<;>simp_all)
 unfold sW at h;split at h
 .rename_i k a k' b;refine(fun⟨h1,h2⟩=>⟨h1,h2,fun a b=>hg a b trivial⟩:(_/\_)->_) ?_;split at h
  .split at h
   .simp at h
   .rename_i hb;obtain rfl:=aa h;simp[binOp,Op.shift,hb,fB]
  .split at h
   .simp at h
   .rename_i hb;obtain rfl:=aa h;simp[binOp,Op.shift,hb,fB]
  .rename_i op hshl hshr;split at h
   .rename_i hk;subst hk
    split at h<;>first
     |(simp at h;done)
     |(split at h
       .simp at h
       .rename_i hb;obtain rfl:=aa h;simp[binOp,Op.intDiv,hb,fB])
     |(obtain rfl:=aa h
       simp[binOp,Op.intArith,Op.intBits,Op.intCmp,fB])
   .simp at h
 .rename_i k a k' b;refine(fun⟨h1,h2⟩=>⟨h1,h2,fun a b=>hg a b trivial⟩:(_/\_)->_) ?_;split at h
  .rename_i hk;subst hk
   split at h<;>first
    |(simp at h;done)
    |(obtain⟨r,hr,rfl⟩:=aK.1 h
      simp[binOp,Op.floatArith,hr,fB])
    |(obtain rfl:=aa h
      simp[binOp,Op.floatCmp,fB])
  .simp at h
 .rename_i x y;refine(fun⟨h1,h2⟩=>⟨h1,h2,fun a b=>hg a b trivial⟩:(_/\_)->_) ?_
  split at h<;>first
   |(simp at h;done)
   |(split at h
     .simp at h
     .rename_i hb;obtain rfl:=aa h;refine⟨?_,rfl⟩;simp only[binOp,Op.stringOp,if_neg hb,Sem.run_pure])
   |(obtain rfl:=aa h
     simp[binOp,Op.stringOp,fB])
 .simp at h
theorem Mt{op:UnOp}{x v:Value}(h:Q4 op x=some v):(Op.unary op x).run P w=.ok v w/\fB v=true:=by
 unfold Q4 at h;split at h
 .split at h
  .obtain rfl:=aa h;simp[Op.unary,fB]
  .simp at h
 .split at h
  .obtain rfl:=aa h;simp[Op.unary,Op.intArith,fB]
  .obtain rfl:=aa h;simp[Op.unary,Op.intBits,fB]
  .simp at h
 .split at h
  .obtain rfl:=aa h;simp[Op.unary,fB]
  .simp at h
 .simp at h
end
section
variable{P:Program}{S K:Nat->Prop}{w0 w:World}{Kn:Nat->Prop}{φ:Nat->gI}{H:bM}{e:jG}{ρ:Operand->Value}{o:Oper}{call:Call}
 {nxt n':Nat} {v:TV} {u:fA} {aB:List Nat}
theorem qa(j:Nat):(Kn j\/j=nxt)<->pJ Kn nxt (nxt+1) j:=by
 unfold pJ;constructor
 .rintro (h|rfl)
  .exact .inl h
  .exact .inr (by omega)
 .rintro (h|h)
  .exact .inl h
  .exact .inr (by omega)
theorem G7(hI:Inv S K w0 Kn φ (aC H) w):¬S w.heap.size/\¬K w.heap.size:=⟨fun h=>Nat.lt_irrefl _ (hI.vn _ h),fun h=>by have:=hI.nD.FY _ h;have:=hI.nD.sx;omega⟩
theorem lE.box{hf:Nat->Option Ob}(hI:Inv S K w0 Kn φ (aC H) w)(hh:hf=aC H)(hn:¬Kn nxt){cs:List C}{aP:Array Value}(t:TypeId)(hlen:cs.length=aP.size)
  (h:∀(i:Nat)(x:C),cs[i]?=some x->RC S w Kn φ x (aP.getD i undef)):
  lE S K w0 w Kn φ hf nxt (nxt+1) (.c (.op nxt 0)) [(nxt,some (.box cs))] (.pointer (some ⟨w.heap.size,0,none⟩)) {w with heap:=w.heap.push (.cells aP t)}:=by
 subst hh;obtain⟨nS,nK⟩:=G7 hI;have hs:=gU.push (w:=w) hI.vn (.cells aP t);refine⟨bQ _,S,_,hs,⟨fun _ h=>.inl h,(jH _ hn).eu⟩,.c ?_,(hI.alloc hn aP t 1 0 (.box cs) (.box rfl nS nK (Dt w aP t) hlen fun i x hi=>(h i x hi).mono hs (jH _ hn))).xK fun j=>qa j⟩;have:=RC.op (S:=S) (w:={w with heap:=w.heap.push (.cells aP t)}) (Kn:=pJ Kn nxt (nxt+1)) (φ:=ext φ nxt ⟨w.heap.size,0,1,aP.size,0⟩) (id:=nxt) (off:=0) (.inr (by omega));simpa[ext]using this
theorem lE.aP{hf:Nat->Option Ob}(hI:Inv S K w0 Kn φ hf w)(hn:¬Kn nxt){sz cap:Nat}{ao:List (List D)}{aP:Array Value}(t:TypeId)(hsz:0<sz)
  (hcap:ao.length<=cap) (hfit:cap*sz<=aP.size) (h:cT S w sz (fun i=>aP[i]?) 0 ao):
  lE S K w0 w Kn φ hf nxt (nxt+1) (.c (.fh sz nxt 0 ao.length)) [(nxt,some (.aP sz ao))] (.slice (some ⟨w.heap.size,0,none⟩) ao.length cap) {w with heap:=w.heap.push (.cells aP t)}:=by
 have nS:¬S w.heap.size:=fun h=>Nat.lt_irrefl _ (hI.vn _ h);have nK:¬K w.heap.size:=fun h=>by have:=hI.nD.FY _ h;have:=hI.nD.sx;omega
 have hs:=gU.push (w:=w) hI.vn (.cells aP t);have hrl:ao.length*sz<=cap*sz:=aO _ hcap;refine⟨bQ _,S,_,hs,⟨fun _ h=>.inl h,(jH _ hn).eu⟩,.c ?_,(hI.alloc hn aP t sz cap (.aP sz ao) (.aP hsz rfl nS nK (Dt w aP t) rfl (by simp only;omega) (h.mono hs) hcap)).xK fun j=>qa j⟩;have e:ext φ nxt ⟨w.heap.size,0,sz,aP.size,cap⟩ nxt=⟨w.heap.size,0,sz,aP.size,cap⟩:=by simp[ext]
 have:=RC.fh (S:=S) (w:={w with heap:=w.heap.push (.cells aP t)}) (Kn:=pJ Kn nxt (nxt+1)) (φ:=ext φ nxt ⟨w.heap.size,0,sz,aP.size,cap⟩) (id:=nxt) (off:=0) (len:=ao.length) (cap:=cap) (addr:=0)
  (.inr (by omega)) hcap (by rw[e];simp) (by rw[e];simpa using hfit) (by rw[e];simp)
 rw[e]at this;simpa using this
theorem yF(t:TypeId)(val:Value):(newVar t val).run P w=.ok ⟨w.heap.size,0,none⟩ {w with heap:=w.heap.push (.cells val.cells t)}:=by simp[newVar,newRow,newObj,Sem.run]
theorem Ky{z:List Value}{aP:Array Value}(hz:aP.toList=z)(hp:∀x∈z,fB x=true):(fk z).length=aP.size/\∀(i:Nat)(x:C),(fk z)[i]?=some x->RC S w Kn φ x (aP.getD i undef):=by
 subst hz;refine⟨by simp[fk],fun i x hi=>?_⟩;simp only[fk,aM]at hi;obtain⟨y,hy,rfl⟩:=aK.1 hi;have e:aP.getD i undef=y:=by rw[bo]at hy;simp[hy]
 rw[e];exact .d (.lit (hp y (bk hy)))
theorem J9{t:TypeId}{z:List Value}(ho:o.op=.alloc t)(hz:jL P t=some z)(hI:Inv S K w0 Kn φ (aC H) w)(hn0:nxt<n'->¬Kn nxt)
  (h:cL call (.alloc z) [] H nxt=some (v,u,aB,n')):dK P o ρ S K w0 w Kn φ (aC H) nxt n' v u:=by
 obtain⟨rfl,rfl,rfl,rfl⟩:TV.c (.op nxt 0)=v/\[(nxt,some (.box (fk z)))]=u/\[]=aB/\nxt+1=n':=by simpa[cL]using h
 have hn:=hn0 (bl _);obtain⟨val,hv,hc,hp⟩:=pS hz w;obtain⟨h1,h2⟩:=Ky (S:=S) (w:=w) (Kn:=Kn) (φ:=φ) hc hp;refine⟨.value _,_,_,?_,.inl rfl,lE.box hI rfl hn t h1 h2⟩;simp[execOp,ho,Instr.alloc,hv,yF]
theorem OS{t:TypeId}{x:Operand}(ho:o.op=.box t x)(hI:Inv S K w0 Kn φ (aC H) w)(hn0:nxt<n'->¬Kn nxt){tv:Option TV}(hx:∀y,tv=some y->ge S w Kn φ y (ρ x))
  (h:cL call .box [tv] H nxt=some (v,u,aB,n')):dK P o ρ S K w0 w Kn φ (aC H) nxt n' v u:=by
 cases tv with
 |none=>simp[cL]at h
 |some y=>
  simp only[cL]at h;split at h
  .rename_i cs hcs;obtain⟨rfl,rfl,rfl,rfl⟩:TV.c (.op nxt 0)=v/\[(nxt,some (.box cs))]=u/\[]=aB/\nxt+1=n':=by simpa using h
   have hn:=hn0 (bl _);obtain⟨h1,h2,_⟩:=(hx y rfl).cells hcs;refine⟨.value _,_,_,?_,.inl rfl,lE.box hI rfl hn t h1 h2⟩;simp[execOp,ho,Instr.box,yF]
  .simp at h
theorem HO{t:TypeId}{agg:Bool}{n:Nat}(ha:fS P t=some agg)(hs:fK P t=some n)(hI:Inv S K w0 Kn φ (aC H) w){p:C}{pv:Value}(hp:RC S w Kn φ p pv)(hn0:nxt<n'->¬Kn nxt)
  (h:lJ agg n p H nxt=some (v,u,aB,n')):∃val,(Instr.loadAt t pv).run P w=.ok val w/\lE S K w0 w Kn φ (aC H) nxt n' v u val w:=by
 unfold lJ at h;split at h
 case h_2=>simp at h
 rename_i id cU;split at h
 case h_2=>simp at h
 rename_i sz slots ho;split at h
 case isFalse=>simp at h
 rename_i hag;obtain⟨rfl,rfl⟩:=hag;obtain⟨hk,hro⟩:=hI.iN id _ ho;have hl:(φ id).sz=1:=by cases hro with|nst hsz hl=>exact hl
 cases hp with
 |ep hk'=>
  have ea:(⟨(φ id).cY,(φ id).aT+cU*(φ id).sz+0,none⟩:Addr)=⟨(φ id).cY,(φ id).aT+cU,none⟩:=by rw[hl,mP,di]
  rw[ea];split at h
  .rename_i hsl;obtain⟨rfl,rfl,rfl,rfl⟩:TV.c (.d (.lit (.slice none 0 0)))=v/\[]=u/\[id]=aB/\nxt=n':=by simpa using h
   cases hro with
   |nst hsz hl hS hK hown hext hfit hr hv=>
    obtain⟨x,h1,h2⟩:=hr cU _ hsl;cases h2
    obtain⟨val,q1,q2⟩:=wx (S:=S) (Kn:=Kn) (φ:=φ) ha hs (cells:=[.d (.lit (.slice none 0 0))]) (b:=(φ id).cY) (o:=(φ id).aT+cU) (fun j x hj=>by
     cases j with
     |succ j=>simp at hj
     |zero=>
      obtain rfl:C.d (.lit (.slice none 0 0))=x:=by simpa using hj
      exact⟨_,(hown.cell _).trans h1,.d (.lit rfl)⟩) (v:=TV.c (.d (.lit (.slice none 0 0)))) rfl
    exact⟨val,by simp[Instr.loadAt,Instr.sureAddr,q1],lE.pure hI q2⟩
  .rename_i ao hsl;obtain⟨rfl,rfl,rfl,rfl⟩:TV.c (.fh sz nxt 0 ao.length)=v/\[(nxt,some (Ob.aP sz ao)),(id,some (Ob.nst sz (slots.set cU (.cF nxt ao.length))))]=u/\[id]=aB/\nxt+1=n':=by simpa using h
   have hn:=hn0 (bl _);obtain⟨l,x,h1,h2,h3⟩:=hI.split ho hsl hn
   obtain⟨val,q1,q2⟩:=wx (S:=S) (Kn:=fun j=>Kn j\/j=nxt) (φ:=ext φ nxt l) ha hs (cells:=[.fh sz nxt 0 ao.length]) (b:=(φ id).cY) (o:=(φ id).aT+cU) (fun j x' hj=>by
     cases j with
     |succ j=>simp at hj
     |zero=>
      obtain rfl:C.fh sz nxt 0 ao.length=x':=by simpa using hj
      exact⟨x,h1,h2⟩) (v:=TV.c (.fh sz nxt 0 ao.length)) rfl
   refine⟨val,by simp[Instr.loadAt,Instr.sureAddr,q1],bQ _,S,ext φ nxt l,gU.refl _ _,⟨fun i hi=>.inl hi,(jH l hn).eu⟩,q2.kn fun i=>(qa i).1,h3.xK fun i=>qa i⟩
  .simp at h
theorem G0{t:TypeId}{x:Operand}{agg:Bool}{n:Nat}(ho:o.op=.load t x)(ha:fS P t=some agg)(hs:fK P t=some n)(hI:Inv S K w0 Kn φ (aC H) w)
  {tv:Option TV} (hx:∀y,tv=some y->ge S w Kn φ y (ρ x)) (h:cL call (.load agg n) [tv] H nxt=some (v,u,aB,n')):dK P o ρ S K w0 w Kn φ (aC H) nxt n' v u:=by
 cases tv with
 |none=>simp[cL]at h
 |some y=>
  cases y with
  |c p=>
   change (match hO agg n p H with|some (v,aB)=>some (v,[],aB,nxt)|none=>none)=_ at h;split at h
   .rename_i v' ids' hl;obtain⟨rfl,rfl,rfl,rfl⟩:v'=v/\[]=u/\ids'=aB/\nxt=n':=by simpa using h
    cases hx _ rfl with|c hp=>obtain⟨val,h1,h2⟩:=yH ha hs hI hp hl;refine⟨.value _,_,_,?_,.inl rfl,lE.pure hI h2⟩;simp[execOp,ho,h1]
   .simp at h
  |_=>simp[cL]at h
theorem J3{t:TypeId}{x:Operand}(ho:o.op=.load t x)(ha:fS P t=some false)(hs:fK P t=some 1)(hI:Inv S K w0 Kn φ (aC H) w)(hn0:nxt<n'->¬Kn nxt)
  {tv:Option TV} (hx:∀y,tv=some y->ge S w Kn φ y (ρ x)) (h:cL call .uD [tv] H nxt=some (v,u,aB,n')):dK P o ρ S K w0 w Kn φ (aC H) nxt n' v u:=by
 cases tv with
 |none=>simp[cL]at h
 |some y=>
  cases y with
  |c p=>
   change (match hO false 1 p H with|some (v,aB)=>some (v,[],aB,nxt)|none=>lJ false 1 p H nxt)=_ at h;split at h
   .rename_i v' ids' hl;exact G0 (call:=call) ho ha hs hI (tv:=some (.c p)) hx (by show(match hO false 1 p H with|some (v,aB)=>some (v,[],aB,nxt)|none=>none)=_;rw[hl];exact h)
   .cases hx _ rfl with|c hp=>obtain⟨val,h1,h2⟩:=HO ha hs hI hp hn0 h;refine⟨.value _,_,_,?_,.inl rfl,h2⟩;simp[execOp,ho,h1]
  |_=>simp[cL]at h
theorem dK.pure{val:Value}(hI:Inv S K w0 Kn φ (aC H) w)(hr:(execOp ρ o).run P w=.ok (.value val) w)(h:ge S w Kn φ v val):dK P o ρ S K w0 w Kn φ (aC H) nxt nxt v []:=⟨.value val,val,w,hr,.inl rfl,lE.pure hI h⟩
theorem NW{x:Operand}(ho:o.op=.move x\/o.op=.assign x)(hI:Inv S K w0 Kn φ (aC H) w){tv:Option TV}(hx:∀y,tv=some y->ge S w Kn φ y (ρ x))
  (h:cL call .mv [tv] H nxt=some (v,u,aB,n')):dK P o ρ S K w0 w Kn φ (aC H) nxt n' v u:=by
 cases tv with
 |none=>simp[cL]at h
 |some y=>
  obtain⟨rfl,rfl,rfl,rfl⟩:y=v/\[]=u/\[]=aB/\nxt=n':=by simpa[cL]using h
  refine dK.pure hI ?_ (hx _ rfl);rcases ho with ho|ho<;>simp[execOp,ho]
theorem MO{c x y:Operand}(ho:o.op=.pick c x y)(hI:Inv S K w0 Kn φ (aC H) w){tc tx ty:Option TV}(hc:∀z,tc=some z->ge S w Kn φ z (ρ c))
  (hx:∀z,tx=some z->ge S w Kn φ z (ρ x)) (hy:∀z,ty=some z->ge S w Kn φ z (ρ y))
  (h:cL call .pick [tc,tx,ty] H nxt=some (v,u,aB,n')):dK P o ρ S K w0 w Kn φ (aC H) nxt n' v u:=by
 match tc,h,hc with
 |some (.c (.d (.lit (.bool b)))),h,hc=>
  change (match(if b then tx else ty)with|some v=>some (v,[],[],nxt)|none=>none)=_ at h;obtain⟨hb,_⟩:=(hc _ rfl).lit;cases b
  .simp only[aX,if_false]at h;cases ty with
   |none=>simp at h
   |some z=>
    obtain⟨rfl,rfl,rfl,rfl⟩:z=v/\[]=u/\[]=aB/\nxt=n':=by simpa using h
    exact dK.pure hI (by simp[execOp,ho,hb,asBool]) (hy _ rfl)
  .simp only[if_true]at h;cases tx with
   |none=>simp at h
   |some z=>
    obtain⟨rfl,rfl,rfl,rfl⟩:z=v/\[]=u/\[]=aB/\nxt=n':=by simpa using h
    exact dK.pure hI (by simp[execOp,ho,hb,asBool]) (hx _ rfl)
theorem DA{x:Operand}(ho:o.op=.nilCheck x)(hI:Inv S K w0 Kn φ (aC H) w){tv:Option TV}(hx:∀y,tv=some y->ge S w Kn φ y (ρ x))
  (h:cL call .nilCheck [tv] H nxt=some (v,u,aB,n')):dK P o ρ S K w0 w Kn φ (aC H) nxt n' v u:=by
 match tv,h,hx with
 |some (.c c),h,hx=>
  have key:(∃a,ρ x=.pointer (some a))\/(∃g vs,ρ x=.func (.func g) #[] vs)->some (TV.c c,([]:fA),([]:List Nat),nxt)=some (v,u,aB,n')->dK P o ρ S K w0 w Kn φ (aC H) nxt n' v u:=by
   intro hc h;obtain⟨rfl,rfl,rfl,rfl⟩:TV.c c=v/\[]=u/\[]=aB/\nxt=n':=by simpa using h
   refine dK.pure hI ?_ (hx _ rfl);rcases hc with⟨a,hc⟩|⟨g,vs,hc⟩<;>simp[execOp,ho,hc]
  have hr:=hx _ rfl;generalize hv0:ρ x=val at hr;cases hr with
  |c hr=>
   cases hr with
   |d hd=>cases hd with|lit hp=>simp[cL]at h|sl=>simp[cL]at h|t8=>simp[cL]at h|pt f hb=>exact key (.inl ⟨_,hv0⟩) h|fn hl hr=>exact key (.inr ⟨_,_,hv0⟩) h
   |fh=>simp[cL]at h
   |ep hk=>exact key (.inl ⟨_,hv0⟩) h
   |op hk=>exact key (.inl ⟨_,hv0⟩) h
   |po hl hr=>exact key (.inr ⟨_,_,hv0⟩) h
   |om hk=>simp[cL]at h
theorem Qp{t:TypeId}{op:UnOp}{x:Operand}(ho:o.op=.unOp op t x)(hI:Inv S K w0 Kn φ (aC H) w){tv:Option TV}(hx:∀y,tv=some y->ge S w Kn φ y (ρ x))
  (h:cL call (.un op) [tv] H nxt=some (v,u,aB,n')):dK P o ρ S K w0 w Kn φ (aC H) nxt n' v u:=by
 match tv,h,hx with
 |some (.c (.d (.lit z))),h,hx=>
  change (match Q4 op z with|some v=>some (lv v,[],[],nxt)|none=>none)=_ at h;split at h
  .rename_i r hr;obtain⟨rfl,rfl,rfl,rfl⟩:lv r=v/\[]=u/\[]=aB/\nxt=n':=by simpa using h
   obtain⟨hb,_⟩:=(hx _ rfl).lit;obtain⟨h1,h2⟩:=Mt (P:=P) (w:=w) hr;exact dK.pure hI (by simp[execOp,ho,hb,h1]) (.o9 h2)
  .simp at h
theorem OT{t ty:TypeId}{op:BinOp}{x y:Operand}(ho:o.op=.binOp op t x y ty)(hI:Inv S K w0 Kn φ (aC H) w){tx tz:Option TV}(hx:∀z,tx=some z->ge S w Kn φ z (ρ x))
  (hy:∀z,tz=some z->ge S w Kn φ z (ρ y)) (h:cL call (.Au op) [tx,tz] H nxt=some (v,u,aB,n')):dK P o ρ S K w0 w Kn φ (aC H) nxt n' v u:=by
 match tx,tz,h,hx,hy with
 |some (.c (.d (.lit a))),some (.c (.d (.lit b))),h,hx,hy=>
  change (match sW op a b with|some v=>some (lv v,[],[],nxt)|none=>none)=_ at h;split at h
  .rename_i r hr;obtain⟨rfl,rfl,rfl,rfl⟩:lv r=v/\[]=u/\[]=aB/\nxt=n':=by simpa using h
   obtain⟨ha,_⟩:=(hx _ rfl).lit;obtain⟨hb,_⟩:=(hy _ rfl).lit;obtain⟨h1,h2,h3⟩:=JL (P:=P) (w:=w) (t:=t) hr;exact dK.pure hI (by simp[execOp,ho,ha,hb,h1,h3]) (.o9 h2)
  .simp at h
theorem yI{t:TypeId}(hu:P.underlying t=some .bool)(a b:Bool):(Op.equal t (.bool a) (.bool b)).run P w=.ok (a==b) w:=by show(Op.equalIn (9999+1) t (.bool a) (.bool b)).run P w=_;unfold Op.equalIn;rw[Sem.run_bind,cj hu];rfl
theorem Ik{t ty:TypeId}{op:BinOp}{x y:Operand}(ho:o.op=.binOp op t x y ty)(hop:op=.eql\/op=.neq)(hu:P.underlying t=some .bool)(hI:Inv S K w0 Kn φ (aC H) w)
  {tx tz:Option TV} (hx:∀z,tx=some z->ge S w Kn φ z (ρ x)) (hy:∀z,tz=some z->ge S w Kn φ z (ρ y))
  (h:cL call (.ve (op==.neq)) [tx,tz] H nxt=some (v,u,aB,n')):dK P o ρ S K w0 w Kn φ (aC H) nxt n' v u:=by
 match tx,tz,h,hx,hy with
 |some (.c (.d (.lit (.bool a)))),some (.c (.d (.lit (.bool b)))),h,hx,hy=>
  obtain⟨ha,_⟩:=(hx _ rfl).lit;obtain⟨hb,_⟩:=(hy _ rfl).lit;change some (lv (.bool (if(op==.neq)then !(a==b)else a==b)),([]:fA),([]:List Nat),nxt)=_ at h;obtain⟨rfl,rfl,rfl,rfl⟩:lv (.bool (if(op==.neq)then !(a==b)else a==b))=v/\[]=u/\[]=aB/\nxt=n':=by simpa using h
  refine dK.pure hI ?_ (.o9 rfl);rcases hop with rfl|rfl
  .simp [execOp,ho,ha,hb,eqGuard,binOp,yI hu]
  .simp [execOp,ho,ha,hb,eqGuard,binOp,yI hu]
theorem FN{s d:TypeId}{k k':IntKind}{x:Operand}(ho:o.op=.convert s d x)(hs:P.underlying s=some (.int k'))(hd:P.underlying d=some (.int k))(hI:Inv S K w0 Kn φ (aC H) w)
  {tv:Option TV} (hx:∀y,tv=some y->ge S w Kn φ y (ρ x)) (h:cL call (.vY k) [tv] H nxt=some (v,u,aB,n')):dK P o ρ S K w0 w Kn φ (aC H) nxt n' v u:=by
 match tv,h,hx with
 |some (.c (.d (.lit (.int k0 n)))),h,hx=>
  obtain⟨ha,_⟩:=(hx _ rfl).lit;obtain⟨rfl,rfl,rfl,rfl⟩:lv (.int k (k.wrap n))=v/\[]=u/\[]=aB/\nxt=n':=by simpa[cL]using h
  exact dK.pure hI (by simp[execOp,ho,ha,convert,cj hs,cj hd,Conv.intToInt]) (.o9 rfl)
theorem DF{s d:TypeId}{x:Operand}(ho:o.op=.convert s d x)(hs:P.underlying s=some .string)(hd:P.underlying d=some .string)(hI:Inv S K w0 Kn φ (aC H) w)
  {tv:Option TV} (hx:∀y,tv=some y->ge S w Kn φ y (ρ x)) (h:cL call .tP [tv] H nxt=some (v,u,aB,n')):dK P o ρ S K w0 w Kn φ (aC H) nxt n' v u:=by
 match tv,h,hx with
 |some (.c (.d (.lit (.string s0)))),h,hx=>
  obtain⟨ha,_⟩:=(hx _ rfl).lit;obtain⟨rfl,rfl,rfl,rfl⟩:lv (.string s0)=v/\[]=u/\[]=aB/\nxt=n':=by simpa[cL]using h
  exact dK.pure hI (by simp[execOp,ho,ha,convert,cj hs,cj hd]) (.o9 rfl)
theorem FM{x:Operand}{i:Nat}(ho:o.op=.extract x i)(hI:Inv S K w0 Kn φ (aC H) w){tv:Option TV}(hx:∀y,tv=some y->ge S w Kn φ y (ρ x))
  (h:cL call (.extract i) [tv] H nxt=some (v,u,aB,n')):dK P o ρ S K w0 w Kn φ (aC H) nxt n' v u:=by
 match tv,h,hx with
 |some (.iP xs),h,hx=>
  change (match xs[i]?with|some v=>some (v,[],[],nxt)|none=>none)=_ at h;split at h
  .rename_i y hy;obtain⟨rfl,rfl,rfl,rfl⟩:y=v/\[]=u/\[]=aB/\nxt=n':=by simpa using h
   have hr:=hx _ rfl;generalize hv0:ρ x=val at hr;cases hr with
   |@iP _ aP hlen hr=>
    have hlt:i<aP.size:=by rw[<-hlen];exact(aq.1 hy).1
    refine dK.pure (val:=aP.getD i undef) hI ?_ (hr i y hy);simp[execOp,ho,hv0,Instr.extract,hlt]
  .simp at h
theorem BZ{s:TypeId}{f n:Nat}{fields:Array Field}{fl:Field}{x:Operand}(ho:o.op=.fieldAddr s x f)(hu:P.underlying s=some (.struct fields))(hf:fields[f]?=some fl)
  (hs:fK P fl.type=some (n+1)) (hI:Inv S K w0 Kn φ (aC H) w) {tv:Option TV} (hx:∀y,tv=some y->ge S w Kn φ y (ρ x))
  (h:cL call (.fieldAddr fl.offset (n+1)) [tv] H nxt=some (v,u,aB,n')):dK P o ρ S K w0 w Kn φ (aC H) nxt n' v u:=by
 match tv,h,hx with
 |some (.c c),h,hx=>
  change (match kc fl.offset (n+1) c with|some y=>some (TV.c y,[],[],nxt)|none=>none)=_ at h;split at h
  .rename_i y hy;obtain⟨rfl,rfl,rfl,rfl⟩:TV.c y=v/\[]=u/\[]=aB/\nxt=n':=by simpa using h
   have run:∀b off,ρ x=.pointer (some ⟨b,off,none⟩)->(execOp ρ o).run P w=.ok (.value (.pointer (some ⟨b,off+fl.offset,none⟩))) w:=by intro b off hv;simp[execOp,ho,hv,Instr.fieldAt,cj hu,hf,Instr.sureAddr,fieldPlace,gZ hs,qm]
   have hr:=hx _ rfl;generalize hv0:ρ x=val at hr;cases hr with
   |c hr=>
    cases hr with
    |d hd=>
     cases hd with
     |@pt cells b off g hb hcell hrd=>
      simp only[kc]at hy;split at hy
      .obtain rfl:=aa hy;refine dK.pure hI (run _ _ hv0) (.c (.d (.yQ hb fun j z hj=>?_)));rw[eJ]at hj;split at hj
       .rw [bW]at hj;exact⟨_,by rw[db];exact hcell _ _ hj,hrd _ _ hj⟩
       .simp at hj
      .simp at hy
     |_=>simp[kc]at hy
    |@op id off hk=>
     obtain rfl:C.op id (off+fl.offset)=y:=by simpa[kc]using hy
     refine dK.pure hI (run _ _ hv0) (.c ?_);rw[db];exact .op hk
    |@ep id cU off hk=>
     obtain rfl:C.ep id cU (off+fl.offset)=y:=by simpa[kc]using hy
     refine dK.pure hI (run _ _ hv0) (.c ?_);rw[db];exact .ep hk
    |_=>simp[kc]at hy
  .simp at h
theorem J4{str:Bool}{t:TypeId}{x:Operand}{c:Go.Call}(ho:o.op=.call c)(hcal:c.callee=.builtin .len)(hargs:c.args= #[x])(hts:c.argTypes= #[t])
  (hu:if str then P.underlying t=some .string else∃b,P.underlying t=some (.slice b)) (hI:Inv S K w0 Kn φ (aC H) w) {tv:Option TV} (hx:∀y,tv=some y->ge S w Kn φ y (ρ x))
  (h:cL call (.len str) [tv] H nxt=some (v,u,aB,n')):dK P o ρ S K w0 w Kn φ (aC H) nxt n' v u:=by
 match tv,h,hx with
 |some (.c y),h,hx=>
  change (match uH str y with|some n=>some (lv (.int .i64 n),[],[],nxt)|none=>none)=_ at h;split at h
  .rename_i n hn;obtain⟨rfl,rfl,rfl,rfl⟩:lv (.int .i64 n)=v/\[]=u/\[]=aB/\nxt=n':=by simpa using h
   refine dK.pure hI ?_ (.o9 rfl);have hr:=hx _ rfl;generalize hv0:ρ x=val at hr;cases str with
   |true=>
    simp only[if_true]at hu
    match y,hn,hr with
    |.d (.lit (.string s)),hn,hr=>
     obtain⟨rfl,_⟩:=hr.lit;obtain rfl:(s.size:Int)=n:=by simpa[uH]using hn
     simp[execOp,ho,hcal,hargs,hts,resolve,invoke,builtin,hv0,Builtin.len_,cj hu,goInt]
   |false=>
    simp only[aX,if_false]at hu;obtain⟨b,hu⟩:=hu;have hsl:∀a l k,val=.slice a l k->n=(l:Int)->(execOp ρ o).run P w=.ok (.value (.int .i64 n)) w:=by intro a l k e1 e2;simp[execOp,ho,hcal,hargs,hts,resolve,invoke,builtin,hv0,e1,e2,Builtin.len_,cj hu,goInt]
    match y,hn,hr with
    |.d (.lit (.slice none 0 0)),hn,hr=>obtain⟨rfl,_⟩:=hr.lit;exact hsl _ _ _ rfl (by simpa[uH]using hn.symm)
    |.d (.sl sz ao),hn,hr=>
     cases hr with
     |c hr=>cases hr with
      |d hd=>cases hd with|sl=>exact hsl _ _ _ rfl (by simpa[uH]using hn.symm)|t8=>exact hsl _ _ _ rfl (by simpa[uH]using hn.symm)
    |.fh sz id off len,hn,hr=>
     cases hr with
     |c hr=>cases hr with|fh=>exact hsl _ _ _ rfl (by simpa[uH]using hn.symm)
  .simp at h
theorem rW{op:BinOp}(hop:op=.eql\/op=.neq){t:TypeId}{x y:Value}{b:Bool}(a c:Operand)
  (h1:binOp .eql t x y=(do pure (.bool (<-Op.equal t x y)))) (h2:binOp .neq t x y=(do pure (.bool (!(<-Op.equal t x y)))))
  (hg:(eqGuard op t a c x y).run P w=.ok () w) (he:(Op.equal t x y).run P w=.ok b w):
  ((do eqGuard op t a c x y;binOp op t x y):Sem Value).run P w=.ok (.bool (if op==.neq then !b else b)) w:=by
 rcases hop with rfl|rfl
 .rw [Sem.run_bind,hg,Result.andThen_ok,h1,Sem.run_bind,he];rfl
 .rw [Sem.run_bind,hg,Result.andThen_ok,h2,Sem.run_bind,he];rfl
theorem rB{op:BinOp}{t:TypeId}(a c:Operand){x y:Value}(h:match x,y with|.nilIface,.nilIface=>False|.agg _,.agg _=>False|_,_=>True):
  (eqGuard op t a c x y).run P w=.ok () w:=by
 unfold eqGuard;cases op<;>simp<;>(cases x<;>cases y<;>simp_all)
theorem rE(t:TypeId)(x y:Value):Op.equal t x y=Op.equalIn (9999+1) t x y:=rfl
def Kf(P:Program)(t:TypeId):Nat->Prop
 |0=>∃x,P.underlying t=some (.slice x)
 |1=>∃x,P.underlying t=some (.pointer x)
 |2=>∃a b c,P.underlying t=some (.func a b c)
 |_=>False
theorem HP{op:BinOp}(hop:op=.eql\/op=.neq){kind:Nat}{t:TypeId}{y:C}{val:Value}{b:Bool}(a c:Operand)(hu:Kf P t kind)
  (hr:ge S w Kn φ (.c y) val) (hn:qK kind y=some b):
  ((do eqGuard op t a c val (oP kind);binOp op t val (oP kind)):Sem Value).run P w=.ok (.bool (if op==.neq then !b else b)) w/\
  ((do eqGuard op t a c (oP kind) val;binOp op t (oP kind) val):Sem Value).run P w=.ok (.bool (if op==.neq then !b else b)) w:=by
 have hsl:(∃x,P.underlying t=some (.slice x))->∀q l k,kind=0->val=.slice q l k->b=q.isNone->
   ((do eqGuard op t a c val (oP kind);binOp op t val (oP kind)):Sem Value).run P w=.ok (.bool (if op==.neq then !b else b)) w/\
   ((do eqGuard op t a c (oP kind) val;binOp op t (oP kind) val):Sem Value).run P w=.ok (.bool (if op==.neq then !b else b)) w:=by
  rintro⟨x,hu'⟩ q l k rfl rfl rfl;refine⟨rW hop a c rfl rfl (rB a c trivial) ?_,rW hop a c rfl rfl (rB a c trivial) ?_⟩
  all_goals
   rw[rE];unfold Op.equalIn;rw[Sem.run_bind,cj hu'];cases q<;>rfl
 have hpt:(∃x,P.underlying t=some (.pointer x))->∀q,kind=1->val=.pointer q->b=q.isNone->
   ((do eqGuard op t a c val (oP kind);binOp op t val (oP kind)):Sem Value).run P w=.ok (.bool (if op==.neq then !b else b)) w/\
   ((do eqGuard op t a c (oP kind) val;binOp op t (oP kind) val):Sem Value).run P w=.ok (.bool (if op==.neq then !b else b)) w:=by
  rintro⟨x,hu'⟩ q rfl rfl rfl;refine⟨rW hop a c ?_ ?_ (rB a c trivial) ?_,rW hop a c ?_ ?_ (rB a c trivial) ?_⟩
  .cases q<;>rfl
  .cases q<;>rfl
  .rw [rE];unfold Op.equalIn;rw[Sem.run_bind,cj hu'];cases q<;>rfl
  .cases q<;>rfl
  .cases q<;>rfl
  .rw [rE];unfold Op.equalIn;rw[Sem.run_bind,cj hu'];cases q<;>rfl
 have hfn:(∃x y z,P.underlying t=some (.func x y z))->kind=2->((val=.nilFunc/\b=true)\/((∃f p q,val=.func f p q)/\b=false))->
   ((do eqGuard op t a c val (oP kind);binOp op t val (oP kind)):Sem Value).run P w=.ok (.bool (if op==.neq then !b else b)) w/\
   ((do eqGuard op t a c (oP kind) val;binOp op t (oP kind) val):Sem Value).run P w=.ok (.bool (if op==.neq then !b else b)) w:=by
  rintro⟨x,y,z,hu'⟩ rfl (⟨rfl,rfl⟩|⟨⟨f,p,q,rfl⟩,rfl⟩)
  all_goals
   refine⟨rW hop a c rfl rfl (rB a c trivial) ?_,rW hop a c rfl rfl (rB a c trivial) ?_⟩
   all_goals
    rw[rE];unfold Op.equalIn;rw[Sem.run_bind,cj hu'];rfl
 cases hr with
 |c hr=>
  match kind,y,hn,hr,hu with
  |0,.d (.lit (.slice none 0 0)),hn,hr,hu=>cases hr with|d hd=>cases hd with|lit hp=>exact hsl hu _ _ _ rfl rfl (by simpa[qK]using hn.symm)
  |0,.d (.sl _ _),hn,hr,hu=>cases hr with|d hd=>cases hd with|sl=>exact hsl hu _ _ _ rfl rfl (by simpa[qK]using hn.symm)|t8=>exact hsl hu _ _ _ rfl rfl (by simpa[qK]using hn.symm)
  |0,.fh _ _ _ _,hn,hr,hu=>cases hr with|fh=>exact hsl hu _ _ _ rfl rfl (by simpa[qK]using hn.symm)
  |1,.d (.lit (.pointer none)),hn,hr,hu=>cases hr with|d hd=>cases hd with|lit hp=>exact hpt hu _ rfl rfl (by simpa[qK]using hn.symm)
  |1,.d (.pt _),hn,hr,hu=>cases hr with|d hd=>cases hd with|pt=>exact hpt hu _ rfl rfl (by simpa[qK]using hn.symm)
  |1,.ep _ _ _,hn,hr,hu=>cases hr with|ep=>exact hpt hu _ rfl rfl (by simpa[qK]using hn.symm)
  |1,.op _ _,hn,hr,hu=>cases hr with|op=>exact hpt hu _ rfl rfl (by simpa[qK]using hn.symm)
  |2,.d (.lit .nilFunc),hn,hr,hu=>cases hr with|d hd=>cases hd with|lit hp=>exact hfn hu rfl (.inl ⟨rfl,by simpa[qK]using hn.symm⟩)
  |2,.d (.fn _ _),hn,hr,hu=>cases hr with|d hd=>cases hd with|fn=>exact hfn hu rfl (.inr ⟨⟨_,_,_,rfl⟩,by simpa[qK]using hn.symm⟩)
  |2,.po _ _,hn,hr,hu=>cases hr with|po=>exact hfn hu rfl (.inr ⟨⟨_,_,_,rfl⟩,by simpa[qK]using hn.symm⟩)
theorem xy{kind:Nat}{x:Operand}(h:wM kind x=true):x=.const (oP kind):=by unfold wM at h;split at h<;>first|rfl|simp at h
theorem DD{t ty:TypeId}{op:BinOp}{x y z:Operand}{kind:Nat}(ho:o.op=.binOp op t x y ty)(hop:op=.eql\/op=.neq)(hu:Kf P t kind)(hI:Inv S K w0 Kn φ (aC H) w)
  (hc:∀v,ρ (.const v)=v) (hz:(z=x/\wM kind y=true)\/(z=y/\wM kind x=true)) {tv:Option TV} (hx:∀y,tv=some y->ge S w Kn φ y (ρ z))
  (h:cL call (.rF kind (op==.neq)) [tv] H nxt=some (v,u,aB,n')):dK P o ρ S K w0 w Kn φ (aC H) nxt n' v u:=by
 match tv,h,hx with
 |some (.c c),h,hx=>
  change (match qK kind c with|some b=>some (lv (.bool (if(op==BinOp.neq)then !b else b)),([]:fA),([]:List Nat),nxt)|none=>none)=_ at h;split at h
  .rename_i b hb;obtain⟨rfl,rfl,rfl,rfl⟩:lv (.bool (if(op==BinOp.neq)then !b else b))=v/\[]=u/\[]=aB/\nxt=n':=by simpa using h
   refine dK.pure hI ?_ (.o9 rfl);obtain⟨h1,h2⟩:=HP (P:=P) hop x y hu (hx _ rfl) hb;rcases hz with⟨rfl,hn⟩|⟨rfl,hn⟩
   .have e:=xy hn;simp only[execOp,ho,Sem.run_bind];rw[Sem.run_bind]at h1;rw[e]at h1|-;rw[hc,h1];rfl
   .have e:=xy hn;simp only[execOp,ho,Sem.run_bind];rw[Sem.run_bind]at h2;rw[e]at h2|-;rw[hc,h2];rfl
  .simp at h
end
section
variable{P:Program}{S K:Nat->Prop}{w0 w:World}{Kn:Nat->Prop}{φ:Nat->gI}{H:bM}{e:jG}{ρ:Operand->Value}{o:Oper}{call:Call}
 {nxt n':Nat} {v:TV} {u:fA} {aB:List Nat}
theorem xE{α:Type}:∀{l:List (Option α)}{xs:List α},eH l=some xs->l=xs.map some:=by
 intro l;induction l with
 |nil=>
  intro xs h;obtain rfl:[]=xs:=by simpa[eH]using h
  rfl
 |cons a l ih=>
  intro xs h;cases a with
  |none=>simp[eH]at h
  |some x=>
   simp only[eH]at h;split at h
   .rename_i ys hy;obtain rfl:=aa h;simp[ih hy]
   .simp at h
theorem v6{args:List Operand}{xs:List TV}(hρ:∀x tv,kP e x=some tv->ge S w Kn φ tv (ρ x))(h:eH (args.map (kP e))=some xs):
  xs.length=args.length/\∀(i:Nat)(x:Operand)(tv:TV),args[i]?=some x->xs[i]?=some tv->ge S w Kn φ tv (ρ x):=by
 have h1:=xE h;have hl:xs.length=args.length:=by have:=congrArg List.length h1;simpa using this.symm
 refine⟨hl,fun i x tv hx htv=>hρ x tv ?_⟩;have h2:=congrArg (fun l=>l[i]?) h1;simp only[aM,hx,htv,bY]at h2;exact aa h2
theorem MP{f:FuncId}{first captured:Array Operand}(ho:o.op=.makeFunc (.func f) first captured)(hf:first.isEmpty=true)(hI:Inv S K w0 Kn φ (aC H) w)
  (hρ:∀x tv,kP e x=some tv->ge S w Kn φ tv (ρ x)) (h:cL call (.It f) (captured.toList.map (kP e)) H nxt=some (v,u,aB,n')):dK P o ρ S K w0 w Kn φ (aC H) nxt n' v u:=by
 change (match eH (captured.toList.map (kP e))with
  |some xs=>(match eH (xs.map fun(x:TV)=>match x with|.c c=>some c|_=>none)with|some cs=>some (TV.c (.po f cs),([]:fA),([]:List Nat),nxt)|none=>none)
  |none=>none)=_ at h
 split at h
 .rename_i xs hxs;split at h
  .rename_i cs hcs;obtain⟨rfl,rfl,rfl,rfl⟩:TV.c (.po f cs)=v/\[]=u/\[]=aB/\nxt=n':=by simpa using h
   obtain⟨hl,hr⟩:=v6 hρ hxs;have h2:=xE hcs;have hl2:cs.length=xs.length:=by have:=congrArg List.length h2;simpa using this.symm
   have hf':first= #[]:=by simpa using hf
   refine dK.pure (val:=.func (.func f) #[] (captured.map ρ)) hI (by simp[execOp,ho,Instr.makeFunc,hf']) (.c (.po (by simp[hl2,hl]) fun j c hj=>?_));have hj':j<xs.length:=by rw[<-hl2];exact(aq.1 hj).1
   have h3:=congrArg (fun l=>l[j]?) h2;simp only[aM,hj,bY,aE hj']at h3;have h4:=aa h3;have hcap:j<captured.size:=by rw[hl]at hj';simpa using hj'
   have hx:=hr j captured[j] xs[j] (by simp[hcap]) (aE hj');have e1:(captured.map ρ).getD j undef=ρ captured[j]:=by simp[hcap]
   rw[e1];cases hy:xs[j]with
   |c y=>
    rw[hy]at h4 hx;obtain rfl:y=c:=by simpa using h4
    cases hx with|c hx=>exact hx
   |_=>rw[hy]at h4;simp at h4
  .simp at h
 .simp at h
theorem uL{n:Int}(h0:0<=n)(h1:n<=2147483648):IntKind.i64.wrap n=n:=by unfold IntKind.wrap IntKind.bits IntKind.signed;simp only[Bool.true_and,decide_eq_true_eq];have:n %(2^64:Int)=n:=Int.emod_eq_of_lt h0 (by omega);rw[this];split<;>omega
theorem wy{v:Value}{k:IntKind}{n:Int}(h:v=.int k n):(asInt v).run P w=.ok n w:=by subst h;simp[asInt,asIntOf]
theorem oH{v:Value}{k:IntKind}{n:Int}(h:v=.int k n):(asIntOf v).run P w=.ok (k,n) w:=by subst h;simp[asIntOf]
theorem jj{tv:Option TV}{val:Value}{n:Int}(h:cD tv=some n)(hr:∀y,tv=some y->ge S w Kn φ y val):∃k,val=.int k n:=by
 unfold cD at h;split at h
 .obtain rfl:=aa h;obtain⟨hv,_⟩:=(hr _ rfl).lit;exact⟨_,hv⟩
 .simp at h
theorem jN{v:Value}{k:IntKind}{n:Int}{y:Nat}{code:BoundsCode}(h:v=.int k n)(h0:0<=n)(h1:n<=y):(Instr.sliceBound v y code).run P w=.ok n.toNat w:=by simp only[Instr.sliceBound,Sem.run_bind,oH h,Result.andThen_ok,h0,h1,and_self,if_true,Sem.run_pure]
theorem rX{DZ:Bool}{len cap:Nat}{lo hi:Option Value}{l h:Option Int}(hlo':lo.isSome=l.isSome)(hl1:∀x,lo=some x->∃k n,x=.int k n/\l=some n)
  (hhi':hi.isSome=h.isSome) (hhi:∀x,hi=some x->∃k n,x=.int k n/\h=some n)
  (h0:0<=l.getD 0) (h1:l.getD 0<=h.getD len) (h2:h.getD len<=cap):
  (Instr.sliceBounds DZ len cap lo hi none).run P w=.ok ((l.getD 0).toNat,(h.getD len).toNat,cap) w:=by
 unfold Instr.sliceBounds;cases hi with
 |none=>
  cases h with
  |some _=>simp at hhi'
  |none=>
   cases lo with
   |none=>cases l with|some _=>simp at hlo'|none=>simp
   |some x=>obtain⟨k,n,rfl,rfl⟩:=hl1 x rfl;simp only[fH,Option.getD_none]at h0 h1;have:=jN (P:=P) (w:=w) (v:=.int k n) (y:=len) (code:=.sliceB) rfl h0 h1;simp[this]
 |some y=>
  obtain⟨k,n,rfl,rfl⟩:=hhi y rfl;simp only[fH]at h1 h2;have hb:=jN (P:=P) (w:=w) (v:=.int k n) (y:=cap) (code:=if DZ then .sliceAcap else .sliceAlen) rfl (by omega) h2;cases lo with
  |none=>cases l with|some _=>simp at hlo'|none=>simp[hb]
  |some x=>obtain⟨k',n',rfl,rfl⟩:=hl1 x rfl;simp only[fH]at h0 h1;have:=jN (P:=P) (w:=w) (v:=.int k' n') (y:=n.toNat) (code:=.sliceB) rfl h0 (by omega);simp[hb,this]
theorem C5{str:Bool}{sz:Nat}{t:TypeId}{x y:C}{val:Value}{lo hi:Option Value}{l h:Option Int}
  (hu:if str then P.underlying t=some .string else∃el,P.underlying t=some (.slice el)/\fK P el=some sz) (hr:RC S w Kn φ x val)
  (hlo':lo.isSome=l.isSome) (hl1:∀x,lo=some x->∃k n,x=.int k n/\l=some n) (hhi':hi.isSome=h.isSome) (hhi:∀x,hi=some x->∃k n,x=.int k n/\h=some n)
  (hs:fQ str sz x l h=some y):∃val',(Instr.sliceAt t val lo hi none).run P w=.ok val' w/\RC S w Kn φ y val':=by
 unfold fQ at hs;cases str with
 |true=>
  simp only[if_true]at hs hu;split at hs
  .rename_i s;split at hs
   .rename_i hb;obtain⟨hb1,hb2,hb3⟩:=hb;obtain rfl:=aa hs;cases hr with
    |d hd=>cases hd with|lit hp=>have:=rX (P:=P) (w:=w) (DZ:=false) (len:=s.size) (cap:=s.size) hlo' hl1 hhi' hhi hb1 hb2 hb3;exact⟨.string (s.extract (l.getD 0).toNat (h.getD s.size).toNat),by simp[Instr.sliceAt,Instr.slice,cj hu,this],.d (.lit rfl)⟩
   .simp at hs
  .simp at hs
 |false=>
  simp only[aX,if_false]at hs hu;obtain⟨el,hu,hsz⟩:=hu
  have run:∀(a:Addr)(len cap:Nat),val=.slice (some a) len cap->0<=l.getD 0->l.getD 0<=h.getD len->h.getD len<=cap->(cap≠(l.getD 0).toNat->a.spot=none)->
    (Instr.sliceAt t val lo hi none).run P w=.ok (.slice (some (if cap=(l.getD 0).toNat then a else⟨a.block,a.off+(l.getD 0).toNat*sz,none⟩))
     ((h.getD len).toNat-(l.getD 0).toNat) (cap-(l.getD 0).toNat)) w:=by
   intro a len cap hv h0 h1 h2 hsp;have hb:=rX (P:=P) (w:=w) (DZ:=true) (len:=len) (cap:=cap) hlo' hl1 hhi' hhi h0 h1 h2;simp only[Instr.sliceAt,Instr.slice,Sem.run_bind,cj hu,Result.andThen_ok,hv,hb,gZ hsz,Sem.run_pure];congr 2;split
   .rfl
   .rename_i hne;obtain⟨b,off,spot⟩:=a;obtain rfl:spot=none:=hsp hne;simp[qm]
  split at hs
  .split at hs
   .rename_i hb;obtain⟨hb1,hb2,hb3⟩:=hb;obtain rfl:=aa hs;cases hr with
    |d hd=>cases hd with
     |lit hp=>
      have e1:l.getD 0=0:=by omega
      have e2:h.getD 0=0:=by omega
      have hb:=rX (P:=P) (w:=w) (DZ:=true) (len:=0) (cap:=0) hlo' hl1 hhi' hhi hb1 (by simpa using hb2) (by simpa using hb3);refine⟨.slice none 0 0,?_,.d (.lit rfl)⟩;have e3:h.getD (((0:Nat):Int))=0:=e2;rw[e1,e3]at hb;simp only[Instr.sliceAt,Instr.slice,Sem.run_bind,cj hu,Result.andThen_ok,hb,gZ hsz,Sem.run_pure];rfl
   .simp at hs
  .rename_i sz' id off len;split at hs
   .rename_i hb;obtain⟨hb0,hb1,hb2,hb3⟩:=hb;obtain rfl:=aa hs;cases hr with
    |@fh _ _ _ cap addr hk hcap haddr hext hcl=>
     subst hb0;refine⟨_,run _ len cap rfl hb1 hb2 (by omega) (fun _=>rfl),?_⟩;have hle:(l.getD 0).toNat<=cap:=by omega
     by_cases e:cap=(l.getD 0).toNat
     .rw [if_pos e];exact .fh hk (by omega) (fun h=>by omega) (by rw[<-e,Nat.sub_self];omega) (by omega)
     .rw [if_neg e];have ha:=haddr (by omega);refine .fh hk (by omega) (fun _=>?_) ?_ (by omega)
      .show addr+_=_;rw[ha,b_];omega
      .have:(l.getD 0).toNat*(φ id).sz+(cap-(l.getD 0).toNat)*(φ id).sz=cap*(φ id).sz:=by rw[<-b_];congr 1;omega
       show addr+_+_<=_;omega
   .simp at hs
  .rename_i sz' ao;split at hs
   .rename_i hb;obtain⟨hb0,hb1,hb2,hb3⟩:=hb;obtain rfl:=aa hs;cases hr with
    |d hd=>
     cases hd with
     |@sl _ _ b off cap g hb hsz0 hcap hrow hcell hrd=>
      subst hb0;refine⟨_,run _ ao.length cap rfl hb1 hb2 (by omega) (fun _=>rfl),?_⟩;have hR:cT S w sz' (fun i=>w.cell? ⟨b,i,none⟩) off ao:=⟨hrow,fun i r hi j x hj=>⟨_,hcell i r hi j x hj,hrd i r hi j x hj⟩⟩
      have hlen:((ao.drop (l.getD 0).toNat).take ((h.getD ao.length).toNat-(l.getD 0).toNat)).length=(h.getD ao.length).toNat-(l.getD 0).toNat:=by simp;omega
      by_cases e:cap=(l.getD 0).toNat
      .rw [if_pos e];exact .d (.AJ hb hsz0 hlen (by omega) (hR.xI _ _ fun h=>by omega))
      .rw [if_neg e];exact .d (.AJ hb hsz0 hlen (by omega) (hR.xI _ _ fun _=>rfl))
     |@t8 _ a hsz0=>
      subst hb0;simp only[kC]at hb1 hb2 hb3;have e1:l.getD 0=0:=by have h2:l.getD 0<=h.getD 0:=hb2;have h3:h.getD 0<=0:=hb3;omega
      refine⟨_,run _ 0 0 rfl hb1 hb2 (by simpa using hb3) (fun hne=>absurd (by rw[e1];rfl) hne),?_⟩;rw[if_pos (by rw[e1];rfl)];have e2:(([]:List (List D)).drop (l.getD 0).toNat).take ((h.getD ([]:List (List D)).length).toNat-(l.getD 0).toNat)=[]:=by simp
      rw[e2];have e3:(h.getD ((0:Nat):Int)).toNat-(l.getD 0).toNat=0:=by have h3:h.getD 0<=0:=hb3;have h4:h.getD ((0:Nat):Int)=h.getD 0:=rfl;rw[h4];omega
      have e4:(0:Nat)-(l.getD 0).toNat=0:=by omega
      first
       |(rw[e3,e4];exact .d (.t8 hsz0))
       |(simp[e1]at hb3|-;exact .d (.t8 hsz0))
   .simp at hs
  .simp at hs
theorem yG{str:Bool}{sz:Nat}{t:TypeId}{x y:C}{val:Value}{lo:Option Value}{hi:Value}{k2:IntKind}{l:Option Int}{h:Int}{aB:List Nat}(hI:Inv S K w0 Kn φ (aC H) w)
  (hu:if str then P.underlying t=some .string else∃el,P.underlying t=some (.slice el)/\fK P el=some sz) (hr:RC S w Kn φ x val)
  (hlo':lo.isSome=l.isSome) (hl1:∀x,lo=some x->∃k n,x=.int k n/\l=some n) (hhi:hi=.int k2 h) (hs:od str sz x (l.getD 0) h H=some (y,aB)):∃val',(Instr.sliceAt t val lo (some hi) none).run P w=.ok val' w/\RC S w Kn φ y val':=by
 unfold od at hs;split at hs
 case h_2=>simp at hs
 rename_i sz' id off len;simp only[aX,if_false]at hu;obtain⟨el,hu,hsz⟩:=hu
 have key:sz'=sz/\0<=l.getD 0/\l.getD 0<=h/\off+h.toNat<=(φ id).cap/\y=.fh sz id (off+(l.getD 0).toNat) (h.toNat-(l.getD 0).toNat):=by
  split at hs
  .rename_i szo ao hob;split at hs
   case isFalse=>simp at hs
   rename_i hb;obtain⟨hb0,hb1,hb2,hb3⟩:=hb;obtain⟨rfl,_⟩:=ad (aa hs);obtain⟨_,h0⟩:=hI.iN _ _ hob;have hvis:ao.length<=(φ id).cap:=by cases h0 with|aP hsz0 hl hS hK hown hext hfit hrr hvis=>exact hvis
   exact⟨hb0,hb1,hb2,by omega,rfl⟩
  .rename_i szo ao cp hob;split at hs
   case isFalse=>simp at hs
   rename_i hb;obtain⟨hb0,hb1,hb2,hb3⟩:=hb;obtain⟨rfl,_⟩:=ad (aa hs);obtain⟨_,h0⟩:=hI.iN _ _ hob;have hvis:(φ id).cap=cp:=by cases h0 with|cap hsz0 hl hS hK hown hext hfit hrr hvis hc=>exact hc
   exact⟨hb0,hb1,hb2,by omega,rfl⟩
  .simp at hs
 obtain⟨hb0,hb1,hb2,hvis,rfl⟩:=key;cases hr with
 |@fh _ _ _ cap addr hk hcap haddr hext hcl=>
  subst hb0;have hc:h<=cap:=by omega
  have hbd:=rX (P:=P) (w:=w) (DZ:=true) (len:=len) (cap:=cap) (lo:=lo) (hi:=some hi) (l:=l) (h:=some h) hlo' hl1 rfl (fun x hx=>⟨k2,h,by rw[<-aa hx,hhi],rfl⟩) hb1 hb2 hc;simp only[fH]at hbd;generalize l.getD 0=l at*;refine⟨.slice (some (if cap=l.toNat then⟨(φ id).cY,addr,none⟩else⟨(φ id).cY,addr+l.toNat*(φ id).sz,none⟩)) (h.toNat-l.toNat) (cap-l.toNat),?_,?_⟩
  .simp only[Instr.sliceAt,Instr.slice,Sem.run_bind,cj hu,Result.andThen_ok,hbd,gZ hsz,Sem.run_pure];congr 2;split
   .rfl
   .simp [qm]
  .have hle:l.toNat<=cap:=by omega
   by_cases e:cap=l.toNat
   .rw [if_pos e];exact .fh hk (by omega) (fun h=>by omega) (by rw[<-e,Nat.sub_self];omega) (by omega)
   .rw [if_neg e];have ha:=haddr (by omega);refine .fh hk (by omega) (fun _=>?_) ?_ (by omega)
    .rw [ha,b_];omega
    .have:l.toNat*(φ id).sz+(cap-l.toNat)*(φ id).sz=cap*(φ id).sz:=by rw[<-b_];congr 1;omega
     omega
theorem Ii{sz:Nat}{t:TypeId}{el:TypeId}{x a b c:Operand}(ho:o.op=.slice t x (some a) (some b) (some c))
  (hu:P.underlying t=some (.slice el)) (hsz:fK P el=some sz) (hI:Inv S K w0 Kn φ (aC H) w) (hn0:nxt<n'->¬Kn nxt)
  (hρ:∀x tv,kP e x=some tv->ge S w Kn φ tv (ρ x))
  (h:cL call (.BI sz) ([x,a,b,c].map (kP e)) H nxt=some (v,u,aB,n')):dK P o ρ S K w0 w Kn φ (aC H) nxt n' v u:=by
 simp only[aD,bh]at h;cases hx:kP e x with
 |none=>rw[hx]at h;simp[cL]at h
 |some tv=>
  rw[hx]at h;cases tv with
  |agg cs=>simp[cL]at h
  |iP xs=>simp[cL]at h
  |c xc=>
   have hr:=hρ x _ hx;cases hr with
   |c hr=>
   change (match cD (kP e a),cD (kP e b),cD (kP e c)with
    |some l,some u,some m=>(match Lo sz xc l u m nxt with|some y=>some (TV.c y,([]:fA),([]:List Nat),nxt+1)|none=>none)
    |_,_,_=>none)=_ at h
   split at h
   .rename_i l hh m hl hhh hm;obtain⟨k1,e1⟩:=jj hl (hρ a);obtain⟨k2,e2⟩:=jj hhh (hρ b);obtain⟨k3,e3⟩:=jj hm (hρ c);split at h
    .rename_i y hy;obtain⟨rfl,rfl,rfl,rfl⟩:TV.c y=v/\[]=u/\[]=aB/\nxt+1=n':=by simpa using h
     unfold Lo at hy;split at hy
     .rename_i sz' id off len;split at hy
      .rename_i hb;obtain⟨hb0,hb1,hb2,hb3,hb4⟩:=hb;obtain rfl:=aa hy;have hn:=hn0 (bl _);generalize hv0:ρ x=val at hr;cases hr with
       |@fh _ _ _ cap addr hk hcap haddr hext hcl=>
        subst hb0;have s1:=jN (P:=P) (w:=w) (v:=.int k3 m) (y:=cap) (code:=.slice3Acap) rfl (by omega) (by omega);have s2:=jN (P:=P) (w:=w) (v:=.int k2 hh) (y:=m.toNat) (code:=.slice3B) rfl (by omega) (by omega);have s3:=jN (P:=P) (w:=w) (v:=.int k1 l) (y:=hh.toNat) (code:=.slice3C) rfl (by omega) (by omega);have hbd:(Instr.sliceBounds true len cap (some (.int k1 l)) (some (.int k2 hh)) (some (.int k3 m))).run P w=.ok (l.toNat,hh.toNat,m.toNat) w:=by unfold Instr.sliceBounds;simp[s1,s2,s3]
        let loc:gI:=⟨(φ id).cY,if m.toNat=l.toNat then addr else addr+l.toNat*(φ id).sz,(φ id).sz,(φ id).ext,m.toNat-l.toNat⟩
        have hlt:l.toNat*(φ id).sz+(m.toNat-l.toNat)*(φ id).sz<=cap*(φ id).sz:=by rw[<-b_];exact aO _ (by omega)
        refine⟨.value (.slice (some (if m.toNat=l.toNat then⟨(φ id).cY,addr,none⟩else⟨(φ id).cY,addr+l.toNat*(φ id).sz,none⟩)) (hh.toNat-l.toNat) (m.toNat-l.toNat)),_,w,?_,.inl rfl,bQ _,S,ext φ nxt loc,gU.refl _ _,⟨fun _ h=>.inl h,(jH _ hn).eu⟩,.c ?_,?_⟩
        .simp only[execOp,ho,bY,hv0,e1,e2,e3,Instr.sliceAt,Instr.slice,Sem.run_bind,cj hu,Result.andThen_ok,hbd,gZ hsz,Sem.run_pure];congr 3;split
         .rfl
         .simp [qm]
        .have e:ext φ nxt loc nxt=loc:=by simp[ext]
         have:=RC.fh (S:=S) (w:=w) (Kn:=pJ Kn nxt (nxt+1)) (φ:=ext φ nxt loc) (id:=nxt) (off:=0) (len:=hh.toNat-l.toNat) (cap:=m.toNat-l.toNat) (addr:=loc.aT)
          (.inr (by omega)) (by omega) (by rw[e];simp) (by
           rw[e];show(if m.toNat=l.toNat then addr else addr+l.toNat*(φ id).sz)+(m.toNat-l.toNat)*(φ id).sz<=(φ id).ext;split
           .rename_i q;rw[q,Nat.sub_self];omega
           .omega) (by rw[e];exact bN _)
         rw[e]at this;have e4:(if m.toNat=l.toNat then(⟨(φ id).cY,addr,none⟩:Addr)else⟨(φ id).cY,addr+l.toNat*(φ id).sz,none⟩)=⟨(φ id).cY,if m.toNat=l.toNat then addr else addr+l.toNat*(φ id).sz,none⟩:=by split<;>rfl
         rw[e4];exact this
        .have hren:=jH (Kn:=Kn) (φ:=φ) loc hn;have:=hI.ja (gU.refl _ _) hren hI.vn hI.sk hI.nD (hf':=aC H) (fun i o ho=>.inl ⟨ho,fun hown=>⟨rfl,((hI.iN i o ho).2.bG hown).1⟩⟩) (fun i j a b hi hj oa ob hne=>by rw[hren.eu _ (hI.iN i a hi).1,hren.eu _ (hI.iN j b hj).1];exact hI.jE i j a b hi hj oa ob hne) (hI.Df hren fun _ _=>rfl);exact this.xK fun j=>qa j
      .simp at hy
     .simp at hy
    .simp at h
   .simp at h
theorem Dz{str:Bool}{sz:Nat}{t:TypeId}{x:Operand}{lo hi:Option Operand}(ho:o.op=.slice t x lo hi none)
  (hu:if str then P.underlying t=some .string else∃el,P.underlying t=some (.slice el)/\fK P el=some sz) (hI:Inv S K w0 Kn φ (aC H) w)
  (hρ:∀x tv,kP e x=some tv->ge S w Kn φ tv (ρ x))
  (h:cL call (.slice str sz lo.isSome hi.isSome) ((x::lo.toList++hi.toList).map (kP e)) H nxt=some (v,u,aB,n')):dK P o ρ S K w0 w Kn φ (aC H) nxt n' v u:=by
 simp only[List.cons_append,aD,List.map_append]at h;cases hx:kP e x with
 |none=>rw[hx]at h;cases lo<;>cases hi<;>simp[cL]at h
 |some tv=>
  rw[hx]at h;cases tv with
  |agg cs=>cases lo<;>cases hi<;>simp[cL]at h
  |iP xs=>cases lo<;>cases hi<;>simp[cL]at h
  |c c=>
   have hr:=hρ x _ hx;cases hr with
   |c hr=>
   have fin:∀l h',lo.isSome=l.isSome->(∀y,lo=some y->cD (kP e y)=l)->hi.isSome=h'.isSome->(∀y,hi=some y->cD (kP e y)=h')->
     (match fQ str sz c l h' with|some y=>some (TV.c y,([]:fA),([]:List Nat),nxt)|none=>none)=some (v,u,aB,n')->dK P o ρ S K w0 w Kn φ (aC H) nxt n' v u:=by
    intro l h' e1 e2 e3 e4 hm;split at hm
    .rename_i y hy;obtain⟨rfl,rfl,rfl,rfl⟩:TV.c y=v/\[]=u/\[]=aB/\nxt=n':=by simpa using hm
     have conv:∀(q:Option Operand)(l:Option Int),q.isSome=l.isSome->(∀y,q=some y->cD (kP e y)=l)->∀x,q.map ρ=some x->∃k n,x=.int k n/\l=some n:=by
      intro q l e1 e2 x hq;cases q with
      |none=>simp at hq
      |some y=>
       obtain rfl:ρ y=x:=by simpa using hq
       cases l with|none=>simp at e1|some n=>obtain⟨k,hk⟩:=jj (e2 y rfl) (hρ y);exact⟨k,n,hk,rfl⟩
     obtain⟨val',h1,h2⟩:=C5 (P:=P) (lo:=lo.map ρ) (hi:=hi.map ρ) hu hr (by simpa using e1) (conv lo l e1 e2) (by simpa using e3) (conv hi h' e3 e4) hy;exact dK.pure hI (by simp[execOp,ho,h1]) (.c h2)
    .simp at hm
   cases lo with
   |none=>
    cases hi with
    |none=>exact fin none none rfl (fun y hy=>by simp at hy) rfl (fun y hy=>by simp at hy) h
    |some z=>
     change (match cD (kP e z)with|some u=>(match fQ str sz c none (some u)with|some y=>some (TV.c y,([]:fA),([]:List Nat),nxt)|none=>(match od str sz c 0 u H with|some (y,aB)=>some (TV.c y,([]:fA),aB,nxt)|none=>none))|none=>none)=_ at h;split at h
     .rename_i n hn;split at h
      .rename_i y hy;exact fin none (some n) rfl (fun y hy=>by simp at hy) rfl (fun y hy=>aa hy▸hn) (by rw[hy];exact h)
      .split at h
       .rename_i y ids1 hy;obtain⟨rfl,rfl,_,rfl⟩:TV.c y=v/\[]=u/\ids1=aB/\nxt=n':=by simpa using h
        obtain⟨k2,e2⟩:=jj hn (hρ z);obtain⟨val',h1,h2⟩:=yG (P:=P) (t:=t) (lo:=none) (l:=none) hI hu hr rfl (fun x hx=>by simp at hx) e2 hy;exact dK.pure hI (by simp[execOp,ho,h1]) (.c h2)
       .simp at h
     .simp at h
   |some q=>
    cases hi with
    |none=>
     change (match cD (kP e q)with|some l=>(match fQ str sz c (some l) none with|some y=>some (TV.c y,([]:fA),([]:List Nat),nxt)|none=>none)|none=>none)=_ at h;split at h
     .rename_i n hn;exact fin (some n) none rfl (fun y hy=>aa hy▸hn) rfl (fun y hy=>by simp at hy) h
     .simp at h
    |some z=>
     change (match cD (kP e q),cD (kP e z)with
      |some l,some u=>(match fQ str sz c (some l) (some u)with
       |some y=>some (TV.c y,([]:fA),([]:List Nat),nxt)
       |none=>(match od str sz c l u H with|some (y,aB)=>some (TV.c y,([]:fA),aB,nxt)|none=>none))
      |_,_=>none)=_ at h
     split at h
     .rename_i m n hm hn;split at h
      .rename_i y hy;exact fin (some m) (some n) rfl (fun y hy=>aa hy▸hm) rfl (fun y hy=>aa hy▸hn) (by rw[hy];exact h)
      .split at h
       .rename_i y ids1 hy;obtain⟨rfl,rfl,_,rfl⟩:TV.c y=v/\[]=u/\ids1=aB/\nxt=n':=by simpa using h
        obtain⟨k1,e1⟩:=jj hm (hρ q);obtain⟨k2,e2⟩:=jj hn (hρ z);obtain⟨val',h1,h2⟩:=yG (P:=P) (t:=t) (lo:=some (ρ q)) (l:=some m) hI hu hr rfl (fun x hx=>⟨k1,m,by rw[<-aa hx,e1],rfl⟩) e2 hy;exact dK.pure hI (by simp[execOp,ho,h1]) (.c h2)
       .simp at h
     .simp at h
theorem vH{t:TypeId}{x i:Operand}{aP:Option Nat}{sz:Nat}(ho:o.op=.indexAddr t x i)
  (hu:match aP with|none=>∃el,P.underlying t=some (.slice el)/\fK P el=some sz|some len=>∃el,P.underlying t=some (.array len el)/\fK P el=some sz)
  (hI:Inv S K w0 Kn φ (aC H) w) {tx ti:Option TV} (hx:∀y,tx=some y->ge S w Kn φ y (ρ x)) (hi:∀y,ti=some y->ge S w Kn φ y (ρ i))
  (h:cL call (.indexAddr aP sz) [tx,ti] H nxt=some (v,u,aB,n')):dK P o ρ S K w0 w Kn φ (aC H) nxt n' v u:=by
 match tx,h,hx with
 |some (.c c),h,hx=>
  change (match cD ti with|some i=>(match iI aP sz c i with|some y=>some (TV.c y,([]:fA),([]:List Nat),nxt)|none=>none)|none=>none)=_ at h;split at h
  .rename_i n hn;obtain⟨k,hk⟩:=jj hn hi;split at h
   .rename_i y hy;obtain⟨rfl,rfl,rfl,rfl⟩:TV.c y=v/\[]=u/\[]=aB/\nxt=n':=by simpa using h
    have hr:=hx _ rfl;generalize hv0:ρ x=val at hr;cases hr with
    |c hr=>
    cases aP with
    |none=>
     obtain⟨el,hu,hsz⟩:=hu;simp only[iI]at hy;have run:∀b off len cap,val=.slice (some ⟨b,off,none⟩) len cap->0<=n->n<len->(execOp ρ o).run P w=.ok (.value (.pointer (some ⟨b,off+n.toNat*sz,none⟩))) w:=by intro b off len cap hv h0 h1;simp[execOp,ho,hv0,hv,Instr.indexAt,oH hk,cj hu,h0,h1,gZ hsz,qm]
     split at hy
     .rename_i sz' id off len;split at hy
      .rename_i hb;obtain⟨h0,h1,rfl⟩:=hb;obtain rfl:=aa hy;cases hr with
       |@fh _ _ _ cap addr hkn hcap haddr hext=>
        refine dK.pure hI (run _ _ _ _ rfl h0 h1) (.c ?_);have ha:=haddr (by omega);have e1:addr+n.toNat*(φ id).sz=(φ id).aT+(off+n.toNat)*(φ id).sz+0:=by rw[ha,b_];omega
        rw[e1];exact .ep hkn
      .simp at hy
     .rename_i sz' ao;split at hy
      .rename_i hb;obtain⟨h0,rfl⟩:=hb;split at hy
       .rename_i r hr';obtain rfl:=aa hy;cases hr with
        |d hd=>cases hd with|@sl _ _ b off cap g hb hsz0 hcap hrow hcell hrd=>have hlt:n.toNat<ao.length:=(aq.1 hr').1;refine dK.pure hI (run _ _ _ _ rfl h0 (by omega)) (.c (.d (.yQ hb fun j z hj=>⟨_,hcell _ _ hr' j z hj,hrd _ _ hr' j z hj⟩)))|t8=>simp at hr'
       .simp at hy
      .simp at hy
     .simp at hy
    |some len=>
     obtain⟨el,hu,hsz⟩:=hu;simp only[iI]at hy;split at hy
     .rename_i hb;obtain⟨h0,h1⟩:=hb;have run:∀b off,val=.pointer (some ⟨b,off,none⟩)->(execOp ρ o).run P w=.ok (.value (.pointer (some ⟨b,off+n.toNat*sz,none⟩))) w:=by intro b off hv;have hu':∀w,(underlying t).run P w=.ok (.array len el) w:=cj hu;simp only[execOp,ho,hv0,hv,Instr.indexAt,Sem.run_bind,oH hk,Result.andThen_ok,hu',Instr.sureAddr,Sem.run_pure,h0,h1,and_self,if_true,gZ hsz,qm]
      split at hy
      .rename_i id off;obtain rfl:=aa hy;cases hr with|op hkn=>refine dK.pure hI (run _ _ rfl) (.c ?_);rw[db];exact .op hkn
      .rename_i id cU off;obtain rfl:=aa hy;cases hr with|ep hkn=>refine dK.pure hI (run _ _ rfl) (.c ?_);rw[db];exact .ep hkn
      .rename_i cells;split at hy
       .obtain rfl:=aa hy;cases hr with
        |d hd=>
         cases hd with
         |@pt _ b off g hb hcell hrd=>
          refine dK.pure hI (run _ _ rfl) (.c (.d (.yQ hb fun j z hj=>?_)));rw[eJ]at hj;split at hj
          .rw [bW]at hj;exact⟨_,by rw[db];exact hcell _ _ hj,hrd _ _ hj⟩
          .simp at hj
       .simp at hy
      .simp at hy
     .simp at hy
   .simp at h
  .simp at h
theorem DC{t:TypeId}{x i:Operand}(ho:o.op=.index t x i)(hu:P.underlying t=some .string)(hI:Inv S K w0 Kn φ (aC H) w)
  {tx ti:Option TV} (hx:∀y,tx=some y->ge S w Kn φ y (ρ x)) (hi:∀y,ti=some y->ge S w Kn φ y (ρ i))
  (h:cL call .qb [tx,ti] H nxt=some (v,u,aB,n')):dK P o ρ S K w0 w Kn φ (aC H) nxt n' v u:=by
 match tx,h,hx with
 |some (.c (.d (.lit (.string s)))),h,hx=>
  change (match cD ti with|some i=>(match(if 0<=i then s[i.toNat]?else none)with|some b=>some (lv (.int .u8 b.toNat),([]:fA),([]:List Nat),nxt)|none=>none)|none=>none)=_ at h;split at h
  .rename_i n hn;obtain⟨k,hk⟩:=jj hn hi;split at h
   .rename_i b hb;obtain⟨rfl,rfl,rfl,rfl⟩:lv (.int .u8 b.toNat)=v/\[]=u/\[]=aB/\nxt=n':=by simpa using h
    obtain⟨hv,_⟩:=(hx _ rfl).lit;exact dK.pure hI (by simp[execOp,ho,hv,Instr.index,oH hk,cj hu,hb]) (.o9 rfl)
   .simp at h
  .simp at h
theorem C4{t:TypeId}{agg:Bool}{n off:Nat}(ha:fS P t=some agg)(hn:fK P t=some n){cs:List C}{aP:Array Value}{v:TV}(hlen:cs.length=aP.size)
  (hc:∀(i:Nat)(x:C),cs[i]?=some x->RC S w Kn φ x (aP.getD i undef)) (h:DT agg n (cs.drop off)=some v):∃val,(part t aP off).run P w=.ok val w/\ge S w Kn φ v val:=by
 unfold DT at h;cases agg with
 |true=>
  simp only[if_true]at h;split at h
  .rename_i hle;obtain rfl:=aa h;simp only[List.length_drop]at hle;refine⟨.agg (aP.extract off (off+n)),by simp[part,t_ ha,gZ hn],.agg ?_ fun i x hi=>?_⟩
   .simp;omega
   .rw [eJ]at hi;split at hi
    .rename_i hin;rw[bW]at hi;have hlt:off+i<aP.size:=by rw[<-hlen];exact(aq.1 hi).1
     have e1:(aP.extract off (off+n)).getD i undef=aP.getD (off+i) undef:=by
      have h1:(aP.extract off (off+n))[i]?=aP[off+i]?:=by rw[Array.getElem?_extract,if_pos (by omega)]
      simp only[Array.getD_eq_getD_getElem?,h1]
     rw[e1];exact hc _ _ hi
    .simp at hi
  .simp at h
 |false=>
  simp only[aX,if_false]at h;split at h
  .rename_i x r hd;obtain rfl:=aa h;have hx:cs[off]?=some x:=by have:=congrArg (fun l=>l[0]?) hd;simpa using this
   have hlt:off<aP.size:=by rw[<-hlen];exact(aq.1 hx).1
   refine⟨aP.getD off undef,?_,.c (hc _ _ hx)⟩;simp[part,t_ ha,hlt]
  .simp at h
theorem J6{s:TypeId}{f n:Nat}{agg:Bool}{fields:Array Field}{fl:Field}{x:Operand}(ho:o.op=.field s x f)(hu:P.underlying s=some (.struct fields))(hf:fields[f]?=some fl)
  (ha:fS P fl.type=some agg) (hs:fK P fl.type=some n) (hI:Inv S K w0 Kn φ (aC H) w) {tv:Option TV} (hx:∀y,tv=some y->ge S w Kn φ y (ρ x))
  (h:cL call (.field agg fl.offset n) [tv] H nxt=some (v,u,aB,n')):dK P o ρ S K w0 w Kn φ (aC H) nxt n' v u:=by
 match tv,h,hx with
 |some (.agg cs),h,hx=>
  change (match DT agg n (cs.drop fl.offset)with|some v=>some (v,([]:fA),([]:List Nat),nxt)|none=>none)=_ at h;split at h
  .rename_i y hy;obtain⟨rfl,rfl,rfl,rfl⟩:y=v/\[]=u/\[]=aB/\nxt=n':=by simpa using h
   have hr:=hx _ rfl;generalize hv0:ρ x=val at hr;cases hr with|agg hlen hc=>obtain⟨val,h1,h2⟩:=C4 ha hs hlen hc hy;exact dK.pure hI (by simp[execOp,ho,hv0,Instr.field,cj hu,hf,asAgg,h1]) h2
  .simp at h
theorem J5{t el:TypeId}{len n:Nat}{agg:Bool}{x i:Operand}(ho:o.op=.index t x i)(hu:P.underlying t=some (.array len el))
  (ha:fS P el=some agg) (hs:fK P el=some n) (hI:Inv S K w0 Kn φ (aC H) w) {tx ti:Option TV} (hx:∀y,tx=some y->ge S w Kn φ y (ρ x)) (hi:∀y,ti=some y->ge S w Kn φ y (ρ i))
  (h:cL call (.index agg len n) [tx,ti] H nxt=some (v,u,aB,n')):dK P o ρ S K w0 w Kn φ (aC H) nxt n' v u:=by
 match tx,h,hx with
 |some (.agg cs),h,hx=>
  change (match cD ti with|some i=>(if 0<=i/\i<len then(match DT agg n (cs.drop (i.toNat*n))with|some v=>some (v,([]:fA),([]:List Nat),nxt)|none=>none)else none)|none=>none)=_ at h;split at h
  .rename_i m hm;obtain⟨k,hk⟩:=jj hm hi;split at h
   .rename_i hb;split at h
    .rename_i y hy;obtain⟨rfl,rfl,rfl,rfl⟩:y=v/\[]=u/\[]=aB/\nxt=n':=by simpa using h
     have hr:=hx _ rfl;generalize hv0:ρ x=val at hr;cases hr with|agg hlen hc=>obtain⟨val,h1,h2⟩:=C4 ha hs hlen hc hy;exact dK.pure hI (by simp[execOp,ho,hv0,Instr.index,oH hk,cj hu,hb.1,hb.2,gZ hs,h1]) h2
    .simp at h
   .simp at h
  .simp at h
end
section
variable{P:Program}{S K:Nat->Prop}{w0 w:World}{Kn:Nat->Prop}{φ:Nat->gI}{H:bM}{e:jG}{ρ:Operand->Value}{o:Oper}{call:Call}
 {nxt n':Nat} {v:TV} {u:fA} {aB:List Nat}
def Qa(m:Bool):Value->Value->Sem Value:=if m then Builtin.max2 else Builtin.min2
theorem Mw{m:Bool}{x y z:Value}(h:Q6 m x y=some z):(Qa m x y).run P w=.ok z w/\fB z=true:=by
 unfold Q6 at h;split at h
 .rename_i k a k' b;split at h
  .obtain rfl:=aa h;cases m<;>simp[Qa,Builtin.max2,Builtin.min2,fB]
  .simp at h
 .rename_i k a k' b;split at h
  .rename_i hk;subst hk;split at h
   .simp at h
   .rename_i ho;obtain rfl:=aa h;cases m<;>simp[Qa,Builtin.max2,Builtin.min2,fB,ho]
   .rename_i ho;obtain rfl:=aa h;cases m<;>simp[Qa,Builtin.max2,Builtin.min2,fB,ho]
   .rename_i ho;obtain rfl:=aa h;cases m<;>simp[Qa,Builtin.max2,Builtin.min2,fB,ho]
  .simp at h
 .simp at h
theorem Mv{m:Bool}(hρ:∀x tv,kP e x=some tv->ge S w Kn φ tv (ρ x)):∀(r:List Operand)(x z:Value),fB x=true->NZ m x (r.map (kP e))=some z->
  ((r.map ρ).foldlM (Qa m) x).run P w=.ok z w/\fB z=true:=by
 intro r;induction r with
 |nil=>
  intro x z hp h;obtain rfl:x=z:=by simpa[NZ]using h
  exact⟨rfl,hp⟩
 |cons a r ih=>
  intro x z hp h;simp only[aD]at h|-
  match ha:kP e a,h with
  |some (.c (.d (.lit y))),h=>
   simp only[NZ]at h;split at h
   .rename_i z' hz;obtain⟨h1,h2⟩:=Mw (P:=P) (w:=w) hz;obtain⟨hv,_⟩:=(hρ a _ ha).lit;obtain⟨h3,h4⟩:=ih z' z h2 h;refine⟨?_,h4⟩;simp only[List.foldlM_cons,Sem.run_bind,hv,h1,Result.andThen_ok,h3]
   .simp at h
theorem AW{m:Bool}{c:Go.Call}(ho:o.op=.call c)(hcal:c.callee=.builtin (if m then .max else .min))(hI:Inv S K w0 Kn φ (aC H) w)
  (hρ:∀x tv,kP e x=some tv->ge S w Kn φ tv (ρ x)) (h:cL call (.u9 m) (c.args.toList.map (kP e)) H nxt=some (v,u,aB,n')):dK P o ρ S K w0 w Kn φ (aC H) nxt n' v u:=by
 generalize hargs:c.args.toList=args at h;cases args with
 |nil=>simp[cL]at h
 |cons a r=>
  simp only[aD]at h
  match ha:kP e a,h with
  |some (.c (.d (.lit x))),h=>
   change (match NZ m x (r.map (kP e))with|some v=>some (lv v,([]:fA),([]:List Nat),nxt)|none=>none)=_ at h;split at h
   .rename_i z hz;obtain⟨rfl,rfl,rfl,rfl⟩:lv z=v/\[]=u/\[]=aB/\nxt=n':=by simpa using h
    obtain⟨hv,hp⟩:=(hρ a _ ha).lit;obtain⟨h1,h2⟩:=Mv (P:=P) hρ r x z hp hz;refine dK.pure hI ?_ (.o9 h2);have e1:List.map ρ c.args.toList=x::r.map ρ:=by rw[hargs,aD,hv]
    cases m
    .simp only[aX,if_false]at hcal;have h1':((r.map ρ).foldlM Builtin.min2 x).run P w=.ok z w:=h1;simp[execOp,ho,hcal,resolve,invoke,builtin,Builtin.min_,e1,h1']
    .simp only[if_true]at hcal;have h1':((r.map ρ).foldlM Builtin.max2 x).run P w=.ok z w:=h1;simp[execOp,ho,hcal,resolve,invoke,builtin,Builtin.max_,e1,h1']
   .simp at h
def CR(S:Nat->Prop)(w:World)(Kn:Nat->Prop)(φ:Nat->gI)(cs:List C)(vs:List Value):Prop:=cs.length=vs.length/\∀(i:Nat)(x:C)(y:Value),cs[i]?=some x->vs[i]?=some y->RC S w Kn φ x y
theorem CR.bg{cs ds:List C}{vs us:List Value}(h1:CR S w Kn φ cs vs)(h2:CR S w Kn φ ds us)(off:Nat)(hfit:off+ds.length<=cs.length):
  CR S w Kn φ (bg cs off ds) (bg vs off us):=by
 have hl1:=h1.1;have hl2:=h2.1;refine⟨by rw[eN _ _ _ hfit,eN _ _ _ (by omega)];exact h1.1,fun i x y hx hy=>?_⟩;rw[jt _ _ _ hfit]at hx;rw[jt _ _ _ (by omega)]at hy;by_cases c1:i<off
 .rw [if_pos c1]at hx hy;exact h1.2 i x y hx hy
 .rw [if_neg c1]at hx hy;by_cases c2:i<off+ds.length
  .rw [if_pos c2]at hx;rw[if_pos (by omega)]at hy;exact h2.2 _ x y hx hy
  .rw [if_neg c2]at hx;rw[if_neg (by omega)]at hy;exact h1.2 i x y hx hy
theorem ge.cr{tv:TV}{val:Value}{cs:List C}(h:ge S w Kn φ tv val)(hc:cellsOf tv=some cs):CR S w Kn φ cs val.cells.toList:=by
 obtain⟨h1,h2,_⟩:=h.cells hc;refine⟨by simpa using h1,fun i x y hx hy=>?_⟩;have:=h2 i x hx;have e1:val.cells.getD i undef=y:=by rw[bo]at hy;simp[hy]
 rwa[e1]at this
theorem Ci{cs:List C}{aP:Array Value}(h:CR S w Kn φ cs aP.toList):cs.length=aP.size/\∀(i:Nat)(x:C),cs[i]?=some x->RC S w Kn φ x (aP.getD i undef):=by
 have hl:cs.length=aP.size:=by simpa using h.1
 refine⟨hl,fun i x hx=>?_⟩;have hlt:i<aP.size:=by rw[<-hl];exact(aq.1 hx).1
 refine h.2 i x _ hx ?_;simp[hlt]
theorem KB:∀(l:List Value)(k:Nat)(aP:Array Value)(off:Nat),off+k+l.length<=aP.size->
  ((l.zipIdx k).foldl (fun(cs:Array Value)(p:Value×Nat)=>cs.setIfInBounds (off+p.2) p.1) aP).toList=bg aP.toList (off+k) l:=by
 intro l;induction l with
 |nil=>intro k aP off _;simp[bg]
 |cons a l ih=>
  intro k aP off hfit;simp only[cP]at hfit;simp only[List.zipIdx_cons,List.foldl_cons];rw[ih (k+1) (aP.setIfInBounds (off+k) a) off (by simp;omega)];apply List.ext_getElem?;intro i;rw[jt _ _ _ (by simp;omega),jt _ _ _ (by simp;omega)];simp only[Array.toList_setIfInBounds,List.getElem?_set,cP];by_cases c1:i<off+k
  .have c3:i<off+(k+1):=by omega
   have c4:¬off+k=i:=by omega
   simp[c1,c3,c4]
  .by_cases c2:i=off+k
   .subst c2;have:off+k<off+(k+1):=by omega
    have c5:off+k<aP.size:=by omega
    simp[this,c5]
   .have c3:¬i<off+(k+1):=by omega
    have c4:¬off+k=i:=by omega
    by_cases c5:i<off+k+(l.length+1)
    .have c6:i<off+(k+1)+l.length:=by omega
     have c7:i-(off+k)=(i-(off+(k+1)))+1:=by omega
     simp[c1,c3,c5,c6,c7]
    .have c6:¬i<off+(k+1)+l.length:=by omega
     simp[c1,c3,c4,c5,c6]
theorem ND(vs aP:Array Value)(off:Nat)(hfit:off+vs.size<=aP.size):
  (vs.zipIdx.foldl (fun(cs:Array Value)(p:Value×Nat)=>cs.setIfInBounds (off+p.2) p.1) aP).toList=bg aP.toList off vs.toList:=by
 rw[<-Array.foldl_toList,Array.toList_zipIdx];have:=KB vs.toList 0 aP off (by simpa using hfit);simpa using this
theorem zA(rp:Nat->Option (Nat×Nat)):∀(parts:List (Nat×Operand))(pl:List (Nat×Nat))(xs:List TV)(cs cs':List C)(aP:Array Value),
  pl.length=parts.length->(∀(i:Nat)(p:Nat×Operand)(q:Nat×Nat),parts[i]?=some p->pl[i]?=some q->rp p.1=some q)->
  xs.length=parts.length->(∀(i:Nat)(p:Nat×Operand)(x:TV),parts[i]?=some p->xs[i]?=some x->ge S w Kn φ x (ρ p.2))->
  CR S w Kn φ cs aP.toList->nn cs (pl.zip xs)=some cs'->
  ∃arr',Instr.fill rp aP (parts.map fun p=>(p.1,ρ p.2))=some arr'/\CR S w Kn φ cs' arr'.toList:=by
 intro parts;induction parts with
 |nil=>
  intro pl xs cs cs' aP h1 _ h2 _ hcr h;have e1:pl=[]:=List.length_eq_zero_iff.1 h1;subst e1;obtain rfl:cs=cs':=by simpa[nn]using h
  exact⟨aP,rfl,hcr⟩
 |cons p parts ih=>
  intro pl xs cs cs' aP h1 hpl h2 hxs hcr h;cases pl with
  |nil=>simp at h1
  |cons q pl=>
   cases xs with
   |nil=>simp at h2
   |cons x xs=>
    obtain⟨off,n⟩:=q;simp only[List.zip_cons_cons,nn]at h;split at h
    .rename_i ds hds;split at h
     .rename_i hb;obtain⟨hb1,hb2⟩:=hb;have hp:=hpl 0 p (off,n) rfl rfl;have hx:=(hxs 0 p x rfl rfl).cr hds;have hsz:(ρ p.2).cells.size=n:=by have:=hx.1;simp at this;omega
      have hal:cs.length=aP.size:=by simpa using hcr.1
      have hcr':=hcr.bg hx off (by omega);rw[<-ND (ρ p.2).cells aP off (by omega)]at hcr'
      obtain⟨arr',h3,h4⟩:=ih pl xs _ cs' _ (by simpa using h1) (fun i p q hp hq=>hpl (i+1) p q (by simpa using hp) (by simpa using hq)) (by simpa using h2)
       (fun i p x hp hx=>hxs (i+1) p x (by simpa using hp) (by simpa using hx)) hcr' h
      refine⟨arr',?_,h4⟩;simp only[aD,Instr.fill,hp];rw[if_neg (by simp[hsz];omega)];exact h3
     .simp at h
    .simp at h
theorem G_{z:List Value}(hp:∀x∈z,fB x=true):CR S w Kn φ (fk z) z:=by refine⟨by simp[fk],fun i x y hx hy=>?_⟩;simp only[fk,aM,hy,bY]at hx;obtain rfl:=aa hx;exact .d (.lit (hp y (bk hy)))
theorem FC{fields:Array Field}:∀{is:List Nat}{pl:List (Nat×Nat)},dY P fields is=some pl->pl.length=is.length/\
  ∀(k i:Nat)(q:Nat×Nat),is[k]?=some i->pl[k]?=some q->∃f,fields[i]?=some f/\q.1=f.offset/\fK P f.type=some q.2:=by
 intro is;induction is with
 |nil=>
  intro pl h;obtain rfl:[]=pl:=by simpa[dY]using h
  exact⟨rfl,fun k i q hk=>by simp at hk⟩
 |cons i is ih=>
  intro pl h;simp only[dY]at h;split at h
  .rename_i f l hf hl;split at h
   .rename_i n hn;obtain rfl:=aa h;obtain⟨h1,h2⟩:=ih hl;refine⟨by simp[h1],fun k j q hk hq=>?_⟩;cases k with
    |zero=>
     obtain rfl:i=j:=by simpa using hk
     obtain rfl:(f.offset,n)=q:=by simpa using hq
     exact⟨f,hf,rfl,hn⟩
    |succ k=>exact h2 k j q (by simpa using hk) (by simpa using hq)
   .simp at h
  .simp at h
theorem Ff(g:Field->Nat×Nat):∀(l:List Field),(∀f∈l,∃n,fK P f.type=some n/\g f=(f.offset,n))->
  (l.mapM fun f=>(do pure (f.offset,<-sizeOf f.type):Sem (Nat×Nat))).run P w=.ok (l.map g) w:=by
 intro l;induction l with|nil=>intro _;rfl|cons f l ih=>intro h;obtain⟨n,hn,hg⟩:=h f (by simp);have:=ih fun f hf=>h f (by simp[hf]);simp only[List.mapM_cons,Sem.run_bind,gZ hn,Result.andThen_ok,Sem.run_pure,this,aD,hg]
theorem DG{t:TypeId}{parts:Array (Nat×Operand)}{z:List Value}{pl:List (Nat×Nat)}(ho:o.op=.build t parts)(hz:jL P t=some z)
  (hu:(∃fields,P.underlying t=some (.struct fields)/\dY P fields (parts.toList.map (·.1))=some pl/\fields.toList.all (fun f=>(fK P f.type).isSome)=true)\/
   (∃len el n,P.underlying t=some (.array len el)/\fK P el=some n/\pl=parts.toList.map fun p=>(p.1*n,n)))
  (hI:Inv S K w0 Kn φ (aC H) w) (hρ:∀x tv,kP e x=some tv->ge S w Kn φ tv (ρ x))
  (h:cL call (.build z pl) ((parts.toList.map (·.2)).map (kP e)) H nxt=some (v,u,aB,n')):dK P o ρ S K w0 w Kn φ (aC H) nxt n' v u:=by
 change (match eH ((parts.toList.map (·.2)).map (kP e))with
  |some xs=>(match nn (fk z) (pl.zip xs)with|some cs=>some (TV.agg cs,([]:fA),([]:List Nat),nxt)|none=>none)
  |none=>none)=_ at h
 split at h
 .rename_i xs hxs;split at h
  .rename_i cs hcs;obtain⟨rfl,rfl,rfl,rfl⟩:TV.agg cs=v/\[]=u/\[]=aB/\nxt=n':=by simpa using h
   obtain⟨hl,hr⟩:=v6 hρ hxs;obtain⟨zv,hzr,hzl,hzp⟩:=pS hz w
   have key:∀rp:Nat->Option (Nat×Nat),pl.length=parts.toList.length->(∀(i:Nat)(p:Nat×Operand)(q:Nat×Nat),parts.toList[i]?=some p->pl[i]?=some q->rp p.1=some q)->
     ∃arr',Instr.fill rp zv.cells ((parts.map fun p=>(p.1,ρ p.2)).toList)=some arr'/\CR S w Kn φ cs arr'.toList:=by
    intro rp h1 h2
    have:=zA (S:=S) (w:=w) (Kn:=Kn) (φ:=φ) (ρ:=ρ) rp parts.toList pl xs (fk z) cs zv.cells h1 h2 (by simpa using hl) (fun i p x hp hx=>hr i p.2 x (by simp only[aM,hp,bY]) hx)
     (by rw[hzl];exact G_ hzp) hcs
    simpa using this
   rcases hu with⟨fields,hu,hpl,hall⟩|⟨len,el,n,hu,hn,rfl⟩
   .obtain ⟨h1,h2⟩:=FC hpl;let g:Field->Nat×Nat:=fun f=>(f.offset,(fK P f.type).getD 0)
    have hg:(fields.mapM fun f=>(do pure (f.offset,<-sizeOf f.type):Sem (Nat×Nat))).run P w=.ok (fields.map g) w:=by
     rw[Array.mapM_eq_mapM_toList];have:=Ff (P:=P) (w:=w) g fields.toList fun f hf=>by have:=bq.1 hall f hf;obtain⟨n,hn⟩:=Option.isSome_iff_exists.1 this;exact⟨n,hn,by simp[g,hn]⟩
     simp only[Sem.run_map,this,Result.andThen_ok];congr 1;apply Array.ext';rw[Array.toList_map]
    obtain⟨arr',h3,h4⟩:=key (fun i=>(fields.map g)[i]?) (by simpa using h1) (fun i p q hp hq=>by obtain⟨f,hf,hq1,hq2⟩:=h2 i p.1 q (by simp only[aM,hp,bY]) hq;simp only[Array.getElem?_map,hf,bY,g,hq2,fH,<-hq1]);obtain⟨h5,h6⟩:=Ci h4;refine dK.pure (val:=.agg arr') hI ?_ (.agg h5 h6);simp only[execOp,ho,Sem.run_bind,Instr.build,hzr,Result.andThen_ok,cj hu,hg,h3,Sem.run_pure]
   .obtain ⟨arr',h3,h4⟩:=key (fun i=>some (i*n,n)) (by simp) (fun i p q hp hq=>by simp only[aM,hp,bY]at hq;exact hq);obtain⟨h5,h6⟩:=Ci h4;refine dK.pure (val:=.agg arr') hI ?_ (.agg h5 h6);simp only[execOp,ho,Sem.run_bind,Instr.build,hzr,Result.andThen_ok,cj hu,gZ hn,h3,Sem.run_pure]
  .simp at h
 .simp at h
theorem lE.from{S1:Nat->Prop}{hf hf1:Nat->Option Ob}{u1 u2:fA}{val:Value}{w':World}(hs:gU S w S1 w)(he:hf1=bA u1 hf)(h:lE S1 K w0 w Kn φ hf1 nxt n' v u2 val w'):
  lE S K w0 w Kn φ hf nxt n' v (u2++u1) val w':=by
 obtain⟨h1,S',φ',h2,h3,h4,h5⟩:=h;exact⟨h1,S',φ',hs.trans h2,h3,h4,by rw[ew,<-he];exact h5⟩
theorem Gu{α:Type}(sz:Nat):∀(n:Nat)(l:List α),n*sz<=l.length->(mE sz n l).length=n/\∀i r,(mE sz n l)[i]?=some r->r=(l.drop (i*sz)).take sz/\r.length=sz:=by
 intro n;induction n with
 |zero=>intro l _;exact⟨rfl,fun i r hi=>by simp[mE]at hi⟩
 |succ n ih=>
  intro l hl;have e1:(n+1)*sz=n*sz+sz:=dN n sz;obtain⟨h1,h2⟩:=ih (l.drop sz) (by simp;omega);refine⟨by simp[mE,h1],fun i r hi=>?_⟩;cases i with
  |zero=>
   obtain rfl:l.take sz=r:=by simpa[mE]using hi
   exact⟨by simp,by simp;omega⟩
  |succ i=>obtain⟨h3,h4⟩:=h2 i r (by simpa[mE]using hi);refine⟨?_,h4⟩;rw[h3,List.drop_drop];congr 2;rw[dN];omega
theorem vo{zc:Array Value}{z:List Value}{sz n:Nat}(hz:zc.toList=z)(hl:z.length=sz)(hpos:0<sz):
  ((Array.range n).map (fun i=>zc[i %zc.size]!)).toList=(bt n).map fun i=>z.getD (i %sz) undef:=by
 simp only[Array.toList_map,Array.toList_range];apply List.map_congr_left;intro i _;have e1:zc.size=sz:=by rw[<-hl,<-hz];simp
 have hlt:i %sz<zc.size:=by rw[e1];exact Nat.mod_lt _ hpos
 rw[e1,<-hz];have:i %sz<zc.toList.length:=by simpa using hlt
 simp[hlt]
theorem Ag{t el:TypeId}{len n:Nat}{parts:Array (Nat×Operand)}{z:List Value}(ho:o.op=.buildSlice t len parts)(hu:P.underlying t=some (.slice el))
  (hs:fK P el=some (n+1)) (hz:jL P el=some z) (hlim:len*(n+1)<=4096/\z.length=n+1)
  (hI:Inv S K w0 Kn φ (aC H) w) (hn0:nxt<n'->¬Kn nxt) (hρ:∀x tv,kP e x=some tv->ge S w Kn φ tv (ρ x))
  (h:cL call (.buildSlice (n+1) len ((bt (len*(n+1))).map fun i=>z.getD (i %(n+1)) undef) (parts.toList.map (·.1))) ((parts.toList.map (·.2)).map (kP e)) H nxt=some (v,u,aB,n')):
  dK P o ρ S K w0 w Kn φ (aC H) nxt n' v u:=by
 generalize hzs:((bt (len*(n+1))).map fun i=>z.getD (i %(n+1)) undef)=zs at h
 change (match eH ((parts.toList.map (·.2)).map (kP e))with
  |some xs=>
   (match nn (fk zs) (((parts.toList.map fun(p:Nat×Operand)=>p.1).map fun i=>(i*(n+1),n+1)).zip xs)with
   |some cs=>
    (match dQ H cs with
    |some (ds,aB)=>(match dZ H aB aB with|some u=>some (TV.c (.fh (n+1) nxt 0 len),(nxt,some (Ob.aP (n+1) (mE (n+1) len ds)))::u,aB,nxt+1)|none=>none)
    |none=>none)
   |none=>none)
  |none=>none)=_ at h
 split at h
 .rename_i xs hxs;split at h
  .rename_i cs hcs;split at h
   .rename_i ds ids' hv;split at h
    .rename_i u' hfz;obtain⟨rfl,rfl,rfl,rfl⟩:TV.c (.fh (n+1) nxt 0 len)=v/\(nxt,some (Ob.aP (n+1) (mE (n+1) len ds)))::u'=u/\ids'=aB/\nxt+1=n':=by simpa using h
     have hn:=hn0 (bl _);obtain⟨hl,hr⟩:=v6 hρ hxs;obtain⟨zv,hzr,hzl,hzp⟩:=pS hz w
     have hzp':∀x∈zs,fB x=true:=by
      intro x hx;rw[<-hzs]at hx;obtain⟨i,_,rfl⟩:=c9.1 hx;have hlt:i %(n+1)<z.length:=by rw[hlim.2];exact Nat.mod_lt _ (dA _)
      have:z.getD (i %(n+1)) undef=z[i %(n+1)]:=by simp[lO,hlt]
      rw[this];exact hzp _ (List.getElem_mem hlt)
     have hzero:∃zc:Array Value,(len*(n+1)=0->zc= #[])/\(¬len*(n+1)=0->zc=zv.cells)/\
       ((Array.range (len*(n+1))).map (fun i=>zc[i %zc.size]!)).toList=zs:=by
      by_cases hc:len*(n+1)=0
      .refine ⟨#[],fun _=>rfl,fun h=>absurd hc h,?_⟩;rw[<-hzs,hc];simp
      .refine ⟨zv.cells,fun h=>absurd h hc,fun _=>rfl,?_⟩;rw[vo hzl hlim.2 (dA _),hzs]
     obtain⟨zc,hzc,hzc1,hzc2⟩:=hzero
     obtain⟨arr',h3,h4⟩:=zA (S:=S) (w:=w) (Kn:=Kn) (φ:=φ) (ρ:=ρ) (fun i=>some (i*(n+1),n+1)) parts.toList _ xs (fk zs) cs ((Array.range (len*(n+1))).map (fun i=>zc[i %zc.size]!))
      (by simp) (fun i p q hp hq=>by simp only[aM,hp,bY]at hq;exact hq) (by simpa using hl)
      (fun i p x hp hx=>hr i p.2 x (by simp only[aM,hp,bY]) hx) (by rw[hzc2];exact G_ hzp') hcs
     obtain⟨h5,h6⟩:=Ci h4
     have hcl:cs.length=len*(n+1):=by
      have:∀(l:List ((Nat×Nat)×TV))(a b:List C),nn a l=some b->b.length=a.length:=by
       intro l;induction l with
       |nil=>
        intro a b h;obtain rfl:a=b:=by simpa[nn]using h
        rfl
       |cons p l ih=>
        intro a b h;obtain⟨⟨off,m⟩,x⟩:=p;simp only[nn]at h;split at h
        .split at h
         .rename_i hb;rw[ih _ _ h,eN _ _ _ (by omega)]
         .simp at h
        .simp at h
      rw[this _ _ _ hcs,<-hzs];simp[fk]
     obtain⟨h7,h8⟩:=rR hI cs ds ids' hv (fun i=>arr'[i]?) (fun i c hi=>by
      have hlt:i<arr'.size:=by rw[<-h5];exact(aq.1 hi).1
      exact⟨arr'.getD i undef,by simp[hlt],h6 i c hi⟩)
     obtain⟨h9,h10⟩:=Gu (n+1) len ds (by omega);have hI1:=hI.Gb hfz
     have hrows:cT (SB S w φ (aC H) ids') w (n+1) (fun i=>arr'[i]?) 0 (mE (n+1) len ds):=by
      refine⟨fun i r hi=>(h10 i r hi).2,fun i r hi j x hj=>?_⟩;rw[(h10 i r hi).1,eJ]at hj;split at hj
      .rw [bW]at hj;obtain⟨y,hy,hd⟩:=h8 _ x hj;exact⟨y,by rw[<-hy];simp,hd⟩
      .simp at hj
     have hD:=lE.aP (K:=K) (w0:=w0) hI1 hn (cap:=len) (aP:=arr') (sz:=n+1) el (dA n) (by omega) (by omega) hrows;rw[h9]at hD;refine⟨.value _,_,_,?_,.inl rfl,lE.from (u1:=u') (SB.uR _) rfl hD⟩;have h3':Instr.fill (fun i=>some (i*(n+1),n+1)) ((Array.range (len*(n+1))).map (fun i=>zc[i %zc.size]!)) (parts.map fun p=>(p.1,ρ p.2)).toList=some arr':=by rw[<-h3];simp
     have hlim':¬len*(n+1)>2^24:=by have:=hlim.1;omega
     simp only[execOp,ho,Sem.run_bind,Instr.buildSlice,cj hu,Result.andThen_ok,gZ hs,if_neg hlim'];by_cases hc:len*(n+1)=0
     .rw [hzc hc]at h3';simp only[if_pos hc,Sem.run_bind,Sem.run_pure,Result.andThen_ok,h3',newRow,run_newObj]
     .rw [hzc1 hc]at h3';simp only[if_neg hc,Sem.run_bind,hzr,Sem.run_pure,Result.andThen_ok,h3',newRow,run_newObj]
    .simp at h
   .simp at h
  .simp at h
 .simp at h
end
section
variable{P:Program}{S K:Nat->Prop}{w0 w:World}{Kn:Nat->Prop}{φ:Nat->gI}{H:bM}{e:jG}{ρ:Operand->Value}{o:Oper}{call:Call}
 {nxt n':Nat} {v:TV} {u:fA} {aB:List Nat}
theorem tT{el:TypeId}(h:pH P el=true):∃i,P.info? el=some i/\0<i.bytes/\i.bytes<=16384:=by
 unfold pH at h;split at h
 .rename_i i hi;simp only[Bool.and_eq_true,decide_eq_true_eq]at h;exact⟨i,hi,h.1,h.2⟩
 .simp at h
theorem vG{t el:TypeId}{n:Nat}{l c:Operand}{z:List Value}(ho:o.op=.makeSlice t l c)(hu:P.underlying t=some (.slice el))
  (hs:fK P el=some (n+1)) (hz:jL P el=some z) (hzl:z.length=n+1) (hb:pH P el=true)
  (hI:Inv S K w0 Kn φ (aC H) w) (hn0:nxt<n'->¬Kn nxt) {tl tc:Option TV} (hl:∀y,tl=some y->ge S w Kn φ y (ρ l)) (hc:∀y,tc=some y->ge S w Kn φ y (ρ c))
  (h:cL call (.makeSlice z) [tl,tc] H nxt=some (v,u,aB,n')):dK P o ρ S K w0 w Kn φ (aC H) nxt n' v u:=by
 change (match cD tl,cD tc with
  |some l,some c=>if 0<=l/\l<=c/\c<=DR then some (TV.c (.fh z.length nxt 0 l.toNat),[(nxt,some (Ob.aP z.length (aA l.toNat (dk z))))],([]:List Nat),nxt+1)else none
  |_,_=>none)=_ at h
 split at h
 .rename_i a b ha hb';split at h
  .rename_i hle;obtain⟨h0,h1,h2⟩:=hle;obtain⟨rfl,rfl,rfl,rfl⟩:TV.c (.fh z.length nxt 0 a.toNat)=v/\[(nxt,some (Ob.aP z.length (aA a.toNat (dk z))))]=u/\[]=aB/\nxt+1=n':=by simpa using h
   have hn:=hn0 (bl _);obtain⟨k1,hk1⟩:=jj ha hl;obtain⟨k2,hk2⟩:=jj hb' hc;obtain⟨i,hi,hby0,hby⟩:=tT hb;obtain⟨zv,hzr,hzv,hzp⟩:=pS hz w;simp only[DR]at h2;have hwa:IntKind.i64.wrap a=a:=uL h0 (by omega);have hwb:IntKind.i64.wrap b=b:=uL (by omega) (by omega);have hmul:(i.bytes:Int)*b<=16384*2147483648:=Int.mul_le_mul (by omega) (by omega) (by omega) (by omega);have hsz:(z.length)=zv.cells.size:=by rw[<-hzv];simp
   let aP:Array Value:=(Array.range (b.toNat*(n+1))).map (fun i=>zv.cells[i %zv.cells.size]!);have harr:aP.toList=(bt (b.toNat*(n+1))).map fun i=>z.getD (i %(n+1)) undef:=vo hzv hzl (dA _);have hsize:aP.size=b.toNat*(n+1):=by simp[aP]
   have hrows:cT S w (n+1) (fun i=>aP[i]?) 0 (aA a.toNat (dk z)):=by
    refine⟨fun i r hi=>?_,fun i r hi j x hj=>?_⟩
    .obtain ⟨_,rfl⟩:i<a.toNat/\dk z=r:=by
      rw[dG]at hi;split at hi
      .rename_i hlt;exact⟨hlt,aa hi⟩
      .simp at hi
     simp[dk,hzl]
    .obtain ⟨hlt,rfl⟩:i<a.toNat/\dk z=r:=by
      rw[dG]at hi;split at hi
      .rename_i hlt;exact⟨hlt,aa hi⟩
      .simp at hi
     simp only[dk,aM]at hj;obtain⟨y,hy,rfl⟩:=aK.1 hj;have hjl:j<n+1:=by rw[<-hzl];exact(aq.1 hy).1
     refine⟨y,?_,.lit (hzp y (bk hy))⟩;have hidx:i*(n+1)+j<b.toNat*(n+1):=by have:(i+1)*(n+1)<=b.toNat*(n+1):=aO _ (by omega);rw[dN]at this;omega
     show aP[0+i*(n+1)+j]?=some y;rw[<-bo,harr,bN,aM,jK hidx];have e1:(i*(n+1)+j) %(n+1)=j:=by rw[Nat.add_comm,Nat.add_mul_mod_self_right];exact Nat.mod_eq_of_lt hjl
     simp[e1,lO,hy]
   have hD:=lE.aP (K:=K) (w0:=w0) hI hn (cap:=b.toNat) (aP:=aP) el (dA n) (by simp;omega) (by rw[hsize];exact aw _) hrows;rw[dD]at hD;rw[hzl];refine⟨.value (.slice (some ⟨w.heap.size,0,none⟩) a.toNat b.toNat),_,_,?_,.inl rfl,hD⟩;have hinfo:∀w:World,(typeInfo el).run P w=.ok i w:=fun w=>by simp[typeInfo,hi]
   have harr0:∀zc:Array Value,(b.toNat*(n+1)=0->zc= #[])->(¬b.toNat*(n+1)=0->zc=zv.cells)->((Array.range (b.toNat*(n+1))).map (fun i=>zc[i %zc.size]!))=aP:=by
    intro zc h1 h2;by_cases hc0:b.toNat*(n+1)=0
    .apply Array.ext';rw[harr,hc0];simp
    .rw [h2 hc0]
   have hnl:¬(decide (b<0)||decide ((i.bytes:Int)*b>2^48))=true:=by simp only[cA,decide_eq_true_eq,not_or];constructor<;>omega
   simp only[execOp,ho,Sem.run_bind,Instr.makeSlice,cj hu,Result.andThen_ok,wy hk1,wy hk2,hinfo,hwa,hwb];rw[Sem.run_ite,if_neg (by simp only[cA,decide_eq_true_eq];simp only[cA,decide_eq_true_eq]at hnl;omega)];simp only[Sem.run_pure,Result.andThen_ok,Sem.run_bind,run_askRoom,gZ hs];by_cases hc0:b.toNat*(n+1)=0
   .have:=harr0 #[] (fun _=>rfl) (fun h=>absurd hc0 h);simp only[if_pos hc0,Sem.run_bind,Sem.run_pure,Result.andThen_ok,newRow,run_newObj,this]
   .have:=harr0 zv.cells (fun h=>absurd h hc0) (fun _=>rfl);simp only[if_neg hc0,Sem.run_bind,hzr,Sem.run_pure,Result.andThen_ok,newRow,run_newObj,this]
  .simp at h
 .simp at h
theorem J2{t el:TypeId}{n m:Nat}{l c:Operand}{z:List Value}(ho:o.op=.makeSlice t l c)(hu:P.underlying t=some (.slice el))
  (hs:fK P el=some (n+1)) (hz:jL P el=some z) (hzl:z.length=n+1) (hb:pH P el=true) (hz1:F3 z=true) (hm:0<m)
  (hI:Inv S K w0 Kn φ (aC H) w) (hn0:nxt<n'->¬Kn nxt) {tl tc:Option TV} (hl:∀y,tl=some y->ge S w Kn φ y (ρ l)) (hc:∀y,tc=some y->ge S w Kn φ y (ρ c))
  (h:cL call (.A0 m) [tl,tc] H nxt=some (v,u,aB,n')):dK P o ρ S K w0 w Kn φ (aC H) nxt n' v u:=by
 obtain rfl:z=[.slice none 0 0]:=by
  unfold F3 at hz1;split at hz1
  .rfl
  .simp at hz1
 change (match cD tl,cD tc with
  |some l,some c=>if 0<=l/\l<=c/\c<=DR then some (TV.c (.fh 1 nxt 0 l.toNat),[(nxt,some (Ob.nst m (aA l.toNat .nil)))],([]:List Nat),nxt+1)else none
  |_,_=>none)=_ at h
 split at h
 .rename_i a b ha hb';split at h
  .rename_i hle;obtain⟨rfl,rfl,rfl,rfl⟩:TV.c (.fh 1 nxt 0 a.toNat)=v/\[(nxt,some (Ob.nst m (aA a.toNat .nil)))]=u/\[]=aB/\nxt+1=n':=by simpa using h
   have hev:cL call (.makeSlice [.slice none 0 0]) [tl,tc] H nxt=some (TV.c (.fh 1 nxt 0 a.toNat),[(nxt,some (Ob.aP 1 (aA a.toNat (dk [.slice none 0 0]))))],[],nxt+1):=by
    show(match cD tl,cD tc with
     |some l,some c=>if 0<=l/\l<=c/\c<=DR then some (TV.c (.fh ([.slice none 0 0]:List Value).length nxt 0 l.toNat),[(nxt,some (Ob.aP ([.slice none 0 0]:List Value).length (aA l.toNat (dk [.slice none 0 0]))))],([]:List Nat),nxt+1)else none
     |_,_=>none)=_
    rw[ha,hb'];show(if 0<=a/\a<=b/\b<=DR then _ else _)=_;rw[if_pos hle];rfl
   obtain⟨nx,val,w',h1,h2,h3,S',φ',h4,h5,h6,h7⟩:=vG ho hu hs hz hzl hb hI hn0 hl hc hev;refine⟨nx,val,w',h1,h2,h3,S',φ',h4,h5,h6,?_⟩;have e1:bA [(nxt,some (Ob.aP 1 (aA a.toNat (dk [.slice none 0 0]))))] (aC H) nxt=some (.aP 1 (aA a.toNat (dk [.slice none 0 0]))):=by rw[bZ,if_pos rfl]
   obtain⟨_,hro⟩:=h7.iN nxt _ e1
   have h8:=h7.Ra (o':=.nst m (aA a.toNat .nil)) e1 rfl (fun sz sl k ao e hk=>by
    cases e;rw[dG]at hk;split at hk<;>cases hk) (by
    cases hro with
    |aP hsz hl hS hK hown hext hfit hrr hv=>
     rw[dD]at hv hfit;refine .nst hm hl hS hK hown hext (by rw[dD];omega) (fun i s hi=>?_) (by rw[dD];exact hv);rw[dG]at hi;split at hi
     .rename_i hlt;obtain rfl:=aa hi;obtain⟨v,q1,q2⟩:=hrr.2 i (dk [.slice none 0 0]) (by rw[dG,if_pos hlt]) 0 _ rfl;cases q2 with|lit _=>exact⟨_,by rw[<-q1];simp,.nil⟩
     .cases hi)
   have e2:bA [(nxt,some (Ob.nst m (aA a.toNat .nil)))] (bA [(nxt,some (Ob.aP 1 (aA a.toNat (dk [.slice none 0 0]))))] (aC H))=bA [(nxt,some (Ob.nst m (aA a.toNat .nil)))] (aC H):=by
    funext j;simp only[bZ,fJ];by_cases e:nxt=j
    .rw [if_pos e,if_pos e]
    .rw [if_neg e,if_neg e,if_neg e]
   rw[e2]at h8;exact h8
  .simp at h
 .simp at h
theorem CR.mono{S':Nat->Prop}{w':World}{Kn':Nat->Prop}{φ':Nat->gI}(hs:gU S w S' w')(hr:up Kn φ Kn' φ'){cs:List C}{vs:List Value}(h:CR S w Kn φ cs vs):CR S' w' Kn' φ' cs vs:=⟨h.1,fun i x y hx hy=>(h.2 i x y hx hy).mono hs hr⟩
theorem PU{cs:List C}{aP:Array Value}(h1:cs.length=aP.size)(h2:∀(i:Nat)(x:C),cs[i]?=some x->RC S w Kn φ x (aP.getD i undef)):CR S w Kn φ cs aP.toList:=by
 refine⟨by simpa using h1,fun i x y hx hy=>?_⟩;have:=h2 i x hx;rw[bo]at hy;have e1:aP.getD i undef=y:=by simp[hy]
 rwa[e1]at this
theorem nW{b o n:Nat}{aP:Array Value}{vs:List Value}(ho:pk w b aP)(hn:vs.length=n):
  pk (w.setRow b (aP.toList.take o++vs++aP.toList.drop (o+n)).toArray) b (bg aP.toList o vs).toArray/\
  (∀c,c≠b->(w.setRow b (aP.toList.take o++vs++aP.toList.drop (o+n)).toArray).heap[c]?=w.heap[c]?)/\
  (w.setRow b (aP.toList.take o++vs++aP.toList.drop (o+n)).toArray).heap.size=w.heap.size/\
  (∀a,(w.setRow b (aP.toList.take o++vs++aP.toList.drop (o+n)).toArray).frozen? a=w.frozen? a)/\
  (o+n<=aP.size->∀arr1,pk w b arr1->∃arr',pk (w.setRow b (aP.toList.take o++vs++aP.toList.drop (o+n)).toArray) b arr'/\arr'.size=arr1.size):=by
 rw[OL hn];refine⟨yT ho,fun c hc=>setRow_other w b c _ hc,by simp,Ap ho,fun hle arr1 h1=>⟨_,yT ho,?_⟩⟩;obtain⟨t1,h1⟩:=h1;obtain⟨t2,h2⟩:=ho;rw[h1]at h2;obtain rfl:arr1=aP:=by simp at h2;exact h2.1
 simp only[ii];rw[eN _ _ _ (by simp;omega)];simp
theorem Inv.CA{hf hf':Nat->Option Ob}{S':Nat->Prop}{w':World}(_:Inv S K w0 Kn φ hf w)(hs:gU S w S' w')(hI:Inv S' K w0 Kn φ hf' w'){u:fA}{n:Nat}(he:hf'=bA u hf):
  lE S K w0 w Kn φ hf n n (.iP []) u undef w':=
 ⟨aw _,S',φ,hs,ub _ _,.iP rfl (fun i x hi=>by simp at hi),he▸hI.kn fun _ h=>.inl h⟩
theorem C9{sz aT cU off:Nat}{ao:List (List D)}{r ds:List D}{aP:Array Value}{vs:List Value}(h:cT S w sz (fun i=>aP[i]?) aT ao)(hrow:ao[cU]?=some r)
  (hfit:off+ds.length<=r.length) (hl:ds.length=vs.length) (hd:∀(i:Nat)(x:D),ds[i]?=some x->∃y,vs[i]?=some y/\RD S w x y) (hsz:aT+ao.length*sz<=aP.size):
  cT S w sz (fun i=>(bg aP.toList (aT+cU*sz+off) vs).toArray[i]?) aT (ao.set cU (bg r off ds)):=by
 have hrl:=h.1 cU r hrow;have hlt:cU<ao.length:=(aq.1 hrow).1;have hmul:(cU+1)*sz<=ao.length*sz:=aO _ (by omega);rw[dN]at hmul;have hget:∀k,(bg aP.toList (aT+cU*sz+off) vs).toArray[k]?=if k<aT+cU*sz+off then aP[k]?else if k<aT+cU*sz+off+vs.length then vs[k-(aT+cU*sz+off)]?else aP[k]?:=by intro k;rw[<-bo];show(bg aP.toList _ vs)[k]?=_;rw[jt _ _ _ (by simp;omega)];simp only[bo]
 have hsetr:∀i q,(ao.set cU (bg r off ds))[i]?=some q->(i=cU/\q=bg r off ds)\/(i≠cU/\ao[i]?=some q):=by
  intro i q hi;by_cases e1:i=cU
  .subst e1;rw[kp hlt]at hi;exact .inl ⟨rfl,(aa hi).symm⟩
  .rw [List.getElem?_set_ne (fun e=>e1 e.symm)]at hi;exact .inr ⟨e1,hi⟩
 refine⟨fun i q hi=>?_,fun i q hi j z hj=>?_⟩
 .rcases hsetr i q hi with⟨rfl,rfl⟩|⟨_,h1⟩
  .rw [eN _ _ _ hfit];exact hrl
  .exact h.1 i q h1
 .simp only[hget];rcases hsetr i q hi with⟨rfl,rfl⟩|⟨hne,h1⟩
  .rw [jt _ _ _ hfit]at hj;by_cases c1:j<off
   .rw [if_pos c1]at hj;rw[if_pos (by omega)];exact h.2 i r hrow j z hj
   .rw [if_neg c1]at hj;by_cases c2:j<off+ds.length
    .rw [if_pos c2]at hj;obtain⟨y,hy,hr⟩:=hd _ z hj;rw[if_neg (by omega),if_pos (by omega)];refine⟨y,?_,hr⟩;rw[<-hy];congr 1;omega
    .rw [if_neg c2]at hj;rw[if_neg (by omega),if_neg (by omega)];exact h.2 i r hrow j z hj
  .have hjl:j<sz:=by rw[<-h.1 i q h1];exact(aq.1 hj).1
   have hout:aT+i*sz+j<aT+cU*sz+off\/aT+cU*sz+off+vs.length<=aT+i*sz+j:=by
    rcases Nat.lt_or_gt_of_ne hne with hlt2|hgt
    .have:(i+1)*sz<=cU*sz:=aO _ (by omega);rw[dN]at this;omega
    .have:(cU+1)*sz<=i*sz:=aO _ (by omega);rw[dN]at this;omega
   rcases hout with c|c
   .rw [if_pos c];exact h.2 i q h1 j z hj
   .rw [if_neg (by omega),if_neg (by omega)];exact h.2 i q h1 j z hj
theorem Mo{α:Type}{l:List α}{o:Nat}{v:α}(h:o<l.length):bg l o [v]=l.set o v:=by rw[List.set_eq_take_append_cons_drop,if_pos h];simp[bg]
theorem MF{id cU sz:Nat}{slots:List kX}{cs:List C}{vs:List Value}{u:fA}{aB:List Nat}{aP:Array Value}(hI:Inv S K w0 Kn φ (aC H) w)(hob:aC H id=some (.nst sz slots))(hrow:cU<slots.length)
  (hcr:CR S w Kn φ cs vs) (hlen:cs.length=1) (hown:pk w (φ id).cY aP) (hfit:(φ id).aT+cU<aP.size) (h:sE id cU sz slots cs H=some (u,aB)):
  gU S w S (w.setRow (φ id).cY (aP.toList.take ((φ id).aT+cU)++vs++aP.toList.drop ((φ id).aT+cU+1)).toArray)/\
   Inv S K w0 Kn φ (bA u (aC H)) (w.setRow (φ id).cY (aP.toList.take ((φ id).aT+cU)++vs++aP.toList.drop ((φ id).aT+cU+1)).toArray):=by
 have hvl:vs.length=1:=by rw[<-hcr.1];exact hlen
 obtain⟨p1,p2,p3,p4,_⟩:=nW (w:=w) (b:=(φ id).cY) (o:=(φ id).aT+cU) (n:=1) (vs:=vs) hown hvl;have hio:Io w (w.setRow (φ id).cY (aP.toList.take ((φ id).aT+cU)++vs++aP.toList.drop ((φ id).aT+cU+1)).toArray):=⟨rfl,rfl,rfl,aw _⟩
 generalize w.setRow (φ id).cY (aP.toList.take ((φ id).aT+cU)++vs++aP.toList.drop ((φ id).aT+cU+1)).toArray=w' at*
 obtain⟨x,rfl⟩:∃x,vs=[x]:=by
  match vs,hvl with|[x],_=>exact⟨x,rfl⟩
 rw[Mo (by simpa using hfit)]at p1
 have key:∀s',(gU S w S w'->zV S K w' Kn φ sz s' x)->(∀ao,s'≠.bG ao)->gU S w S w'/\Inv S K w0 Kn φ (bA [(id,some (.nst sz (slots.set cU s')))] (aC H)) w':=fun s' h1 h2=>
  hI.Sp hob hown p1 (by simp) p2 p3 p4 hio (fun i hi=>by
   rw[cM,List.getElem?_set_ne (by omega),bo]) (fun _=>by
   rw[cM,kp (by simpa using hfit)]) h1 h2
 unfold sE at h;split at h
 .obtain ⟨rfl,rfl⟩:[(id,some (Ob.nst sz (slots.set cU .nil)))]=u/\[id]=aB:=by simpa using h
  have hx:=hcr.2 0 _ x rfl rfl;cases hx with
  |d hd=>cases hd with|lit _=>exact key .nil (fun _=>.nil) (fun _ e=>by cases e)
 .rename_i sz' id2 len;split at h
  .rename_i sz2 ao h2;split at h
   .rename_i hc;obtain⟨rfl,rfl,hne⟩:=hc;obtain⟨rfl,rfl⟩:[(id,some (Ob.nst sz' (slots.set cU (.bG ao)))),(id2,none)]=u/\[id,id2]=aB:=by simpa using h
    obtain⟨q1,q2⟩:=key (.cF id2 ao.length) (fun hs=>.cF ((hcr.2 0 _ x rfl rfl).mono hs (up.refl _ _))) (fun _ e=>by cases e);refine⟨q1,?_⟩;have e1:bA [(id,some (Ob.nst sz' (slots.set cU (.cF id2 ao.length))))] (aC H) id=some (.nst sz' (slots.set cU (.cF id2 ao.length))):=by rw[bZ,if_pos rfl]
    have e2:bA [(id,some (Ob.nst sz' (slots.set cU (.cF id2 ao.length))))] (aC H) id2=some (.aP sz2 ao):=by rw[bZ,if_neg (fun e=>hne e.symm),fJ,h2]
    have q3:=q2.LU e1 (kp hrow) e2;rw[List.set_set]at q3
    have e3:bA [(id,some (Ob.nst sz' (slots.set cU (.bG ao)))),(id2,none)] (bA [(id,some (Ob.nst sz' (slots.set cU (.cF id2 ao.length))))] (aC H))=bA [(id,some (Ob.nst sz' (slots.set cU (.bG ao)))),(id2,none)] (aC H):=by
     funext j;simp only[bZ,fJ];by_cases e:id=j
     .rw [if_pos e,if_pos e]
     .rw [if_neg e,if_neg e,if_neg e]
    rw[e3]at q3;exact q3
   .simp at h
  .simp at h
 .simp at h
theorem J1{t:TypeId}{n:Nat}{a x:Operand}(ho:o.op=.store t a x)(hs:fK P t=some n)(hI:Inv S K w0 Kn φ (aC H) w)
  {ta tx:Option TV} (ha:∀y,ta=some y->ge S w Kn φ y (ρ a)) (hx:∀y,tx=some y->ge S w Kn φ y (ρ x))
  (h:cL call (.store n) [ta,tx] H nxt=some (v,u,aB,n')):dK P o ρ S K w0 w Kn φ (aC H) nxt n' v u:=by
 match ta,tx,h,ha,hx with
 |some (.c p),some tv,h,ha,hx=>
  change (match mu n p tv H with|some (u,aB)=>some (TV.iP [],u,aB,nxt)|none=>none)=_ at h;split at h
  .rename_i u' ids' eh;obtain⟨rfl,rfl,rfl,rfl⟩:TV.iP []=v/\u'=u/\ids'=aB/\nxt=n':=by simpa using h
   unfold mu at eh;split at eh
   .simp at eh
   .rename_i cs hcs;split at eh
    .rename_i hlen;have hcr:=(hx _ rfl).cr hcs;obtain⟨_,_,hone⟩:=(hx _ rfl).cells hcs;have hvl:(ρ x).cells.size=n:=by have:=hcr.1;simp at this;omega
     have hr:=ha _ rfl;generalize hv0:ρ a=val at hr
     have run:∀b off aP,val=.pointer (some ⟨b,off,none⟩)->pk w b aP->off+n<=aP.size->
       (execOp ρ o).run P w=.ok .skip (w.setRow b (aP.toList.take off++(ρ x).cells.toList++aP.toList.drop (off+n)).toArray):=by
      intro b off aP hv hown hfit;simp[execOp,ho,hv0,hv,Instr.storeAt,Instr.sureAddr,Mu hs hown hvl hfit hone]
     cases hr with
     |c hr=>
     split at eh
     .rename_i id cU off;split at eh
      .rename_i sz ao hob;split at eh
       .rename_i r ds ids1 hrow hvw;split at eh
        .rename_i u1 hfz;split at eh
         .rename_i hb;obtain⟨hb1,hb2⟩:=hb;obtain⟨rfl,rfl⟩:(id,some (Ob.aP sz (ao.set cU (bg r off ds))))::u1=u'/\id::ids1=ids':=by simpa using eh
          have hnm:id∉ids1:=by simpa using hb2
          obtain⟨hdl,hds⟩:=rR hI cs ds ids1 hvw (fun i=>(ρ x).cells.toList[i]?) (fun i c hi=>by
           have hlt:i<(ρ x).cells.toList.length:=by rw[<-hcr.1];exact(aq.1 hi).1
           exact⟨_,aE hlt,hcr.2 i c _ hi (aE hlt)⟩)
          have hI1:=hI.Gb hfz;have hob1:bA u1 (aC H) id=some (.aP sz ao):=by simp only[bA,(ly ids1 u1 hfz id).2 hnm,hob]
          obtain⟨hk,h0⟩:=hI1.iN _ _ hob1;generalize hphi:φ id=l at*;cases h0 with
          |@aP _ _ aP hsz hl hS hK hown hext hfit hrr hvis=>
           cases hr with
           |ep hk'=>
            rw[hphi]at run;subst hl;have hrl:=hrr.1 cU r hrow;have hrowlt:cU<ao.length:=(aq.1 hrow).1;have hmul:(cU+1)*l.sz<=ao.length*l.sz:=aO _ (by omega);rw[dN]at hmul;have hfit2:l.aT+cU*l.sz+off+n<=aP.size:=by rw[hext];omega
            obtain⟨p1,p2,p3,p4,p5⟩:=nW (w:=w) (b:=l.cY) (o:=l.aT+cU*l.sz+off) (n:=n) (vs:=(ρ x).cells.toList) hown (by simpa using hvl);have hset:=hI1.set (o':=.aP l.sz (ao.set cU (bg r off ds))) hob1 rfl (by rw[hphi];exact p2) p3 p4 (by rw[hphi];exact p5 hfit2) ⟨rfl,rfl,rfl,aw _⟩ (fun eh=>by rw[hphi];have h5:=(C9 (off:=off) (vs:=(ρ x).cells.toList) hrr hrow (by omega) (by rw[hdl];exact hcr.1) hds (by omega)).mono eh;exact .aP hsz rfl hS hK p1 (by simp only[ii];rw[eN _ _ _ (by simp;omega)];simpa using hext) (by simpa using hfit) h5 (by simpa using hvis));refine⟨.skip,undef,_,run _ _ _ rfl hown hfit2,.inr ⟨rfl,rfl⟩,hI.CA ((SB.uR ids1).trans hset.1) hset.2 ?_⟩;rw[<-ew];rfl
         .simp at eh
        .simp at eh
       .simp at eh
      .rename_i sz slots hob;split at eh
       .rename_i hc;obtain⟨rfl,rfl,hrow⟩:=hc;obtain⟨hk,h0⟩:=hI.iN _ _ hob;cases h0 with
        |@nst _ _ aP hsz hl hS hK hown hext hfit hrr hvis=>cases hr with|ep hk'=>obtain⟨q1,q2⟩:=MF hI hob hrow hcr hlen hown (by omega) eh;have hrun:=run (φ id).cY ((φ id).aT+cU*(φ id).sz+0) aP rfl hown (by rw[hl];omega);rw[hl,mP,di]at hrun;refine⟨.skip,undef,_,hrun,.inr ⟨rfl,rfl⟩,hI.CA q1 q2 rfl⟩
       .simp at eh
      .simp at eh
     .rename_i id off;split at eh
      .rename_i cells hob;split at eh
       .rename_i hb;obtain⟨rfl,rfl⟩:[(id,some (Ob.box (bg cells off cs)))]=u'/\[id]=ids':=by simpa using eh
        obtain⟨hk,h0⟩:=hI.iN _ _ hob;generalize hphi:φ id=l at*;cases h0 with
        |@box _ aP hbase hS hK hown hlen2 hrr=>cases hr with|op hk'=>rw[hphi,hbase,bN]at run;obtain⟨p1,p2,p3,p4,p5⟩:=nW (w:=w) (b:=l.cY) (o:=off) (n:=n) (vs:=(ρ x).cells.toList) hown (by simpa using hvl);have hset:=hI.set (o':=.box (bg cells off cs)) hob rfl (by rw[hphi];exact p2) p3 p4 (by rw[hphi];exact p5 (by omega)) ⟨rfl,rfl,rfl,aw _⟩ (fun eh=>by rw[hphi];have h5:=((PU hlen2 hrr).bg hcr off (by omega)).mono eh (up.refl _ _);obtain⟨h6,h7⟩:=Ci (aP:=(bg aP.toList off (ρ x).cells.toList).toArray) (by rw[List.toList_toArray];exact h5);exact .box hbase hS hK p1 h6 h7);exact⟨.skip,undef,_,run _ _ _ rfl hown (by omega),.inr ⟨rfl,rfl⟩,hI.CA hset.1 hset.2 rfl⟩
       .simp at eh
      .simp at eh
     .simp at eh
    .simp at eh
  .simp at h
end
section
variable{P:Program}{S K:Nat->Prop}{w0 w:World}{Kn:Nat->Prop}{φ:Nat->gI}{H:bM}{e:jG}{ρ:Operand->Value}{o:Oper}{call:Call}
 {nxt n':Nat} {v:TV} {u:fA} {aB:List Nat}
theorem ru{sz b addr:Nat}{ao:List (List D)}(hsz:0<sz)(h:cT S w sz (fun i=>w.cell? ⟨b,i,none⟩) addr ao):
  ∃aP,(∀w':World,w'.heap=w.heap->(loadCells ⟨b,addr,none⟩ (ao.length*sz)).run P w'=.ok aP w')/\aP.size=ao.length*sz/\cT S w sz (fun i=>aP[i]?) 0 ao/\∀x∈aP.toList,one x=true:=by
 have hcell:∀k,k<ao.length*sz->∃y,w.cell? ⟨b,addr+k,none⟩=some y/\one y=true:=by
  intro k hk;have h1:k/sz<ao.length:=Nat.div_lt_of_lt_mul (by rw[Nat.mul_comm];exact hk);have h2:=h.1 (k/sz) ao[k/sz] (aE h1);have h3:k %sz<ao[k/sz].length:=by rw[h2];exact Nat.mod_lt _ hsz
  obtain⟨y,hy,hr⟩:=h.2 (k/sz) ao[k/sz] (aE h1) (k %sz) _ (aE h3);refine⟨y,?_,hr.one⟩;rw[<-hy];have:=Nat.div_add_mod k sz;rw[Nat.mul_comm]at this;show w.cell? ⟨b,addr+k,none⟩=w.cell? ⟨b,addr+k/sz*sz+k %sz,none⟩;congr 2;omega
 refine⟨((bt (ao.length*sz)).map fun j=>(w.cell? ⟨b,addr+j,none⟩).getD undef).toArray,fun w' hw=>run_loadCells w' ⟨b,addr,none⟩ _ (fun j=>(w.cell? ⟨b,addr+j,none⟩).getD undef) fun j hj=>?_,by simp,
  ⟨h.1,fun i r hi j x hj=>?_⟩,fun x hx=>?_⟩
 .obtain ⟨y,hy,_⟩:=hcell j hj;have:w'.cell? ⟨b,addr+j,none⟩=w.cell? ⟨b,addr+j,none⟩:=by unfold World.cell?;rw[hw]
  rw[qm,this,hy];rfl
 .obtain ⟨y,hy,hr⟩:=h.2 i r hi j x hj;refine⟨y,?_,hr⟩;have hil:i<ao.length:=(aq.1 hi).1;have hjl:j<sz:=by rw[<-h.1 i r hi];exact(aq.1 hj).1
  have hm:(i+1)*sz<=ao.length*sz:=aO _ hil;rw[dN]at hm;simp only at hy;have hlt:0+i*sz+j<ao.length*sz:=by omega
  have e1:addr+(0+i*sz+j)=addr+i*sz+j:=by omega
  show(((bt (ao.length*sz)).map fun j=>(w.cell? ⟨b,addr+j,none⟩).getD undef).toArray)[0+i*sz+j]?=some y;rw[<-bo,aM,jK hlt];simp only[bY,e1,hy,fH]
 .simp only[c9,List.mem_range]at hx;obtain⟨k,hk,rfl⟩:=hx;obtain⟨y,hy,h1⟩:=hcell k hk;rw[hy];exact h1
def L2(P:Program)(S:Nat->Prop)(w:World)(sz:Nat)(xv:Value)(new:List (List D))(aP:Array Value):Prop:=
 (∀w':World,w'.heap=w.heap->(Builtin.lenOf xv).run P w'=.ok new.length w'/\(Builtin.firstCells sz new.length xv).run P w'=.ok aP w')/\
 aP.size=new.length*sz/\cT S w sz (fun i=>aP[i]?) 0 new/\∀x∈aP.toList,one x=true
theorem Bf{sz b addr len cap:Nat}{new:List (List D)}(hsz:0<sz)(hl:new.length=len)(h:cT S w sz (fun i=>w.cell? ⟨b,i,none⟩) addr new):
  ∃aP,L2 P S w sz (.slice (some ⟨b,addr,none⟩) len cap) new aP:=by
 subst hl;obtain⟨aP,h1,h2,h3,h4⟩:=ru (P:=P) hsz h;exact⟨aP,fun w' hw=>⟨rfl,h1 w' hw⟩,h2,h3,h4⟩
theorem Fe{sz:Nat}{x:C}{xv:Value}{new:List (List D)}(hsz:0<sz)(hI:Inv S K w0 Kn φ (aC H) w)(hr:RC S w Kn φ x xv)(h:jf sz H x=some (new,aB)):
  ∃aP,L2 P S w sz xv new aP:=by
 unfold jf at h;split at h
 .obtain ⟨rfl,rfl⟩:[]=new/\[]=aB:=by simpa using h
  cases hr with
  |d hd=>cases hd with|lit hp=>exact⟨#[],fun w' _=>⟨rfl,rfl⟩,by simp,⟨fun i r hi=>by simp at hi,fun i r hi=>by simp at hi⟩,fun x hx=>by simp at hx⟩
 .rename_i sz' ao;split at h
  .rename_i e1;subst e1;obtain⟨rfl,rfl⟩:ao=new/\[]=aB:=by simpa using h
   cases hr with
   |d hd=>cases hd with
    |sl f hb hsz0 hcap hrow hcell hrd=>exact Bf hsz rfl ⟨hrow,fun i r hi j x hj=>⟨_,hcell i r hi j x hj,hrd i r hi j x hj⟩⟩
    |t8 hsz0=>exact⟨#[],fun w' _=>⟨rfl,by
      have h0:([]:List (List D)).length*sz'=0:=by simp
      simp only[Builtin.firstCells,h0];rfl⟩,by simp,⟨fun i r hi=>by simp at hi,fun i r hi=>by simp at hi⟩,fun x hx=>by simp at hx⟩
  .simp at h
 .rename_i sz' id off len
  have key:∀szo ao,(aC H id=some (.aP szo ao)\/aC H id=some (.qc szo ao))->(if sz'=sz/\off+len<=ao.length then some ((ao.drop off).take len,[id])else none)=some (new,aB)->
    ∃aP,L2 P S w sz xv new aP:=by
   intro szo ao ho hq;split at hq
   .rename_i hb;obtain⟨e1,hle⟩:=hb;subst e1;obtain⟨rfl,rfl⟩:=ad (aa hq);obtain⟨hsz1,hl,hR⟩:=nN hI ho;subst hl;cases hr with|fh hk hcap haddr hext=>exact Bf hsz1 (by simp;omega) (hR.xI off len fun h=>haddr (by omega))
   .simp at hq
  split at h
  .exact key _ _ (.inl (by assumption)) h
  .exact key _ _ (.inr (by assumption)) h
  .simp at h
 .simp at h
theorem M6(need:Nat)(c:Nat):Builtin.growBy need 4 c<=3*c+3072:=by
 simp only[Builtin.growBy]
 repeat' split
 all_goals omega
theorem Kb{need cap:Nat}(h1:need<=2147483648)(h2:cap<need):Builtin.nextslicecap need cap<=6442454016:=by
 unfold Builtin.nextslicecap;split
 .omega
 .split
  .omega
  .have:=M6 need cap;omega
theorem Inv.NV{hf:Nat->Option Ob}{w':World}{b:Nat}(h:Inv S K w0 Kn φ hf w)(hS:¬S b)(hK:¬K b)(hfree:∀i o,hf i=some o->cR o=true->b∉ip w φ hf i)
  (hother:∀c,c≠b->w'.heap[c]?=w.heap[c]?) (hsize:w'.heap.size=w.heap.size) (hfrz:∀a,w'.frozen? a=w.frozen? a)
  (hsz:∀aP,pk w b aP->∃arr',pk w' b arr'/\arr'.size=aP.size) (hio:Io w w'):gU S w S w'/\Inv S K w0 Kn φ hf w':=by
 have hs:gU S w S w':=⟨fun _ h=>h,fun c hc=>hother c (fun e=>hS (e▸hc))⟩
 refine⟨hs,h.ja hs (up.refl _ _) (fun c hc=>hsize▸h.vn c hc) h.sk ⟨h.nD.FY,fun c hc=>(hother c (fun e=>hK (e▸hc))).trans (h.nD.nC c hc),hsize▸h.nD.sx,fun a ha=>(hfrz a).trans (h.nD.A5 a ha),h.nD.yS hother hsz,h.nD.io.trans hio⟩ ?_ h.jE fun id sz sl hi=>⟨hi,hother _ fun e=>hfree id _ hi rfl (e▸kR id),fun k x hp=>⟨hother x fun e=>hfree id _ hi rfl (dR.2 (.inr ⟨sz,sl,k,hi,e▸hp⟩)),(h.H8 hi hp).1,(h.xq id sz sl k x hi hp).1⟩⟩⟩;intro id o ho;exact .inl ⟨ho,fun hown=>⟨hother _ fun e=>hfree id o ho hown (e▸kR id),((h.iN id o ho).2.bG hown).1⟩⟩
theorem Bu{w':World}{hf:Nat->Option Ob}{i:Nat}(h:w'.heap[(φ i).cY]?=w.heap[(φ i).cY]?):ip w' φ hf i=ip w φ hf i:=by
 have key:∀(l:gI),w'.heap[l.cY]?=w.heap[l.cY]?->∀(sl:List kX)(k:Nat),sh w' l sl k=sh w l sl k:=by
  intro l hl sl;induction sl with
  |nil=>intro k;rfl
  |cons s sl ih=>intro k;cases s with|bG ao=>simp only[sh,ih,mF hl]|_=>exact ih (k+1)
 unfold ip;congr 1;split
 .exact key _ h _ _
 .rfl
theorem qB{sz aT:Nat}{a b:List (List D)}{get:Nat->Option Value}(h1:cT S w sz get aT a)(h2:cT S w sz get (aT+a.length*sz) b):cT S w sz get aT (a++b):=by
 have key:∀(i:Nat)(r:List D),(a++b)[i]?=some r->a[i]?=some r\/(a.length<=i/\b[i-a.length]?=some r):=by
  intro i r hi;by_cases hc:i<a.length
  .rw [List.getElem?_append_left hc]at hi;exact .inl hi
  .rw [List.getElem?_append_right (by omega)]at hi;exact .inr ⟨by omega,hi⟩
 refine⟨fun i r hi=>?_,fun i r hi j x hj=>?_⟩
 .rcases key i r hi with h|⟨_,h⟩
  .exact h1.1 i r h
  .exact h2.1 _ r h
 .rcases key i r hi with h|⟨hle,h⟩
  .exact h1.2 i r h j x hj
  .obtain ⟨y,hy,hr⟩:=h2.2 _ r h j x hj;refine⟨y,?_,hr⟩;rw[<-hy];congr 1;have:a.length*sz+(i-a.length)*sz=i*sz:=by rw[<-b_];congr 1;omega
   omega
theorem RC.kg{sz id off len:Nat}{v:Value}(h:RC S w Kn φ (.fh sz id off len) v):∃cap addr,v=.slice (some ⟨(φ id).cY,addr,none⟩) len cap/\(φ id).sz=sz/\Kn id/\len<=cap/\
  (0<cap->addr=(φ id).aT+off*(φ id).sz)/\addr+cap*(φ id).sz<=(φ id).ext/\off+cap=(φ id).cap:=by
 cases h with|fh hk hcap haddr hext hc=>exact⟨_,_,rfl,rfl,hk,hcap,haddr,hext,hc⟩
theorem Il{c:Go.Call}{s x:Operand}{st xt el el2:TypeId}{n:Nat}{z:List Value}(ho:o.op=.call c)(hcal:c.callee=.builtin .append)(hargs:c.args= #[s,x])(hts:c.argTypes= #[st,xt])
  (hus:P.underlying st=some (.slice el)) (hux:P.underlying xt=some (.slice el2)) (hsz:fK P el=some (n+1)) (hz:jL P el=some z) (hzl:z.length=n+1) (hby:pH P el=true)
  (hI:Inv S K w0 Kn φ (aC H) w) (hn0:nxt<n'->¬Kn nxt) {ta tx:Option TV} (ha:∀y,ta=some y->ge S w Kn φ y (ρ s)) (hx:∀y,tx=some y->ge S w Kn φ y (ρ x))
  (h:cL call (.append (n+1)) [ta,tx] H nxt=some (v,u,aB,n')):dK P o ρ S K w0 w Kn φ (aC H) nxt n' v u:=by
 obtain⟨inf,hinf,hb0,hb1⟩:=tT hby;obtain⟨zv,hzr,hzv,_⟩:=pS hz w
 match ta,tx,h,ha,hx with
 |some (.c sc),some (.c xc),h,ha,hx=>
  change oX (n+1) sc xc H nxt=_ at h;unfold oX at h;split at h
  .simp at h
  .rename_i new ids1 hrx;cases hx _ rfl with
   |c hxr=>
   obtain⟨narr,hel,hns,hnR,hnone⟩:=Fe (P:=P) (sz:=n+1) (dA n) hI hxr hrx;have hinfo:∀w:World,(typeInfo el).run P w=.ok inf w:=fun w=>by simp[typeInfo,hinf]
   have hzr':∀w:World,(zeroValue el).run P w=.ok zv w:=by intro w';simp only[zeroValue,typeInfo,Sem.run_bind,run_program,Result.andThen_ok,hinf,Sem.run_pure]at hzr|-;cases hzz:inf.zero with|none=>rw[hzz]at hzr;simp at hzr|some q=>rw[hzz]at hzr;simp at hzr|-;exact hzr
   have hunx:∀w:World,(underlying xt).run P w=.ok (.slice el2) w:=cj hux
   -- what the model does where there is no iS
   have grows:∀(aT:Option Addr)(sLen sCap:Nat)(old:Array Value),ρ s=.slice aT sLen sCap->sCap<sLen+new.length->sLen+new.length<=2147483648->
     (∀w':World,w'.heap=w.heap->(Builtin.firstCells (n+1) sLen (.slice aT sLen sCap)).run P w'=.ok old w')->
     ∃newCap,sLen+new.length<=newCap/\(execOp ρ o).run P w=.ok (.value (.slice (some ⟨w.heap.size,0,none⟩) (sLen+new.length) newCap))
      {({w with drawn:=w.drawn+1}:World)with heap:=w.heap.push (.cells (old++narr++Builtin.zeroCells zv.cells (newCap-(sLen+new.length))) el)}:=by
    intro aT sLen sCap old hs hlt hle hold;refine⟨(Question.appendCap (sLen+new.length) sCap el).cut (w.tape w.drawn (.appendCap (sLen+new.length) sCap el)),by simp[Question.cut],?_⟩;have hcap:¬Builtin.nextslicecap (sLen+new.length) sCap*inf.bytes>2^48:=by have h1:=Kb hle hlt;have h2:Builtin.nextslicecap (sLen+new.length) sCap*inf.bytes<=6442454016*16384:=Nat.mul_le_mul h1 hb1;omega
    have hbz:¬inf.bytes=0:=by omega
    have hnle:¬sLen+new.length<=sCap:=by omega
    have ho2:=hold {w with drawn:=w.drawn+1} rfl;have hn2:=(hel {w with drawn:=w.drawn+1} rfl).2;have hl2:=(hel w rfl).1
    simp only[execOp,ho,hcal,resolve,hargs,Sem.run_bind,Sem.run_pure,Result.andThen_ok,invoke,builtin,Builtin.append_,hts,eQ,aD,bh,hs,cM,
     c_,fg,cj hus,gZ hsz,hunx,hl2,hnle,if_false,hinfo,hcap,hbz,aX,or_self,and_false,run_choose,Question.forced,run_askRoom,ho2,hn2,hzr',newRow,run_newObj,dv,if_true]
   have room_new:¬Kn nxt->∀(k:Nat)(_:w.drawn<=k)(hf:Nat->Option Ob)(ao:List (List D))(aP:Array Value)(cap:Nat),Inv S K w0 Kn φ hf w->ao.length<=cap->cap*(n+1)<=aP.size->cT S w (n+1) (fun i=>aP[i]?) 0 ao->
     lE S K w0 w Kn φ hf nxt (nxt+1) (.c (.fh (n+1) nxt 0 ao.length)) [(nxt,some (.aP (n+1) ao))] (.slice (some ⟨w.heap.size,0,none⟩) ao.length cap)
      {({w with drawn:=k}:World)with heap:=w.heap.push (.cells aP el)}:=by
    intro hn k hk hf ao aP cap hI1 h1 h2 h3;obtain⟨a1,S',φ',a2,a3,a4,a5⟩:=lE.aP (hI1.xN k hk) hn el (dA n) h1 h2 (h3.mono (gU.xN S w k));exact⟨a1,S',φ',(gU.xN S w k).trans a2,a3,a4,a5⟩
   have zsize:∀m,(Builtin.zeroCells zv.cells m).size=m*(n+1):=by
    intro m;have:zv.cells.size=n+1:=by rw[<-hzl,<-hzv];simp
    simp[Builtin.zeroCells,this]
   split at h
   .--a nil slice
    split at h
    .rename_i hle;simp only[DR]at hle;obtain⟨hv,_⟩:=(ha _ rfl).lit;cases new with
     |nil=>
      obtain⟨rfl,rfl,rfl,rfl⟩:TV.c (.d (.lit (.slice none 0 0)))=v/\[]=u/\ids1=aB/\nxt=n':=by simpa using h
      refine dK.pure hI ?_ (ha _ rfl);have hl2:=(hel w rfl).1;have hn2:=(hel w rfl).2;simp only[kC]at hl2 hn2
      simp only[execOp,ho,hcal,resolve,hargs,Sem.run_bind,Sem.run_pure,Result.andThen_ok,invoke,builtin,Builtin.append_,hts,eQ,aD,bh,hv,cM,
       c_,fg,cj hus,gZ hsz,hunx,hl2,aw,if_true,dv,hn2,aX,if_false,di]
     |cons q new=>
      obtain⟨rfl,rfl,rfl,rfl⟩:TV.c (.fh (n+1) nxt 0 (q::new).length)=v/\[(nxt,some (Ob.aP (n+1) (q::new)))]=u/\ids1=aB/\nxt+1=n':=by simpa using h
      obtain⟨newCap,hnc,hrun⟩:=grows none 0 0 #[] hv (by simp) (by simpa using hle) (fun w' _=>rfl);rw[bN]at hrun hnc;refine⟨.value _,_,_,hrun,.inl rfl,room_new (hn0 (bl _)) _ (bQ _) _ _ _ _ hI hnc ?_ ?_⟩
      .simp only[ij,hns,zsize,ii,kC];rw[bN,<-b_];exact aO _ (by omega)
      .refine ⟨hnR.1,fun i r hi j x hj=>?_⟩;obtain⟨y,hy,hr⟩:=hnR.2 i r hi j x hj;refine⟨y,?_,hr⟩;have hlt:=(bv.1 hy).1;simp only at hy|-;rw[dw (by simp;omega)];simpa using hy
    .simp at h
   .--a slice of one's bG
    rename_i sz' id off len;split at h
    .rename_i szo ao hob;split at h
     .rename_i hb;obtain⟨e1,hle,hlim⟩:=hb;subst e1;simp only[DR]at hlim;obtain⟨rfl,rfl,rfl,rfl⟩:TV.c (.fh (n+1) nxt 0 (len+new.length))=v/\[(id,none),(nxt,some (Ob.aP (n+1) ((ao.drop off).take len++new++ao.drop (off+len+new.length))))]=u/\id::ids1=aB/\nxt+1=n':=by simpa using h
      have hn:=hn0 (bl _);have hr:=ha _ rfl;generalize hv0:ρ s=val at hr;cases hr with
      |c hr=>
      have hlen:((ao.drop off).take len).length=len:=by simp;omega
      have hlen2:((ao.drop off).take len++new).length=len+new.length:=by simp;omega
      have hku:∀hf:Nat->Option Ob,bA [(id,none),(nxt,some (Ob.aP (n+1) ((ao.drop off).take len++new++ao.drop (off+len+new.length))))] hf=bA [(nxt,some (Ob.aP (n+1) ((ao.drop off).take len++new++ao.drop (off+len+new.length))))] (bA [(id,none)] hf):=by intro hf;have hne:id≠nxt:=fun e=>hn (e▸(hI.iN _ _ hob).1);rw[<-ew];exact mH (u:=[(id,none)]) fun p hp q hq=>by obtain rfl:=av.1 hp;obtain rfl:=av.1 hq;exact hne
      have hkill:Inv S K w0 Kn φ (bA [(id,none)] (aC H)) w:=hI.mg fun i o ho=>by
       rw[bZ]at ho;split at ho
       .simp at ho
       .exact ho
      obtain⟨hk0,h0⟩:=hI.iN _ _ hob;generalize hphi:φ id=l at*;cases h0 with
      |@aP _ _ aP hsz0 hl hS hK hown hext hfit hrr hvis=>
      obtain⟨cap,addr,rfl,hszl,hk,hcap,haddr,hextc,hcl⟩:=hr.kg;rw[hphi]at hv0 haddr hextc hszl hcl;have e2:szo=n+1:=by rw[<-hl,hszl]
      subst e2;rw[hl]at haddr hextc;have hR:∀len',len'=len->cT S w (n+1) (fun i=>aP[i]?) addr ((ao.drop off).take len'):=fun len' e=>by subst e;exact hrr.xI off len' fun h=>haddr (by omega)
      have hRc:cT S w (n+1) (fun i=>w.cell? ⟨l.cY,i,none⟩) addr ((ao.drop off).take len):=⟨(hR len rfl).1,fun i r hi j x hj=>let⟨y,hy,hd⟩:=(hR len rfl).2 i r hi j x hj;⟨y,(hown.cell _).trans hy,hd⟩⟩
      by_cases hroom:len+new.length<=cap
      .--there is iS
       have hl2:=(hel w rfl).1;have hn2:=(hel w rfl).2;have hcm:(len+new.length)*(n+1)<=cap*(n+1):=aO _ hroom;rw[b_]at hcm;obtain⟨ty,hty⟩:=hown;have eh:=run_storeCells_at P l.cY (addr+len*(n+1)) ty narr.toList 0 aP w hty (by simp only[fP,hns];omega) (fun v hv=>by rw[p6];exact hnone v hv);simp only[di,fP,hns]at eh;have hown:pk w l.cY aP:=⟨ty,hty⟩
       obtain⟨p1,p2,p3,p4,p5⟩:=nW (w:=w) (b:=l.cY) (o:=addr+len*(n+1)) (n:=new.length*(n+1)) (vs:=narr.toList) hown (by simpa using hns);have hio:Io w (w.setRow l.cY (aP.toList.take (addr+len*(n+1))++narr.toList++aP.toList.drop (addr+len*(n+1)+new.length*(n+1))).toArray):=⟨rfl,rfl,rfl,aw _⟩
       generalize hw':w.setRow l.cY (aP.toList.take (addr+len*(n+1))++narr.toList++aP.toList.drop (addr+len*(n+1)+new.length*(n+1))).toArray=w' at*
       have hrun:(execOp ρ o).run P w=.ok (.value (.slice (some ⟨l.cY,addr,none⟩) (len+new.length) cap)) w':=by
        simp only[execOp,ho,hcal,resolve,hargs,Sem.run_bind,Sem.run_pure,Result.andThen_ok,invoke,builtin,Builtin.append_,hts,eQ,aD,bh,hv0,cM,
         c_,fg,cj hus,gZ hsz,hunx,hl2,hroom,if_true,dv,hn2,aX,if_false,qm,eh]
       have hfree:∀i o,bA [(id,none)] (aC H) i=some o->cR o=true->l.cY∉ip w φ (bA [(id,none)] (aC H)) i:=by
        intro i o hi ho hm;have hi':=hi;rw[bZ]at hi';split at hi'
        .simp at hi'
        .rename_i hne;rw[gx rfl (hi.trans hi'.symm)]at hm;exact oh hI hi' hob ho rfl (fun e=>hne e.symm) hm (by rw[<-hphi];exact kR id)
       obtain⟨hs1,hI1⟩:=hkill.NV hS hK hfree p2 p3 p4 (p5 (by omega)) hio;have hget:∀k,(bg aP.toList (addr+len*(n+1)) narr.toList).toArray[k]?=if k<addr+len*(n+1)then aP[k]?else if k<addr+len*(n+1)+narr.size then narr[k-(addr+len*(n+1))]?else aP[k]?:=by intro k;rw[<-bo];show(bg aP.toList _ narr.toList)[k]?=_;rw[jt _ _ _ (by simp only[fP,hns];omega)];simp only[bo,fP]
       have hrows:cT S w' (n+1) (fun i=>(bg aP.toList (addr+len*(n+1)) narr.toList).toArray[i]?) addr ((ao.drop off).take len++new):=by
        refine qB (cT.mono hs1 ⟨(hR len rfl).1,fun i r hi j x hj=>?_⟩) (cT.mono hs1 ⟨hnR.1,fun i r hi j x hj=>?_⟩)
        .obtain ⟨y,hy,hd⟩:=(hR len rfl).2 i r hi j x hj;refine⟨y,?_,hd⟩;have hil:i<len:=by rw[<-hlen];exact(aq.1 hi).1
         have hjl:j<n+1:=by rw[<-(hR len rfl).1 i r hi];exact(aq.1 hj).1
         have hm:(i+1)*(n+1)<=len*(n+1):=aO _ hil;rw[dN]at hm;show(bg aP.toList (addr+len*(n+1)) narr.toList).toArray[_]?=_;rw[hget,if_pos (by omega)];exact hy
        .obtain ⟨y,hy,hd⟩:=hnR.2 i r hi j x hj;refine⟨y,?_,hd⟩;have hlt:=(bv.1 hy).1;show(bg aP.toList (addr+len*(n+1)) narr.toList).toArray[_]?=_;rw[hlen,hget,if_neg (by omega),if_pos (by omega)];rw[<-hy];show narr[_]?=narr[_]?;congr 1;omega
       have hsz':(bg aP.toList (addr+len*(n+1)) narr.toList).toArray.size=l.ext:=by simp only[ii];rw[eN _ _ _ (by simp only[fP,hns];omega)];simpa using hext
       have hLl:(ao.drop (off+len+new.length)).length=ao.length-(off+len+new.length):=by simp
       have hLR:cT S w (n+1) (fun i=>aP[i]?) (addr+(len+new.length)*(n+1)) (ao.drop (off+len+new.length)):=by
        have h7:=hrr.xI (addr:=addr+(len+new.length)*(n+1)) (off+len+new.length) (ao.length-(off+len+new.length)) fun h=>by have:=haddr (by omega);rw[this,db off len new.length,b_ off (len+new.length)];omega
        rwa[List.take_of_length_le (by rw[hLl];omega)]at h7
       have hrows2:cT S w' (n+1) (fun i=>(bg aP.toList (addr+len*(n+1)) narr.toList).toArray[i]?) addr ((ao.drop off).take len++new++ao.drop (off+len+new.length)):=by refine qB hrows ?_;rw[hlen2];refine cT.mono hs1 ⟨hLR.1,fun i r hi j x hj=>?_⟩;obtain⟨y,hy,hd⟩:=hLR.2 i r hi j x hj;refine⟨y,?_,hd⟩;show(bg aP.toList (addr+len*(n+1)) narr.toList).toArray[_]?=_;rw[hget,if_neg (by rw[b_];omega),if_neg (by rw[hns,b_];omega)];exact hy
       have hlen3:((ao.drop off).take len++new++ao.drop (off+len+new.length)).length<=cap:=by rw[List.length_append,hlen2,hLl];omega
       have hname:=hI1.name hn ⟨l.cY,addr,n+1,l.ext,cap⟩ (.aP (n+1) ((ao.drop off).take len++new++ao.drop (off+len+new.length))) (fun _ j b hj hb hm=>hfree j b hj hb (by rwa[Bu (p2 _ fun e=>hfree j b hj hb (e▸kR j))]at hm))
        (.aP (dA n) rfl hS hK p1 hsz' (by have h8:=aO (n+1) hlen3;simp only;omega) hrows2 hlen3)
       refine⟨.value _,_,_,hrun,.inl rfl,bQ _,S,_,hs1,⟨fun _ h=>.inl h,(jH _ hn).eu⟩,.c ?_,(hku (aC H)▸hname).xK fun j=>qa j⟩;have e:ext φ nxt ⟨l.cY,addr,n+1,l.ext,cap⟩ nxt=⟨l.cY,addr,n+1,l.ext,cap⟩:=by simp[ext]
       have:=RC.fh (S:=S) (w:=w') (Kn:=pJ Kn nxt (nxt+1)) (φ:=ext φ nxt ⟨l.cY,addr,n+1,l.ext,cap⟩) (id:=nxt) (off:=0) (len:=len+new.length) (cap:=cap) (addr:=addr)
        (.inr (by omega)) hroom (by rw[e];simp) (by rw[e];exact hextc) (by rw[e];simp)
       rw[e]at this;exact this
      .--there is none
       obtain⟨old,hold,hos,hoR,hoone⟩:=ru (P:=P) (sz:=n+1) (dA n) hRc;rw[hlen]at hold hos;obtain⟨newCap,hnc,hrun⟩:=grows (some ⟨l.cY,addr,none⟩) len cap old hv0 (by omega) hlim (fun w' hw=>hold w' hw);refine⟨.value _,_,_,hrun,.inl rfl,?_⟩
       have hD:=room_new hn (w.drawn+1) (bQ _) (bA [(id,none)] (aC H)) ((ao.drop off).take len++new) (old++narr++Builtin.zeroCells zv.cells (newCap-(len+new.length))) newCap hkill (by rw[hlen2];exact hnc)
        (by simp only[ij,hos,hns,zsize];rw[<-b_,<-b_];exact aO _ (by omega))
        (by
         refine qB ⟨hoR.1,fun i r hi j x hj=>?_⟩ ⟨hnR.1,fun i r hi j x hj=>?_⟩
         .obtain ⟨y,hy,hd⟩:=hoR.2 i r hi j x hj;refine⟨y,?_,hd⟩;have hlt:=(bv.1 hy).1;show(old++narr++_)[_]?=_;rw[dw (by rw[ij];omega),dw hlt];exact hy
         .obtain ⟨y,hy,hd⟩:=hnR.2 i r hi j x hj;refine⟨y,?_,hd⟩;have hlt:=(bv.1 hy).1;show(old++narr++_)[_]?=_;rw[hlen,dw (by rw[ij,hos];omega),Array.getElem?_append_right (by rw[hos];omega)];rw[<-hy,hos];show narr[_]?=narr[_]?;congr 1;omega)
       rw[hlen2]at hD;obtain⟨q1,S',φ',q2,q3,q4,q5⟩:=hD;have hL0:ao.drop (off+len+new.length)=[]:=List.drop_eq_nil_of_le (by omega);exact⟨q1,S',φ',q2,q3,q4,by rw[hku,hL0,List.append_nil];exact q5⟩
     .simp at h
    .simp at h
   .simp at h
end
end Go.Ev
