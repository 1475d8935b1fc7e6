/- The model's operations, one by one, against the abstract machine's. Conditions: the relation of XEvC. -/
import Derived.Test.YthcplpfiidlinaaDoorEvF
open Array renaming getElem?_append_left->cE,getElem?_eq_some_iff->bg,getElem?_toList->aZ,length_toList->cG,size_append->ii
open Bool renaming false_eq_true->aS,not_false->eK,or_eq_true->cJ
open List renaming all_eq_true->bc,getD->lG,getElem?_cons_succ->fg,getElem?_cons_zero->c_,getElem?_drop->bO,getElem?_eq_getElem->av,getElem?_eq_some_iff->ak,getElem?_map->aG,getElem?_range->jP,getElem?_replicate->dC,getElem?_set_self->km,getElem?_take->eG,getElem?_toArray->cO,length->mC,length_cons->c9,length_nil->kx,length_replicate->db,map_cons->aD,map_nil->aV,map_toArray->eP,mem_map->b_,mem_of_getElem?->aW,mem_singleton->am,range->aK,replicate->aw,size_toArray->cR
open Nat renaming add_assoc->cM,add_mul->bN,add_zero->dM,le_refl->au,le_succ->bH,lt_succ_self->aX,mul_comm->ju,mul_le_mul_right->aI,mul_one->lj,succ_mul->dL,succ_pos->dw,zero_add->bK
open Option renaming getD_some->fC,map_eq_some_iff->aF,map_some->bL
open Option.some renaming inj->aa
open Prod.mk renaming inj->ad
namespace Go.Ev
abbrev Ah:=FuncId->Bool×List Bool
def jU(P:Program)(fields:Array Field):List Nat->Option (List (Nat×Nat))
 |[]=>some []
 |i::r=>
  match fields[i]?,jU P fields r with
  |some f,some l=>match fG P f.type with|some n=>some ((f.offset,n)::l)|none=>none
  |_,_=>none
def nY:Nat->Value
 |0=>.slice none 0 0
 |1=>.pointer none
 |_=>.nilFunc
def we:Nat->Operand->Bool
 |0,.const (.slice none 0 0)|1,.const (.pointer none)|2,.const .nilFunc=>true
 |_,_=>false
def PJ(P:Program)(g:TypeId->Option (List Kd)):List Field->Nat->Option (List Kd)
 |[],_=>some []
 |f::r,o=>
  if f.offset=o/\f.name≠ "_" then
   match g f.type with|some ks=>if fG P f.type=some ks.length then(match PJ P g r (o+ks.length)with|some l=>some (ks++l)|none=>none)else none|none=>none
  else none
def zH(P:Program):Nat->TypeId->Option (List Kd)
 |0,_=>none
 |d+1,t=>
  match P.underlying t with
  |some .bool=>if fG P t=some 1 then some [.b]else none
  |some (.int q)=>if fG P t=some 1 then some [.i q]else none
  |some .string=>if fG P t=some 1 then some [.s]else none
  |some (.array n e)=>match zH P d e with|some ks=>if fG P e=some ks.length/\fG P t=some (n*ks.length)then some (aw n ks).flatten else none|none=>none
  |some (.struct fs)=>match PJ P (zH P d) fs.toList 0 with|some ks=>if P.stoodInHeld t=false/\fG P t=some ks.length then some ks else none|none=>none
  |_=>none
def EH(P:Program)(t:TypeId):Option Bool:=((P.info? t).bind (·.zero)).map fun|.agg _=>true|_=>false
def yG(P:Program)(k e:TypeId):Option (Bool×List Kd×Bool×List Value):=match fM P k,zH P 8 k,fM P e,jQ P e with|some ka,some ks,some va,some z=>if EH P e=some va then some (ka,ks,va,z)else none|_,_,_,_=>none
def p8(kind:Nat)(neg:Bool)(x y:Operand):K×List Operand:=if we kind y then(.qL kind neg,[x])else if we kind x then(.qL kind neg,[y])else(.gj,[])
def Hu(P:Program)(op:BinOp)(t:TypeId)(x y:Operand):K×List Operand:=
 match op with
 |.eql|.neq=>
  match P.underlying t with
  |some .bool=>(.uG (op==.neq),[x,y])
  |some (.int _)|some (.float _)|some .string=>(.Ad op,[x,y])
  |some (.slice _)=>p8 0 (op==.neq) x y
  |some (.pointer _)=>p8 1 (op==.neq) x y
  |some (.func _ _ _)=>p8 2 (op==.neq) x y
  |some (.struct _)|some (.array _ _)=>match zH P 8 t with|some ks=>if P.eqGuardType P.depth t=false then(.zf (op==.neq) ks,[x,y])else(.gj,[])|none=>(.gj,[])
  |_=>(.gj,[])
 |op=>(.Ad op,[x,y])
def o5(P:Program)(e:TypeId):Bool:=match P.info? e with|some i=>decide (0<i.bytes)&&decide (i.bytes<=16384)|none=>false
def sQ(P:Program)(b:Builtin)(args:List Operand)(ts:List TypeId):K×List Operand:=
 match b,ts with
 |.len,[t]=>match P.underlying t with|some .string=>(.len true,args)|some (.slice _)=>(.len false,args)|_=>(.gj,[])
 |.max,_=>(.uB true,args)
 |.min,_=>(.uB false,args)
 |.append,[s,x]=>
  match P.underlying s,P.underlying x with
  |some (.slice e),some (.slice _)=>match fG P e,jQ P e with|some (n+1),some z=>if o5 P e=true/\z.length=n+1 then(.append (n+1),args)else(.gj,[])|_,_=>(.gj,[])
  |some (.slice e),some (.int _)=>match fG P e,jQ P e with|some (n+1),some z=>if o5 P e=true/\z.length=n+1 then(.Ss z,args)else(.gj,[])|_,_=>(.gj,[])
  |_,_=>(.gj,[])
 |.cap,[t]=>match P.underlying t with|some (.slice _)=>(.MA,args)|_=>(.gj,[])
 |.copy,[d,_]=>
  match P.underlying d with
  |some (.slice e)=>match fG P e with|some (n+1)=>(.copy (n+1),args)|_=>(.gj,[])
  |_=>(.gj,[])
 |.clear,[s]=>
  match P.underlying s with
  |some (.slice e)=>match fG P e,jQ P e with|some (n+1),some z=>if z.length=n+1 then(.clear z,args)else(.gj,[])|_,_=>(.gj,[])
  |_=>(.gj,[])
 |_,_=>(.gj,[])
def Lo(P:Program)(f:FuncId):Bool:=
 match P.funcs[f]?with
 |some fn=>
  !(fn.name== "runtime.NumGoroutine")&&fn.body.isNone&&(Extern.findNext fn).isNone&&(Extern.allGenericRows.lookup fn.name).isNone&&(Extern.allTypedRows.lookup fn.name).isNone&&(Extern.allRows.lookup fn.name).isNone&&fn.origin== "slices.overlaps" &&
  (match fn.params.toList with
   |t::_=>(match P.underlying t with|some (.slice e)=>(match fG P e with|some (_+1)=>true|_=>false)|_=>false)
   |[]=>false)
 |none=>false
def FS:List Value->Bool
 |[.slice none 0 0]=>true
 |_=>false
def O7(P:Program)(dg:Ah)(e:TypeId)(z:List Value):Option Nat:=if(dg 1000000000).1=true/\FS z=true then(match P.underlying e with|some (.slice ee)=>(match fG P ee with|some (m+1)=>some (m+1)|_=>none)|_=>none)else none
def DP(P:Program)(t:TypeId):Bool:=match P.underlying t with|some (.slice _)=>true|_=>false
def w6(P:Program)(dg:Ah):Op->K×List Operand
 |.move x|.assign x=>(.mv,[x])
 |.pick c a b=>(.pick,[c,a,b])
 |.alloc e=>match jQ P e with|some z=>(.alloc z,[])|none=>(.gj,[])
 |.box _ x=>(.box,[x])
 |.build t parts=>
  match P.underlying t,jQ P t with
  |some (.struct fields),some z=>match jU P fields (parts.toList.map (·.1))with|some pl=>if fields.toList.all (fun f=>(fG P f.type).isSome)then(.build z pl,parts.toList.map (·.2))else(.gj,[])|none=>(.gj,[])
  |some (.array _ e),some z=>match fG P e with|some n=>(.build z (parts.toList.map fun p=>(p.1*n,n)),parts.toList.map (·.2))|none=>(.gj,[])
  |_,_=>(.gj,[])
 |.buildSlice t len parts=>
  match P.underlying t with
  |some (.slice e)=>match fG P e,jQ P e with|some (n+1),some z=>if len*(n+1)<=4096/\z.length=n+1 then(.buildSlice (n+1) len ((aK (len*(n+1))).map fun i=>z.getD (i %(n+1)) undef) (parts.toList.map (·.1)),parts.toList.map (·.2))else(.gj,[])|_,_=>(.gj,[])
  |_=>(.gj,[])
 |.load t a=>match fM P t,fG P t with|some g,some n=>(if(dg 1000000000).1=true/\DP P t=true/\g=false/\n=1 then .t7 else .load g n,[a])|_,_=>(.gj,[])
 |.store t a x=>match fG P t with|some n=>(.store n,[a,x])|none=>(.gj,[])
 |.nilCheck x=>(.nilCheck,[x])
 |.binOp op t x y _=>Hu P op t x y
 |.unOp op _ x=>(.un op,[x])
 |.convert s d x=>match P.underlying s,P.underlying d with|some (.int _),some (.int k)=>(.vw k,[x])|some .string,some .string=>(.sP,[x])|_,_=>(.gj,[])
 |.makeFunc (.func f) first captured=>if first.isEmpty then(.IF f,captured.toList)else(.gj,[])
 |.makeSlice t l c=>
  match P.underlying t with
  |some (.slice e)=>match fG P e,jQ P e with|some (n+1),some z=>if z.length=n+1/\o5 P e=true then(match O7 P dg e z with|some m=>.AI m|none=>.makeSlice z,[l,c])else(.gj,[])|_,_=>(.gj,[])
  |_=>(.gj,[])
 |.slice t x lo hi none=>
  match P.underlying t with
  |some .string=>(.slice true 1 lo.isSome hi.isSome,x::lo.toList++hi.toList)
  |some (.slice e)=>match fG P e with|some n=>(.slice false n lo.isSome hi.isSome,x::lo.toList++hi.toList)|none=>(.gj,[])
  |_=>(.gj,[])
 |.slice t x (some l) (some u) (some m)=>
  match P.underlying t with
  |some (.slice e)=>match fG P e with|some n=>(.Bv n,[x,l,u,m])|none=>(.gj,[])
  |_=>(.gj,[])
 |.fieldAddr s x f=>
  match P.underlying s with
  |some (.struct fields)=>match fields[f]?with|some fl=>(match fG P fl.type with|some (m+1)=>(.fieldAddr fl.offset (m+1),[x])|_=>(.gj,[]))|none=>(.gj,[])
  |_=>(.gj,[])
 |.field s x f=>
  match P.underlying s with
  |some (.struct fields)=>match fields[f]?with|some fl=>(match fM P fl.type,fG P fl.type with|some g,some n=>(.field g fl.offset n,[x])|_,_=>(.gj,[]))|none=>(.gj,[])
  |_=>(.gj,[])
 |.indexAddr t x i=>
  match P.underlying t with
  |some (.slice e)=>match fG P e with|some n=>(.indexAddr none n,[x,i])|none=>(.gj,[])
  |some (.array len e)=>match fG P e with|some n=>(.indexAddr (some len) n,[x,i])|none=>(.gj,[])
  |_=>(.gj,[])
 |.index t x i=>
  match P.underlying t with
  |some .string=>(.px,[x,i])
  |some (.array len e)=>match fM P e,fG P e with|some g,some n=>(.index g len n,[x,i])|_,_=>(.gj,[])
  |_=>(.gj,[])
 |.extract x i=>(.extract i,[x])
 |.makeMap t none=>
  match P.underlying t with
  |some (.map k e)=>match fM P k,fM P e with|some ka,some va=>(.makeMap ka va,[])|_,_=>(.gj,[])
  |_=>(.gj,[])
 |.lookup t x ix ok=>
  match P.underlying t with
  |some (.map k e)=>match yG P k e with|some (ka,ks,va,z)=>(.lookup ka ks va z ok,[x,ix])|none=>(.gj,[])
  |_=>(.gj,[])
 |.mapEntry t m k=>
  match P.underlying t with
  |some (.map kt e)=>match yG P kt e with|some (ka,ks,va,z)=>(.mapEntry ka ks va z,[m,k])|none=>(.gj,[])
  |_=>(.gj,[])
 |.entryStore t m s x=>
  match P.underlying t with
  |some (.map kt e)=>match yG P kt e with|some (_,_,va,z)=>(.entryStore va z.length,[m,s,x])|none=>(.gj,[])
  |_=>(.gj,[])
 |.call c=>match c.callee with|.builtin b=>sQ P b c.args.toList c.argTypes.toList|.value (.func f)=>if(dg f).2.length=9 then(if Lo P f=true then(.RL,c.args.toList)else(.gj,[]))else(.call (dg f).1 (dg f).2,.func f::c.args.toList)|.value f=>(.call false [],f::c.args.toList)|.invoke _ _=>(.gj,[])
 |_=>(.gj,[])
section
variable{P:Program}{S K:Nat->Prop}{w0 w:World}{Kn:Nat->Prop}{φ:Nat->gF}{hf:Nat->Option Ob}
def li(S K:Nat->Prop)(w0 w:World)(Kn:Nat->Prop)(φ:Nat->gF)(hf:Nat->Option Ob)(nxt n':Nat)(v:TV)(u:fx)(val:Value)(w':World):Prop:=nxt<=n'/\∃S' φ',gV S w S' w'/\Ren Kn φ (o7 Kn nxt n') φ'/\gf S' w' (o7 Kn nxt n') φ' v val/\Inv S' K w0 (o7 Kn nxt n') φ' (bk u hf) w'
theorem gf.kn{Kn':Nat->Prop}{c:TV}{v:Value}(h:gf S w Kn φ c v)(hs:∀i,Kn i->Kn' i):gf S w Kn' φ c v:=h.mono (gV.refl _ _) ⟨hs,fun _ _=>rfl⟩
theorem li.pure{n:Nat}{v:TV}{val:Value}(hI:Inv S K w0 Kn φ hf w)(h:gf S w Kn φ v val):li S K w0 w Kn φ hf n n v [] val w:=⟨au _,S,φ,gV.refl _ _,tu _ _,h.kn fun _ hi=>.inl hi,hI.kn fun _ hi=>.inl hi⟩
def dF(P:Program)(o:Oper)(ρ:Operand->Value)(S K:Nat->Prop)(w0 w:World)(Kn:Nat->Prop)(φ:Nat->gF)(hf:Nat->Option Ob)(nxt n':Nat)(v:TV)(u:fx):Prop:=∃nx val w',(execOp ρ o).run P w=.ok nx w'/\(nx=.value val\/(nx=.skip/\val=undef))/\li S K w0 w Kn φ hf nxt n' v u val w'
theorem Me{v:Value}{tv:TV}(h:cv v=some tv):gf S w Kn φ tv v:=by
 unfold cv at h;split at h
 .rename_i cs;split at h
  .rename_i hp;obtain rfl:=aa h;refine .agg (by simp) fun i x hi=>?_;rw[aG]at hi;obtain⟨y,hy,rfl⟩:=aF.1 hi;have hlt:i<cs.size:=by simpa using(ak.1 hy).1
   have e:cs.getD i undef=y:=by rw[aZ]at hy;simp[hy]
   rw[e];exact .d (.lit (bc.1 hp y (aW hy)))
  .simp at h
 .split at h
  .rename_i hp;obtain rfl:=aa h;exact .c (.d (.lit hp))
  .simp at h
def jJ.ok(S:Nat->Prop)(w:World)(Kn:Nat->Prop)(φ:Nat->gF)(e:jJ)(tmps:Array Value):Prop:=∀t x,cq e t=some x->gf S w Kn φ x (tmps.getD t undef)
theorem tw{e:jJ}{a:Act}(hg:uM S w)(hE:jJ.ok S w Kn φ e a.tmps){x:Operand}{tv:TV}(h:kM e x=some tv):gf S w Kn φ tv (a.eval x):=by
 cases x with
 |tmp t=>exact hE t tv h
 |const v=>exact Me h
 |global g=>obtain⟨d,hd,rfl⟩:=aF.1 (show(Qu g).map (fun d=>TV.c (.d d))=some tv from h);exact .c (.d (hg g d hd))
 |func f=>
  obtain rfl:TV.c (.d (.fn f []))=tv:=by simpa[kM]using h
  exact .c (.d (.fn rfl fun j x hj=>by simp at hj))
theorem gf.lit{v val:Value}(h:gf S w Kn φ (.c (.d (.lit v))) val):val=v/\d_ v=true:=by
 cases h with
 |c h=>cases h with
  |d h=>cases h with|lit h=>exact⟨rfl,h⟩
theorem gf.oA{v:Value}(h:d_ v=true):gf S w Kn φ (lv v) v:=.c (.d (.lit h))
theorem Kf{op:BinOp}{t:TypeId}{x y v:Value}(h:rZ op x y=some v):(binOp op t x y).run P w=.ok v w/\d_ v=true/\(∀a b,(eqGuard op t a b x y).run P w=.ok () w):=by
 have hg:∀a b,(match x,y with|.nilIface,.nilIface=>False|.agg _,.agg _=>False|_,_=>True)->(eqGuard op t a b x y).run P w=.ok () w:=by intro a b hxy;unfold eqGuard;cases op<;>simp<;>(cases x<;>cases y<;>simp_all)
 unfold rZ at h;split at h
 .rename_i k a k' b;refine(fun⟨h1,h2⟩=>⟨h1,h2,fun a b=>hg a b trivial⟩:(_/\_)->_) ?_;split at h
  .split at h
   .simp at h
   .rename_i hb;obtain rfl:=aa h;simp[binOp,Op.shift,hb,d_]
  .split at h
   .simp at h
   .rename_i hb;obtain rfl:=aa h;simp[binOp,Op.shift,hb,d_]
  .rename_i op hshl hshr;split at h
   .rename_i hk;subst hk
    split at h<;>first
     |(simp at h;done)
     |(split at h
       .simp at h
       .rename_i hb;obtain rfl:=aa h;simp[binOp,Op.intDiv,hb,d_])
     |(obtain rfl:=aa h
       simp[binOp,Op.intArith,Op.intBits,Op.intCmp,d_])
   .simp at h
 .rename_i k a k' b;refine(fun⟨h1,h2⟩=>⟨h1,h2,fun a b=>hg a b trivial⟩:(_/\_)->_) ?_;split at h
  .rename_i hk;subst hk
   split at h<;>first
    |(simp at h;done)
    |(obtain⟨r,hr,rfl⟩:=aF.1 h
      simp[binOp,Op.floatArith,hr,d_])
    |(obtain rfl:=aa h
      simp[binOp,Op.floatCmp,d_])
  .simp at h
 .rename_i x y;refine(fun⟨h1,h2⟩=>⟨h1,h2,fun a b=>hg a b trivial⟩:(_/\_)->_) ?_
  split at h<;>first
   |(simp at h;done)
   |(split at h
     .simp at h
     .rename_i hb;obtain rfl:=aa h;refine⟨?_,rfl⟩;simp only[binOp,Op.stringOp,if_neg hb,Sem.run_pure])
   |(obtain rfl:=aa h
     simp[binOp,Op.stringOp,d_])
 .simp at h
theorem Nt{op:UnOp}{x v:Value}(h:Sz op x=some v):(Op.unary op x).run P w=.ok v w/\d_ v=true:=by
 unfold Sz at h;split at h
 .split at h
  .obtain rfl:=aa h;simp[Op.unary,d_]
  .simp at h
 .split at h
  .obtain rfl:=aa h;simp[Op.unary,Op.intArith,d_]
  .obtain rfl:=aa h;simp[Op.unary,Op.intBits,d_]
  .simp at h
 .split at h
  .obtain rfl:=aa h;simp[Op.unary,d_]
  .simp at h
 .simp at h
end
section
variable{P:Program}{S K:Nat->Prop}{w0 w:World}{Kn:Nat->Prop}{φ:Nat->gF}{H:bF}{e:jJ}{ρ:Operand->Value}{o:Oper}{call:Call}
 {nxt n':Nat} {v:TV} {u:fx} {aA:List Nat}
theorem pw(j:Nat):(Kn j\/j=nxt)<->o7 Kn nxt (nxt+1) j:=by
 unfold o7;constructor
 .rintro (h|rfl)
  .exact .inl h
  .exact .inr (by omega)
 .rintro (h|h)
  .exact .inl h
  .exact .inr (by omega)
theorem G7(hI:Inv S K w0 Kn φ (aB H) w):¬S w.heap.size/\¬K w.heap.size:=⟨fun h=>Nat.lt_irrefl _ (hI.uO _ h),fun h=>by have:=hI.ng.FO _ h;have:=hI.ng.grow;omega⟩
theorem li.box{hf:Nat->Option Ob}(hI:Inv S K w0 Kn φ (aB H) w)(hh:hf=aB H)(hn:¬Kn nxt){cs:List C}{aL:Array Value}(t:TypeId)(hlen:cs.length=aL.size)
  (h:∀(i:Nat)(x:C),cs[i]?=some x->RC S w Kn φ x (aL.getD i undef)):
  li S K w0 w Kn φ hf nxt (nxt+1) (.c (.op nxt 0)) [(nxt,some (.box cs))] (.pointer (some ⟨w.heap.size,0,none⟩)) {w with heap:=w.heap.push (.cells aL t)}:=by
 subst hh;obtain⟨nS,nK⟩:=G7 hI;have hs:=gV.push (w:=w) hI.uO (.cells aL t);refine⟨bH _,S,_,hs,⟨fun _ h=>.inl h,(jK _ hn).eh⟩,.c ?_,(hI.alloc hn aL t 1 0 (.box cs) (.box rfl nS nK (Dd w aL t) hlen fun i x hi=>(h i x hi).mono hs (jK _ hn))).xh fun j=>pw j⟩;have:=RC.op (S:=S) (w:={w with heap:=w.heap.push (.cells aL t)}) (Kn:=o7 Kn nxt (nxt+1)) (φ:=ext φ nxt ⟨w.heap.size,0,1,aL.size,0⟩) (id:=nxt) (off:=0) (.inr (by omega));simpa[ext]using this
theorem li.aL{hf:Nat->Option Ob}(hI:Inv S K w0 Kn φ hf w)(hn:¬Kn nxt){sz cap:Nat}{ao:List (List D)}{aL:Array Value}(t:TypeId)(hsz:0<sz)
  (hcap:ao.length<=cap) (hfit:cap*sz<=aL.size) (h:cS S w sz (fun i=>aL[i]?) 0 ao):
  li S K w0 w Kn φ hf nxt (nxt+1) (.c (.fh sz nxt 0 ao.length)) [(nxt,some (.aL sz ao))] (.slice (some ⟨w.heap.size,0,none⟩) ao.length cap) {w with heap:=w.heap.push (.cells aL t)}:=by
 have nS:¬S w.heap.size:=fun h=>Nat.lt_irrefl _ (hI.uO _ h);have nK:¬K w.heap.size:=fun h=>by have:=hI.ng.FO _ h;have:=hI.ng.grow;omega
 have hs:=gV.push (w:=w) hI.uO (.cells aL t);have hrl:ao.length*sz<=cap*sz:=aI _ hcap;refine⟨bH _,S,_,hs,⟨fun _ h=>.inl h,(jK _ hn).eh⟩,.c ?_,(hI.alloc hn aL t sz cap (.aL sz ao) (.aL hsz rfl nS nK (Dd w aL t) rfl (by simp only;omega) (h.mono hs) hcap)).xh fun j=>pw j⟩;have e:ext φ nxt ⟨w.heap.size,0,sz,aL.size,cap⟩ nxt=⟨w.heap.size,0,sz,aL.size,cap⟩:=by simp[ext]
 have:=RC.fh (S:=S) (w:={w with heap:=w.heap.push (.cells aL t)}) (Kn:=o7 Kn nxt (nxt+1)) (φ:=ext φ nxt ⟨w.heap.size,0,sz,aL.size,cap⟩) (id:=nxt) (off:=0) (len:=ao.length) (cap:=cap) (addr:=0)
  (.inr (by omega)) hcap (by rw[e];simp) (by rw[e];simpa using hfit) (by rw[e];simp)
 rw[e]at this;simpa using this
theorem ye(t:TypeId)(val:Value):(newVar t val).run P w=.ok ⟨w.heap.size,0,none⟩ {w with heap:=w.heap.push (.cells val.cells t)}:=by simp[newVar,newRow,newObj,Sem.run]
theorem K_{z:List Value}{aL:Array Value}(hz:aL.toList=z)(hp:∀x∈z,d_ x=true):(fk z).length=aL.size/\∀(i:Nat)(x:C),(fk z)[i]?=some x->RC S w Kn φ x (aL.getD i undef):=by
 subst hz;refine⟨by simp[fk],fun i x hi=>?_⟩;simp only[fk,aG]at hi;obtain⟨y,hy,rfl⟩:=aF.1 hi;have e:aL.getD i undef=y:=by rw[aZ]at hy;simp[hy]
 rw[e];exact .d (.lit (hp y (aW hy)))
theorem KG{t:TypeId}{z:List Value}(ho:o.op=.alloc t)(hz:jQ P t=some z)(hI:Inv S K w0 Kn φ (aB H) w)(hn0:nxt<n'->¬Kn nxt)
  (h:cN call (.alloc z) [] H nxt=some (v,u,aA,n')):dF P o ρ S K w0 w Kn φ (aB H) nxt n' v u:=by
 obtain⟨rfl,rfl,rfl,rfl⟩:TV.c (.op nxt 0)=v/\[(nxt,some (.box (fk z)))]=u/\[]=aA/\nxt+1=n':=by simpa[cN]using h
 have hn:=hn0 (aX _);obtain⟨val,hv,hc,hp⟩:=pi hz w;obtain⟨h1,h2⟩:=K_ (S:=S) (w:=w) (Kn:=Kn) (φ:=φ) hc hp;refine⟨.value _,_,_,?_,.inl rfl,li.box hI rfl hn t h1 h2⟩;simp[execOp,ho,Instr.alloc,hv,ye]
theorem P7{t:TypeId}{x:Operand}(ho:o.op=.box t x)(hI:Inv S K w0 Kn φ (aB H) w)(hn0:nxt<n'->¬Kn nxt){tv:Option TV}(hx:∀y,tv=some y->gf S w Kn φ y (ρ x))
  (h:cN call .box [tv] H nxt=some (v,u,aA,n')):dF P o ρ S K w0 w Kn φ (aB H) nxt n' v u:=by
 cases tv with
 |none=>simp[cN]at h
 |some y=>
  simp only[cN]at h;split at h
  .rename_i cs hcs;obtain⟨rfl,rfl,rfl,rfl⟩:TV.c (.op nxt 0)=v/\[(nxt,some (.box cs))]=u/\[]=aA/\nxt+1=n':=by simpa using h
   have hn:=hn0 (aX _);obtain⟨h1,h2,_⟩:=(hx y rfl).cells hcs;refine⟨.value _,_,_,?_,.inl rfl,li.box hI rfl hn t h1 h2⟩;simp[execOp,ho,Instr.box,ye]
  .simp at h
theorem H4{t:TypeId}{agg:Bool}{n:Nat}(ha:fM P t=some agg)(hs:fG P t=some n)(hI:Inv S K w0 Kn φ (aB H) w){p:C}{pv:Value}(hp:RC S w Kn φ p pv)(hn0:nxt<n'->¬Kn nxt)
  (h:lA agg n p H nxt=some (v,u,aA,n')):∃val,(Instr.loadAt t pv).run P w=.ok val w/\li S K w0 w Kn φ (aB H) nxt n' v u val w:=by
 unfold lA at h;split at h
 case h_2=>simp at h
 rename_i id di;split at h
 case h_2=>simp at h
 rename_i sz slots ho;split at h
 case isFalse=>simp at h
 rename_i hag;obtain⟨rfl,rfl⟩:=hag;obtain⟨hk,hro⟩:=hI.iL id _ ho;have hl:(φ id).sz=1:=by cases hro with|nst hsz hl=>exact hl
 cases hp with
 |ep hk'=>
  have ea:(⟨(φ id).bU,(φ id).aQ+di*(φ id).sz+0,none⟩:Addr)=⟨(φ id).bU,(φ id).aQ+di,none⟩:=by rw[hl,lj,dM]
  rw[ea];split at h
  .rename_i hsl;obtain⟨rfl,rfl,rfl,rfl⟩:TV.c (.d (.lit (.slice none 0 0)))=v/\[]=u/\[id]=aA/\nxt=n':=by simpa using h
   cases hro with
   |nst hsz hl hS hK hown hext hfit hr hv=>
    obtain⟨x,h1,h2⟩:=hr di _ hsl;cases h2
    obtain⟨val,q1,q2⟩:=vU (S:=S) (Kn:=Kn) (φ:=φ) ha hs (cells:=[.d (.lit (.slice none 0 0))]) (b:=(φ id).bU) (o:=(φ id).aQ+di) (fun j x hj=>by
     cases j with
     |succ j=>simp at hj
     |zero=>
      obtain rfl:C.d (.lit (.slice none 0 0))=x:=by simpa using hj
      exact⟨_,(hown.cell _).trans h1,.d (.lit rfl)⟩) (v:=TV.c (.d (.lit (.slice none 0 0)))) rfl
    exact⟨val,by simp[Instr.loadAt,Instr.sureAddr,q1],li.pure hI q2⟩
  .rename_i ao hsl;obtain⟨rfl,rfl,rfl,rfl⟩:TV.c (.fh sz nxt 0 ao.length)=v/\[(nxt,some (Ob.aL sz ao)),(id,some (Ob.nst sz (slots.set di (.dX nxt ao.length))))]=u/\[id]=aA/\nxt+1=n':=by simpa using h
   have hn:=hn0 (aX _);obtain⟨l,x,h1,h2,h3⟩:=hI.split ho hsl hn
   obtain⟨val,q1,q2⟩:=vU (S:=S) (Kn:=fun j=>Kn j\/j=nxt) (φ:=ext φ nxt l) ha hs (cells:=[.fh sz nxt 0 ao.length]) (b:=(φ id).bU) (o:=(φ id).aQ+di) (fun j x' hj=>by
     cases j with
     |succ j=>simp at hj
     |zero=>
      obtain rfl:C.fh sz nxt 0 ao.length=x':=by simpa using hj
      exact⟨x,h1,h2⟩) (v:=TV.c (.fh sz nxt 0 ao.length)) rfl
   refine⟨val,by simp[Instr.loadAt,Instr.sureAddr,q1],bH _,S,ext φ nxt l,gV.refl _ _,⟨fun i hi=>.inl hi,(jK l hn).eh⟩,q2.kn fun i=>(pw i).1,h3.xh fun i=>pw i⟩
  .simp at h
theorem GZ{t:TypeId}{x:Operand}{agg:Bool}{n:Nat}(ho:o.op=.load t x)(ha:fM P t=some agg)(hs:fG P t=some n)(hI:Inv S K w0 Kn φ (aB H) w)
  {tv:Option TV} (hx:∀y,tv=some y->gf S w Kn φ y (ρ x)) (h:cN call (.load agg n) [tv] H nxt=some (v,u,aA,n')):dF P o ρ S K w0 w Kn φ (aB H) nxt n' v u:=by
 cases tv with
 |none=>simp[cN]at h
 |some y=>
  cases y with
  |c p=>
   change (match h_ agg n p H with|some (v,aA)=>some (v,[],aA,nxt)|none=>none)=_ at h;split at h
   .rename_i v' ids' hl;obtain⟨rfl,rfl,rfl,rfl⟩:v'=v/\[]=u/\ids'=aA/\nxt=n':=by simpa using h
    cases hx _ rfl with|c hp=>obtain⟨val,h1,h2⟩:=yg ha hs hI hp hl;refine⟨.value _,_,_,?_,.inl rfl,li.pure hI h2⟩;simp[execOp,ho,h1]
   .simp at h
  |_=>simp[cN]at h
theorem KA{t:TypeId}{x:Operand}(ho:o.op=.load t x)(ha:fM P t=some false)(hs:fG P t=some 1)(hI:Inv S K w0 Kn φ (aB H) w)(hn0:nxt<n'->¬Kn nxt)
  {tv:Option TV} (hx:∀y,tv=some y->gf S w Kn φ y (ρ x)) (h:cN call .t7 [tv] H nxt=some (v,u,aA,n')):dF P o ρ S K w0 w Kn φ (aB H) nxt n' v u:=by
 cases tv with
 |none=>simp[cN]at h
 |some y=>
  cases y with
  |c p=>
   change (match h_ false 1 p H with|some (v,aA)=>some (v,[],aA,nxt)|none=>lA false 1 p H nxt)=_ at h;split at h
   .rename_i v' ids' hl;exact GZ (call:=call) ho ha hs hI (tv:=some (.c p)) hx (by show(match h_ false 1 p H with|some (v,aA)=>some (v,[],aA,nxt)|none=>none)=_;rw[hl];exact h)
   .cases hx _ rfl with|c hp=>obtain⟨val,h1,h2⟩:=H4 ha hs hI hp hn0 h;refine⟨.value _,_,_,?_,.inl rfl,h2⟩;simp[execOp,ho,h1]
  |_=>simp[cN]at h
theorem dF.pure{val:Value}(hI:Inv S K w0 Kn φ (aB H) w)(hr:(execOp ρ o).run P w=.ok (.value val) w)(h:gf S w Kn φ v val):dF P o ρ S K w0 w Kn φ (aB H) nxt nxt v []:=⟨.value val,val,w,hr,.inl rfl,li.pure hI h⟩
theorem O6{x:Operand}(ho:o.op=.move x\/o.op=.assign x)(hI:Inv S K w0 Kn φ (aB H) w){tv:Option TV}(hx:∀y,tv=some y->gf S w Kn φ y (ρ x))
  (h:cN call .mv [tv] H nxt=some (v,u,aA,n')):dF P o ρ S K w0 w Kn φ (aB H) nxt n' v u:=by
 cases tv with
 |none=>simp[cN]at h
 |some y=>
  obtain⟨rfl,rfl,rfl,rfl⟩:y=v/\[]=u/\[]=aA/\nxt=n':=by simpa[cN]using h
  refine dF.pure hI ?_ (hx _ rfl);rcases ho with ho|ho<;>simp[execOp,ho]
theorem NO{c x y:Operand}(ho:o.op=.pick c x y)(hI:Inv S K w0 Kn φ (aB H) w){tc tx ty:Option TV}(hc:∀z,tc=some z->gf S w Kn φ z (ρ c))
  (hx:∀z,tx=some z->gf S w Kn φ z (ρ x)) (hy:∀z,ty=some z->gf S w Kn φ z (ρ y))
  (h:cN call .pick [tc,tx,ty] H nxt=some (v,u,aA,n')):dF P o ρ S K w0 w Kn φ (aB H) nxt n' v u:=by
 match tc,h,hc with
 |some (.c (.d (.lit (.bool b)))),h,hc=>
  change (match(if b then tx else ty)with|some v=>some (v,[],[],nxt)|none=>none)=_ at h;obtain⟨hb,_⟩:=(hc _ rfl).lit;cases b
  .simp only[aS,if_false]at h;cases ty with
   |none=>simp at h
   |some z=>
    obtain⟨rfl,rfl,rfl,rfl⟩:z=v/\[]=u/\[]=aA/\nxt=n':=by simpa using h
    exact dF.pure hI (by simp[execOp,ho,hb,asBool]) (hy _ rfl)
  .simp only[if_true]at h;cases tx with
   |none=>simp at h
   |some z=>
    obtain⟨rfl,rfl,rfl,rfl⟩:z=v/\[]=u/\[]=aA/\nxt=n':=by simpa using h
    exact dF.pure hI (by simp[execOp,ho,hb,asBool]) (hx _ rfl)
theorem Dk{x:Operand}(ho:o.op=.nilCheck x)(hI:Inv S K w0 Kn φ (aB H) w){tv:Option TV}(hx:∀y,tv=some y->gf S w Kn φ y (ρ x))
  (h:cN call .nilCheck [tv] H nxt=some (v,u,aA,n')):dF P o ρ S K w0 w Kn φ (aB H) nxt n' v u:=by
 match tv,h,hx with
 |some (.c c),h,hx=>
  have key:(∃a,ρ x=.pointer (some a))\/(∃g vs,ρ x=.func (.func g) #[] vs)->some (TV.c c,([]:fx),([]:List Nat),nxt)=some (v,u,aA,n')->dF P o ρ S K w0 w Kn φ (aB H) nxt n' v u:=by
   intro hc h;obtain⟨rfl,rfl,rfl,rfl⟩:TV.c c=v/\[]=u/\[]=aA/\nxt=n':=by simpa using h
   refine dF.pure hI ?_ (hx _ rfl);rcases hc with⟨a,hc⟩|⟨g,vs,hc⟩<;>simp[execOp,ho,hc]
  have hr:=hx _ rfl;generalize hv0:ρ x=val at hr;cases hr with
  |c hr=>
   cases hr with
   |d hd=>cases hd with|lit hp=>simp[cN]at h|sl=>simp[cN]at h|tg=>simp[cN]at h|pt f hb=>exact key (.inl ⟨_,hv0⟩) h|fn hl hr=>exact key (.inr ⟨_,_,hv0⟩) h
   |fh=>simp[cN]at h
   |ep hk=>exact key (.inl ⟨_,hv0⟩) h
   |op hk=>exact key (.inl ⟨_,hv0⟩) h
   |oN hl hr=>exact key (.inr ⟨_,_,hv0⟩) h
   |om hk=>simp[cN]at h
theorem RN{t:TypeId}{op:UnOp}{x:Operand}(ho:o.op=.unOp op t x)(hI:Inv S K w0 Kn φ (aB H) w){tv:Option TV}(hx:∀y,tv=some y->gf S w Kn φ y (ρ x))
  (h:cN call (.un op) [tv] H nxt=some (v,u,aA,n')):dF P o ρ S K w0 w Kn φ (aB H) nxt n' v u:=by
 match tv,h,hx with
 |some (.c (.d (.lit z))),h,hx=>
  change (match Sz op z with|some v=>some (lv v,[],[],nxt)|none=>none)=_ at h;split at h
  .rename_i r hr;obtain⟨rfl,rfl,rfl,rfl⟩:lv r=v/\[]=u/\[]=aA/\nxt=n':=by simpa using h
   obtain⟨hb,_⟩:=(hx _ rfl).lit;obtain⟨h1,h2⟩:=Nt (P:=P) (w:=w) hr;exact dF.pure hI (by simp[execOp,ho,hb,h1]) (.oA h2)
  .simp at h
theorem P8{t ty:TypeId}{op:BinOp}{x y:Operand}(ho:o.op=.binOp op t x y ty)(hI:Inv S K w0 Kn φ (aB H) w){tx tz:Option TV}(hx:∀z,tx=some z->gf S w Kn φ z (ρ x))
  (hy:∀z,tz=some z->gf S w Kn φ z (ρ y)) (h:cN call (.Ad op) [tx,tz] H nxt=some (v,u,aA,n')):dF P o ρ S K w0 w Kn φ (aB H) nxt n' v u:=by
 match tx,tz,h,hx,hy with
 |some (.c (.d (.lit a))),some (.c (.d (.lit b))),h,hx,hy=>
  change (match rZ op a b with|some v=>some (lv v,[],[],nxt)|none=>none)=_ at h;split at h
  .rename_i r hr;obtain⟨rfl,rfl,rfl,rfl⟩:lv r=v/\[]=u/\[]=aA/\nxt=n':=by simpa using h
   obtain⟨ha,_⟩:=(hx _ rfl).lit;obtain⟨hb,_⟩:=(hy _ rfl).lit;obtain⟨h1,h2,h3⟩:=Kf (P:=P) (w:=w) (t:=t) hr;exact dF.pure hI (by simp[execOp,ho,ha,hb,h1,h3]) (.oA h2)
  .simp at h
theorem yh{t:TypeId}(hu:P.underlying t=some .bool)(a b:Bool):(Op.equal t (.bool a) (.bool b)).run P w=.ok (a==b) w:=by show(Op.equalIn (9999+1) t (.bool a) (.bool b)).run P w=_;unfold Op.equalIn;rw[Sem.run_bind,bY hu];rfl
theorem Iu{t ty:TypeId}{op:BinOp}{x y:Operand}(ho:o.op=.binOp op t x y ty)(hop:op=.eql\/op=.neq)(hu:P.underlying t=some .bool)(hI:Inv S K w0 Kn φ (aB H) w)
  {tx tz:Option TV} (hx:∀z,tx=some z->gf S w Kn φ z (ρ x)) (hy:∀z,tz=some z->gf S w Kn φ z (ρ y))
  (h:cN call (.uG (op==.neq)) [tx,tz] H nxt=some (v,u,aA,n')):dF P o ρ S K w0 w Kn φ (aB H) nxt n' v u:=by
 match tx,tz,h,hx,hy with
 |some (.c (.d (.lit (.bool a)))),some (.c (.d (.lit (.bool b)))),h,hx,hy=>
  obtain⟨ha,_⟩:=(hx _ rfl).lit;obtain⟨hb,_⟩:=(hy _ rfl).lit;change some (lv (.bool (if(op==.neq)then !(a==b)else a==b)),([]:fx),([]:List Nat),nxt)=_ at h;obtain⟨rfl,rfl,rfl,rfl⟩:lv (.bool (if(op==.neq)then !(a==b)else a==b))=v/\[]=u/\[]=aA/\nxt=n':=by simpa using h
  refine dF.pure hI ?_ (.oA rfl);rcases hop with rfl|rfl
  .simp [execOp,ho,ha,hb,eqGuard,binOp,yh hu]
  .simp [execOp,ho,ha,hb,eqGuard,binOp,yh hu]
theorem FB{s d:TypeId}{k k':IntKind}{x:Operand}(ho:o.op=.convert s d x)(hs:P.underlying s=some (.int k'))(hd:P.underlying d=some (.int k))(hI:Inv S K w0 Kn φ (aB H) w)
  {tv:Option TV} (hx:∀y,tv=some y->gf S w Kn φ y (ρ x)) (h:cN call (.vw k) [tv] H nxt=some (v,u,aA,n')):dF P o ρ S K w0 w Kn φ (aB H) nxt n' v u:=by
 match tv,h,hx with
 |some (.c (.d (.lit (.int k0 n)))),h,hx=>
  obtain⟨ha,_⟩:=(hx _ rfl).lit;obtain⟨rfl,rfl,rfl,rfl⟩:lv (.int k (k.wrap n))=v/\[]=u/\[]=aA/\nxt=n':=by simpa[cN]using h
  exact dF.pure hI (by simp[execOp,ho,ha,convert,bY hs,bY hd,Conv.intToInt]) (.oA rfl)
theorem Dp{s d:TypeId}{x:Operand}(ho:o.op=.convert s d x)(hs:P.underlying s=some .string)(hd:P.underlying d=some .string)(hI:Inv S K w0 Kn φ (aB H) w)
  {tv:Option TV} (hx:∀y,tv=some y->gf S w Kn φ y (ρ x)) (h:cN call .sP [tv] H nxt=some (v,u,aA,n')):dF P o ρ S K w0 w Kn φ (aB H) nxt n' v u:=by
 match tv,h,hx with
 |some (.c (.d (.lit (.string s0)))),h,hx=>
  obtain⟨ha,_⟩:=(hx _ rfl).lit;obtain⟨rfl,rfl,rfl,rfl⟩:lv (.string s0)=v/\[]=u/\[]=aA/\nxt=n':=by simpa[cN]using h
  exact dF.pure hI (by simp[execOp,ho,ha,convert,bY hs,bY hd]) (.oA rfl)
theorem FA{x:Operand}{i:Nat}(ho:o.op=.extract x i)(hI:Inv S K w0 Kn φ (aB H) w){tv:Option TV}(hx:∀y,tv=some y->gf S w Kn φ y (ρ x))
  (h:cN call (.extract i) [tv] H nxt=some (v,u,aA,n')):dF P o ρ S K w0 w Kn φ (aB H) nxt n' v u:=by
 match tv,h,hx with
 |some (.iN xs),h,hx=>
  change (match xs[i]?with|some v=>some (v,[],[],nxt)|none=>none)=_ at h;split at h
  .rename_i y hy;obtain⟨rfl,rfl,rfl,rfl⟩:y=v/\[]=u/\[]=aA/\nxt=n':=by simpa using h
   have hr:=hx _ rfl;generalize hv0:ρ x=val at hr;cases hr with
   |@iN _ aL hlen hr=>
    have hlt:i<aL.size:=by rw[<-hlen];exact(ak.1 hy).1
    refine dF.pure (val:=aL.getD i undef) hI ?_ (hr i y hy);simp[execOp,ho,hv0,Instr.extract,hlt]
  .simp at h
theorem BH{s:TypeId}{f n:Nat}{fields:Array Field}{fl:Field}{x:Operand}(ho:o.op=.fieldAddr s x f)(hu:P.underlying s=some (.struct fields))(hf:fields[f]?=some fl)
  (hs:fG P fl.type=some (n+1)) (hI:Inv S K w0 Kn φ (aB H) w) {tv:Option TV} (hx:∀y,tv=some y->gf S w Kn φ y (ρ x))
  (h:cN call (.fieldAddr fl.offset (n+1)) [tv] H nxt=some (v,u,aA,n')):dF P o ρ S K w0 w Kn φ (aB H) nxt n' v u:=by
 match tv,h,hx with
 |some (.c c),h,hx=>
  change (match j_ fl.offset (n+1) c with|some y=>some (TV.c y,[],[],nxt)|none=>none)=_ at h;split at h
  .rename_i y hy;obtain⟨rfl,rfl,rfl,rfl⟩:TV.c y=v/\[]=u/\[]=aA/\nxt=n':=by simpa using h
   have run:∀b off,ρ x=.pointer (some ⟨b,off,none⟩)->(execOp ρ o).run P w=.ok (.value (.pointer (some ⟨b,off+fl.offset,none⟩))) w:=by intro b off hv;simp[execOp,ho,hv,Instr.fieldAt,bY hu,hf,Instr.sureAddr,fieldPlace,gZ hs,pF]
   have hr:=hx _ rfl;generalize hv0:ρ x=val at hr;cases hr with
   |c hr=>
    cases hr with
    |d hd=>
     cases hd with
     |@pt cells b off g hb hcell hrd=>
      simp only[j_]at hy;split at hy
      .obtain rfl:=aa hy;refine dF.pure hI (run _ _ hv0) (.c (.d (.yp hb fun j z hj=>?_)));rw[eG]at hj;split at hj
       .rw [bO]at hj;exact⟨_,by rw[cM];exact hcell _ _ hj,hrd _ _ hj⟩
       .simp at hj
      .simp at hy
     |_=>simp[j_]at hy
    |@op id off hk=>
     obtain rfl:C.op id (off+fl.offset)=y:=by simpa[j_]using hy
     refine dF.pure hI (run _ _ hv0) (.c ?_);rw[cM];exact .op hk
    |@ep id di off hk=>
     obtain rfl:C.ep id di (off+fl.offset)=y:=by simpa[j_]using hy
     refine dF.pure hI (run _ _ hv0) (.c ?_);rw[cM];exact .ep hk
    |_=>simp[j_]at hy
  .simp at h
theorem KB{str:Bool}{t:TypeId}{x:Operand}{c:Go.Call}(ho:o.op=.call c)(hcal:c.callee=.builtin .len)(hargs:c.args= #[x])(hts:c.argTypes= #[t])
  (hu:if str then P.underlying t=some .string else∃b,P.underlying t=some (.slice b)) (hI:Inv S K w0 Kn φ (aB H) w) {tv:Option TV} (hx:∀y,tv=some y->gf S w Kn φ y (ρ x))
  (h:cN call (.len str) [tv] H nxt=some (v,u,aA,n')):dF P o ρ S K w0 w Kn φ (aB H) nxt n' v u:=by
 match tv,h,hx with
 |some (.c y),h,hx=>
  change (match ud str y with|some n=>some (lv (.int .i64 n),[],[],nxt)|none=>none)=_ at h;split at h
  .rename_i n hn;obtain⟨rfl,rfl,rfl,rfl⟩:lv (.int .i64 n)=v/\[]=u/\[]=aA/\nxt=n':=by simpa using h
   refine dF.pure hI ?_ (.oA rfl);have hr:=hx _ rfl;generalize hv0:ρ x=val at hr;cases str with
   |true=>
    simp only[if_true]at hu
    match y,hn,hr with
    |.d (.lit (.string s)),hn,hr=>
     obtain⟨rfl,_⟩:=hr.lit;obtain rfl:(s.size:Int)=n:=by simpa[ud]using hn
     simp[execOp,ho,hcal,hargs,hts,resolve,invoke,builtin,hv0,Builtin.len_,bY hu,goInt]
   |false=>
    simp only[aS,if_false]at hu;obtain⟨b,hu⟩:=hu;have hsl:∀a l k,val=.slice a l k->n=(l:Int)->(execOp ρ o).run P w=.ok (.value (.int .i64 n)) w:=by intro a l k e1 e2;simp[execOp,ho,hcal,hargs,hts,resolve,invoke,builtin,hv0,e1,e2,Builtin.len_,bY hu,goInt]
    match y,hn,hr with
    |.d (.lit (.slice none 0 0)),hn,hr=>obtain⟨rfl,_⟩:=hr.lit;exact hsl _ _ _ rfl (by simpa[ud]using hn.symm)
    |.d (.sl sz ao),hn,hr=>
     cases hr with
     |c hr=>cases hr with
      |d hd=>cases hd with|sl=>exact hsl _ _ _ rfl (by simpa[ud]using hn.symm)|tg=>exact hsl _ _ _ rfl (by simpa[ud]using hn.symm)
    |.fh sz id off len,hn,hr=>
     cases hr with
     |c hr=>cases hr with|fh=>exact hsl _ _ _ rfl (by simpa[ud]using hn.symm)
  .simp at h
theorem re{op:BinOp}(hop:op=.eql\/op=.neq){t:TypeId}{x y:Value}{b:Bool}(a c:Operand)
  (h1:binOp .eql t x y=(do pure (.bool (<-Op.equal t x y)))) (h2:binOp .neq t x y=(do pure (.bool (!(<-Op.equal t x y)))))
  (hg:(eqGuard op t a c x y).run P w=.ok () w) (he:(Op.equal t x y).run P w=.ok b w):
  ((do eqGuard op t a c x y;binOp op t x y):Sem Value).run P w=.ok (.bool (if op==.neq then !b else b)) w:=by
 rcases hop with rfl|rfl
 .rw [Sem.run_bind,hg,Result.andThen_ok,h1,Sem.run_bind,he];rfl
 .rw [Sem.run_bind,hg,Result.andThen_ok,h2,Sem.run_bind,he];rfl
theorem qH{op:BinOp}{t:TypeId}(a c:Operand){x y:Value}(h:match x,y with|.nilIface,.nilIface=>False|.agg _,.agg _=>False|_,_=>True):
  (eqGuard op t a c x y).run P w=.ok () w:=by
 unfold eqGuard;cases op<;>simp<;>(cases x<;>cases y<;>simp_all)
theorem qK(t:TypeId)(x y:Value):Op.equal t x y=Op.equalIn (9999+1) t x y:=rfl
def KN(P:Program)(t:TypeId):Nat->Prop
 |0=>∃x,P.underlying t=some (.slice x)
 |1=>∃x,P.underlying t=some (.pointer x)
 |2=>∃a b c,P.underlying t=some (.func a b c)
 |_=>False
theorem H5{op:BinOp}(hop:op=.eql\/op=.neq){kind:Nat}{t:TypeId}{y:C}{val:Value}{b:Bool}(a c:Operand)(hu:KN P t kind)
  (hr:gf S w Kn φ (.c y) val) (hn:p6 kind y=some b):
  ((do eqGuard op t a c val (nY kind);binOp op t val (nY kind)):Sem Value).run P w=.ok (.bool (if op==.neq then !b else b)) w/\
  ((do eqGuard op t a c (nY kind) val;binOp op t (nY kind) val):Sem Value).run P w=.ok (.bool (if op==.neq then !b else b)) w:=by
 have hsl:(∃x,P.underlying t=some (.slice x))->∀q l k,kind=0->val=.slice q l k->b=q.isNone->
   ((do eqGuard op t a c val (nY kind);binOp op t val (nY kind)):Sem Value).run P w=.ok (.bool (if op==.neq then !b else b)) w/\
   ((do eqGuard op t a c (nY kind) val;binOp op t (nY kind) val):Sem Value).run P w=.ok (.bool (if op==.neq then !b else b)) w:=by
  rintro⟨x,hu'⟩ q l k rfl rfl rfl;refine⟨re hop a c rfl rfl (qH a c trivial) ?_,re hop a c rfl rfl (qH a c trivial) ?_⟩
  all_goals
   rw[qK];unfold Op.equalIn;rw[Sem.run_bind,bY hu'];cases q<;>rfl
 have hpt:(∃x,P.underlying t=some (.pointer x))->∀q,kind=1->val=.pointer q->b=q.isNone->
   ((do eqGuard op t a c val (nY kind);binOp op t val (nY kind)):Sem Value).run P w=.ok (.bool (if op==.neq then !b else b)) w/\
   ((do eqGuard op t a c (nY kind) val;binOp op t (nY kind) val):Sem Value).run P w=.ok (.bool (if op==.neq then !b else b)) w:=by
  rintro⟨x,hu'⟩ q rfl rfl rfl;refine⟨re hop a c ?_ ?_ (qH a c trivial) ?_,re hop a c ?_ ?_ (qH a c trivial) ?_⟩
  .cases q<;>rfl
  .cases q<;>rfl
  .rw [qK];unfold Op.equalIn;rw[Sem.run_bind,bY hu'];cases q<;>rfl
  .cases q<;>rfl
  .cases q<;>rfl
  .rw [qK];unfold Op.equalIn;rw[Sem.run_bind,bY hu'];cases q<;>rfl
 have hfn:(∃x y z,P.underlying t=some (.func x y z))->kind=2->((val=.nilFunc/\b=true)\/((∃f p q,val=.func f p q)/\b=false))->
   ((do eqGuard op t a c val (nY kind);binOp op t val (nY kind)):Sem Value).run P w=.ok (.bool (if op==.neq then !b else b)) w/\
   ((do eqGuard op t a c (nY kind) val;binOp op t (nY kind) val):Sem Value).run P w=.ok (.bool (if op==.neq then !b else b)) w:=by
  rintro⟨x,y,z,hu'⟩ rfl (⟨rfl,rfl⟩|⟨⟨f,p,q,rfl⟩,rfl⟩)
  all_goals
   refine⟨re hop a c rfl rfl (qH a c trivial) ?_,re hop a c rfl rfl (qH a c trivial) ?_⟩
   all_goals
    rw[qK];unfold Op.equalIn;rw[Sem.run_bind,bY hu'];rfl
 cases hr with
 |c hr=>
  match kind,y,hn,hr,hu with
  |0,.d (.lit (.slice none 0 0)),hn,hr,hu=>cases hr with|d hd=>cases hd with|lit hp=>exact hsl hu _ _ _ rfl rfl (by simpa[p6]using hn.symm)
  |0,.d (.sl _ _),hn,hr,hu=>cases hr with|d hd=>cases hd with|sl=>exact hsl hu _ _ _ rfl rfl (by simpa[p6]using hn.symm)|tg=>exact hsl hu _ _ _ rfl rfl (by simpa[p6]using hn.symm)
  |0,.fh _ _ _ _,hn,hr,hu=>cases hr with|fh=>exact hsl hu _ _ _ rfl rfl (by simpa[p6]using hn.symm)
  |1,.d (.lit (.pointer none)),hn,hr,hu=>cases hr with|d hd=>cases hd with|lit hp=>exact hpt hu _ rfl rfl (by simpa[p6]using hn.symm)
  |1,.d (.pt _),hn,hr,hu=>cases hr with|d hd=>cases hd with|pt=>exact hpt hu _ rfl rfl (by simpa[p6]using hn.symm)
  |1,.ep _ _ _,hn,hr,hu=>cases hr with|ep=>exact hpt hu _ rfl rfl (by simpa[p6]using hn.symm)
  |1,.op _ _,hn,hr,hu=>cases hr with|op=>exact hpt hu _ rfl rfl (by simpa[p6]using hn.symm)
  |2,.d (.lit .nilFunc),hn,hr,hu=>cases hr with|d hd=>cases hd with|lit hp=>exact hfn hu rfl (.inl ⟨rfl,by simpa[p6]using hn.symm⟩)
  |2,.d (.fn _ _),hn,hr,hu=>cases hr with|d hd=>cases hd with|fn=>exact hfn hu rfl (.inr ⟨⟨_,_,_,rfl⟩,by simpa[p6]using hn.symm⟩)
  |2,.oN _ _,hn,hr,hu=>cases hr with|oN=>exact hfn hu rfl (.inr ⟨⟨_,_,_,rfl⟩,by simpa[p6]using hn.symm⟩)
theorem wW{kind:Nat}{x:Operand}(h:we kind x=true):x=.const (nY kind):=by unfold we at h;split at h<;>first|rfl|simp at h
theorem Dn{t ty:TypeId}{op:BinOp}{x y z:Operand}{kind:Nat}(ho:o.op=.binOp op t x y ty)(hop:op=.eql\/op=.neq)(hu:KN P t kind)(hI:Inv S K w0 Kn φ (aB H) w)
  (hc:∀v,ρ (.const v)=v) (hz:(z=x/\we kind y=true)\/(z=y/\we kind x=true)) {tv:Option TV} (hx:∀y,tv=some y->gf S w Kn φ y (ρ z))
  (h:cN call (.qL kind (op==.neq)) [tv] H nxt=some (v,u,aA,n')):dF P o ρ S K w0 w Kn φ (aB H) nxt n' v u:=by
 match tv,h,hx with
 |some (.c c),h,hx=>
  change (match p6 kind c with|some b=>some (lv (.bool (if(op==BinOp.neq)then !b else b)),([]:fx),([]:List Nat),nxt)|none=>none)=_ at h;split at h
  .rename_i b hb;obtain⟨rfl,rfl,rfl,rfl⟩:lv (.bool (if(op==BinOp.neq)then !b else b))=v/\[]=u/\[]=aA/\nxt=n':=by simpa using h
   refine dF.pure hI ?_ (.oA rfl);obtain⟨h1,h2⟩:=H5 (P:=P) hop x y hu (hx _ rfl) hb;rcases hz with⟨rfl,hn⟩|⟨rfl,hn⟩
   .have e:=wW hn;simp only[execOp,ho,Sem.run_bind];rw[Sem.run_bind]at h1;rw[e]at h1|-;rw[hc,h1];rfl
   .have e:=wW hn;simp only[execOp,ho,Sem.run_bind];rw[Sem.run_bind]at h2;rw[e]at h2|-;rw[hc,h2];rfl
  .simp at h
end
section
variable{P:Program}{S K:Nat->Prop}{w0 w:World}{Kn:Nat->Prop}{φ:Nat->gF}{H:bF}{e:jJ}{ρ:Operand->Value}{o:Oper}{call:Call}
 {nxt n':Nat} {v:TV} {u:fx} {aA:List Nat}
theorem w7{α:Type}:∀{l:List (Option α)}{xs:List α},eF l=some xs->l=xs.map some:=by
 intro l;induction l with
 |nil=>
  intro xs h;obtain rfl:[]=xs:=by simpa[eF]using h
  rfl
 |cons a l ih=>
  intro xs h;cases a with
  |none=>simp[eF]at h
  |some x=>
   simp only[eF]at h;split at h
   .rename_i ys hy;obtain rfl:=aa h;simp[ih hy]
   .simp at h
theorem vz{args:List Operand}{xs:List TV}(hρ:∀x tv,kM e x=some tv->gf S w Kn φ tv (ρ x))(h:eF (args.map (kM e))=some xs):
  xs.length=args.length/\∀(i:Nat)(x:Operand)(tv:TV),args[i]?=some x->xs[i]?=some tv->gf S w Kn φ tv (ρ x):=by
 have h1:=w7 h;have hl:xs.length=args.length:=by have:=congrArg mC h1;simpa using this.symm
 refine⟨hl,fun i x tv hx htv=>hρ x tv ?_⟩;have h2:=congrArg (fun l=>l[i]?) h1;simp only[aG,hx,htv,bL]at h2;exact aa h2
theorem NP{f:FuncId}{first captured:Array Operand}(ho:o.op=.makeFunc (.func f) first captured)(hf:first.isEmpty=true)(hI:Inv S K w0 Kn φ (aB H) w)
  (hρ:∀x tv,kM e x=some tv->gf S w Kn φ tv (ρ x)) (h:cN call (.IF f) (captured.toList.map (kM e)) H nxt=some (v,u,aA,n')):dF P o ρ S K w0 w Kn φ (aB H) nxt n' v u:=by
 change (match eF (captured.toList.map (kM e))with
  |some xs=>(match eF (xs.map fun(x:TV)=>match x with|.c c=>some c|_=>none)with|some cs=>some (TV.c (.oN f cs),([]:fx),([]:List Nat),nxt)|none=>none)
  |none=>none)=_ at h
 split at h
 .rename_i xs hxs;split at h
  .rename_i cs hcs;obtain⟨rfl,rfl,rfl,rfl⟩:TV.c (.oN f cs)=v/\[]=u/\[]=aA/\nxt=n':=by simpa using h
   obtain⟨hl,hr⟩:=vz hρ hxs;have h2:=w7 hcs;have hl2:cs.length=xs.length:=by have:=congrArg mC h2;simpa using this.symm
   have hf':first= #[]:=by simpa using hf
   refine dF.pure (val:=.func (.func f) #[] (captured.map ρ)) hI (by simp[execOp,ho,Instr.makeFunc,hf']) (.c (.oN (by simp[hl2,hl]) fun j c hj=>?_));have hj':j<xs.length:=by rw[<-hl2];exact(ak.1 hj).1
   have h3:=congrArg (fun l=>l[j]?) h2;simp only[aG,hj,bL,av hj']at h3;have h4:=aa h3;have hcap:j<captured.size:=by rw[hl]at hj';simpa using hj'
   have hx:=hr j captured[j] xs[j] (by simp[hcap]) (av hj');have e1:(captured.map ρ).getD j undef=ρ captured[j]:=by simp[hcap]
   rw[e1];cases hy:xs[j]with
   |c y=>
    rw[hy]at h4 hx;obtain rfl:y=c:=by simpa using h4
    cases hx with|c hx=>exact hx
   |_=>rw[hy]at h4;simp at h4
  .simp at h
 .simp at h
theorem uh{n:Int}(h0:0<=n)(h1:n<=2147483648):IntKind.i64.wrap n=n:=by unfold IntKind.wrap IntKind.bits IntKind.signed;simp only[Bool.true_and,decide_eq_true_eq];have:n %(2^64:Int)=n:=Int.emod_eq_of_lt h0 (by omega);rw[this];split<;>omega
theorem vV{v:Value}{k:IntKind}{n:Int}(h:v=.int k n):(asInt v).run P w=.ok n w:=by subst h;simp[asInt,asIntOf]
theorem nU{v:Value}{k:IntKind}{n:Int}(h:v=.int k n):(asIntOf v).run P w=.ok (k,n) w:=by subst h;simp[asIntOf]
theorem ji{tv:Option TV}{val:Value}{n:Int}(h:cA tv=some n)(hr:∀y,tv=some y->gf S w Kn φ y val):∃k,val=.int k n:=by
 unfold cA at h;split at h
 .obtain rfl:=aa h;obtain⟨hv,_⟩:=(hr _ rfl).lit;exact⟨_,hv⟩
 .simp at h
theorem jS{v:Value}{k:IntKind}{n:Int}{y:Nat}{code:BoundsCode}(h:v=.int k n)(h0:0<=n)(h1:n<=y):(Instr.sliceBound v y code).run P w=.ok n.toNat w:=by simp only[Instr.sliceBound,Sem.run_bind,nU h,Result.andThen_ok,h0,h1,and_self,if_true,Sem.run_pure]
theorem rf{DP:Bool}{len cap:Nat}{lo hi:Option Value}{l h:Option Int}(hlo':lo.isSome=l.isSome)(hl1:∀x,lo=some x->∃k n,x=.int k n/\l=some n)
  (hhi':hi.isSome=h.isSome) (hhi:∀x,hi=some x->∃k n,x=.int k n/\h=some n)
  (h0:0<=l.getD 0) (h1:l.getD 0<=h.getD len) (h2:h.getD len<=cap):
  (Instr.sliceBounds DP len cap lo hi none).run P w=.ok ((l.getD 0).toNat,(h.getD len).toNat,cap) w:=by
 unfold Instr.sliceBounds;cases hi with
 |none=>
  cases h with
  |some _=>simp at hhi'
  |none=>
   cases lo with
   |none=>cases l with|some _=>simp at hlo'|none=>simp
   |some x=>obtain⟨k,n,rfl,rfl⟩:=hl1 x rfl;simp only[fC,Option.getD_none]at h0 h1;have:=jS (P:=P) (w:=w) (v:=.int k n) (y:=len) (code:=.sliceB) rfl h0 h1;simp[this]
 |some y=>
  obtain⟨k,n,rfl,rfl⟩:=hhi y rfl;simp only[fC]at h1 h2;have hb:=jS (P:=P) (w:=w) (v:=.int k n) (y:=cap) (code:=if DP then .sliceAcap else .sliceAlen) rfl (by omega) h2;cases lo with
  |none=>cases l with|some _=>simp at hlo'|none=>simp[hb]
  |some x=>obtain⟨k',n',rfl,rfl⟩:=hl1 x rfl;simp only[fC]at h0 h1;have:=jS (P:=P) (w:=w) (v:=.int k' n') (y:=n.toNat) (code:=.sliceB) rfl h0 (by omega);simp[hb,this]
theorem CS{str:Bool}{sz:Nat}{t:TypeId}{x y:C}{val:Value}{lo hi:Option Value}{l h:Option Int}
  (hu:if str then P.underlying t=some .string else∃el,P.underlying t=some (.slice el)/\fG P el=some sz) (hr:RC S w Kn φ x val)
  (hlo':lo.isSome=l.isSome) (hl1:∀x,lo=some x->∃k n,x=.int k n/\l=some n) (hhi':hi.isSome=h.isSome) (hhi:∀x,hi=some x->∃k n,x=.int k n/\h=some n)
  (hs:fL str sz x l h=some y):∃val',(Instr.sliceAt t val lo hi none).run P w=.ok val' w/\RC S w Kn φ y val':=by
 unfold fL at hs;cases str with
 |true=>
  simp only[if_true]at hs hu;split at hs
  .rename_i s;split at hs
   .rename_i hb;obtain⟨hb1,hb2,hb3⟩:=hb;obtain rfl:=aa hs;cases hr with
    |d hd=>cases hd with|lit hp=>have:=rf (P:=P) (w:=w) (DP:=false) (len:=s.size) (cap:=s.size) hlo' hl1 hhi' hhi hb1 hb2 hb3;exact⟨.string (s.extract (l.getD 0).toNat (h.getD s.size).toNat),by simp[Instr.sliceAt,Instr.slice,bY hu,this],.d (.lit rfl)⟩
   .simp at hs
  .simp at hs
 |false=>
  simp only[aS,if_false]at hs hu;obtain⟨el,hu,hsz⟩:=hu
  have run:∀(a:Addr)(len cap:Nat),val=.slice (some a) len cap->0<=l.getD 0->l.getD 0<=h.getD len->h.getD len<=cap->(cap≠(l.getD 0).toNat->a.spot=none)->
    (Instr.sliceAt t val lo hi none).run P w=.ok (.slice (some (if cap=(l.getD 0).toNat then a else⟨a.block,a.off+(l.getD 0).toNat*sz,none⟩))
     ((h.getD len).toNat-(l.getD 0).toNat) (cap-(l.getD 0).toNat)) w:=by
   intro a len cap hv h0 h1 h2 hsp;have hb:=rf (P:=P) (w:=w) (DP:=true) (len:=len) (cap:=cap) hlo' hl1 hhi' hhi h0 h1 h2;simp only[Instr.sliceAt,Instr.slice,Sem.run_bind,bY hu,Result.andThen_ok,hv,hb,gZ hsz,Sem.run_pure];congr 2;split
   .rfl
   .rename_i hne;obtain⟨b,off,spot⟩:=a;obtain rfl:spot=none:=hsp hne;simp[pF]
  split at hs
  .split at hs
   .rename_i hb;obtain⟨hb1,hb2,hb3⟩:=hb;obtain rfl:=aa hs;cases hr with
    |d hd=>cases hd with
     |lit hp=>
      have e1:l.getD 0=0:=by omega
      have e2:h.getD 0=0:=by omega
      have hb:=rf (P:=P) (w:=w) (DP:=true) (len:=0) (cap:=0) hlo' hl1 hhi' hhi hb1 (by simpa using hb2) (by simpa using hb3);refine⟨.slice none 0 0,?_,.d (.lit rfl)⟩;have e3:h.getD (((0:Nat):Int))=0:=e2;rw[e1,e3]at hb;simp only[Instr.sliceAt,Instr.slice,Sem.run_bind,bY hu,Result.andThen_ok,hb,gZ hsz,Sem.run_pure];rfl
   .simp at hs
  .rename_i sz' id off len;split at hs
   .rename_i hb;obtain⟨hb0,hb1,hb2,hb3⟩:=hb;obtain rfl:=aa hs;cases hr with
    |@fh _ _ _ cap addr hk hcap haddr hext hcl=>
     subst hb0;refine⟨_,run _ len cap rfl hb1 hb2 (by omega) (fun _=>rfl),?_⟩;have hle:(l.getD 0).toNat<=cap:=by omega
     by_cases e:cap=(l.getD 0).toNat
     .rw [if_pos e];exact .fh hk (by omega) (fun h=>by omega) (by rw[<-e,Nat.sub_self];omega) (by omega)
     .rw [if_neg e];have ha:=haddr (by omega);refine .fh hk (by omega) (fun _=>?_) ?_ (by omega)
      .show addr+_=_;rw[ha,bN];omega
      .have:(l.getD 0).toNat*(φ id).sz+(cap-(l.getD 0).toNat)*(φ id).sz=cap*(φ id).sz:=by rw[<-bN];congr 1;omega
       show addr+_+_<=_;omega
   .simp at hs
  .rename_i sz' ao;split at hs
   .rename_i hb;obtain⟨hb0,hb1,hb2,hb3⟩:=hb;obtain rfl:=aa hs;cases hr with
    |d hd=>
     cases hd with
     |@sl _ _ b off cap g hb hsz0 hcap hrow hcell hrd=>
      subst hb0;refine⟨_,run _ ao.length cap rfl hb1 hb2 (by omega) (fun _=>rfl),?_⟩;have hR:cS S w sz' (fun i=>w.cell? ⟨b,i,none⟩) off ao:=⟨hrow,fun i r hi j x hj=>⟨_,hcell i r hi j x hj,hrd i r hi j x hj⟩⟩
      have hlen:((ao.drop (l.getD 0).toNat).take ((h.getD ao.length).toNat-(l.getD 0).toNat)).length=(h.getD ao.length).toNat-(l.getD 0).toNat:=by simp;omega
      by_cases e:cap=(l.getD 0).toNat
      .rw [if_pos e];exact .d (.As hb hsz0 hlen (by omega) (hR.xd _ _ fun h=>by omega))
      .rw [if_neg e];exact .d (.As hb hsz0 hlen (by omega) (hR.xd _ _ fun _=>rfl))
     |@tg _ a hsz0=>
      subst hb0;simp only[kx]at hb1 hb2 hb3;have e1:l.getD 0=0:=by have h2:l.getD 0<=h.getD 0:=hb2;have h3:h.getD 0<=0:=hb3;omega
      refine⟨_,run _ 0 0 rfl hb1 hb2 (by simpa using hb3) (fun hne=>absurd (by rw[e1];rfl) hne),?_⟩;rw[if_pos (by rw[e1];rfl)];have e2:(([]:List (List D)).drop (l.getD 0).toNat).take ((h.getD ([]:List (List D)).length).toNat-(l.getD 0).toNat)=[]:=by simp
      rw[e2];have e3:(h.getD ((0:Nat):Int)).toNat-(l.getD 0).toNat=0:=by have h3:h.getD 0<=0:=hb3;have h4:h.getD ((0:Nat):Int)=h.getD 0:=rfl;rw[h4];omega
      have e4:(0:Nat)-(l.getD 0).toNat=0:=by omega
      first
       |(rw[e3,e4];exact .d (.tg hsz0))
       |(simp[e1]at hb3|-;exact .d (.tg hsz0))
   .simp at hs
  .simp at hs
theorem yf{str:Bool}{sz:Nat}{t:TypeId}{x y:C}{val:Value}{lo:Option Value}{hi:Value}{k2:IntKind}{l:Option Int}{h:Int}{aA:List Nat}(hI:Inv S K w0 Kn φ (aB H) w)
  (hu:if str then P.underlying t=some .string else∃el,P.underlying t=some (.slice el)/\fG P el=some sz) (hr:RC S w Kn φ x val)
  (hlo':lo.isSome=l.isSome) (hl1:∀x,lo=some x->∃k n,x=.int k n/\l=some n) (hhi:hi=.int k2 h) (hs:nL str sz x (l.getD 0) h H=some (y,aA)):∃val',(Instr.sliceAt t val lo (some hi) none).run P w=.ok val' w/\RC S w Kn φ y val':=by
 unfold nL at hs;split at hs
 case h_2=>simp at hs
 rename_i sz' id off len;simp only[aS,if_false]at hu;obtain⟨el,hu,hsz⟩:=hu
 have key:sz'=sz/\0<=l.getD 0/\l.getD 0<=h/\off+h.toNat<=(φ id).cap/\y=.fh sz id (off+(l.getD 0).toNat) (h.toNat-(l.getD 0).toNat):=by
  split at hs
  .rename_i szo ao hob;split at hs
   case isFalse=>simp at hs
   rename_i hb;obtain⟨hb0,hb1,hb2,hb3⟩:=hb;obtain⟨rfl,_⟩:=ad (aa hs);obtain⟨_,h0⟩:=hI.iL _ _ hob;have hvis:ao.length<=(φ id).cap:=by cases h0 with|aL hsz0 hl hS hK hown hext hfit hrr hvis=>exact hvis
   exact⟨hb0,hb1,hb2,by omega,rfl⟩
  .rename_i szo ao cp hob;split at hs
   case isFalse=>simp at hs
   rename_i hb;obtain⟨hb0,hb1,hb2,hb3⟩:=hb;obtain⟨rfl,_⟩:=ad (aa hs);obtain⟨_,h0⟩:=hI.iL _ _ hob;have hvis:(φ id).cap=cp:=by cases h0 with|cap hsz0 hl hS hK hown hext hfit hrr hvis hc=>exact hc
   exact⟨hb0,hb1,hb2,by omega,rfl⟩
  .simp at hs
 obtain⟨hb0,hb1,hb2,hvis,rfl⟩:=key;cases hr with
 |@fh _ _ _ cap addr hk hcap haddr hext hcl=>
  subst hb0;have hc:h<=cap:=by omega
  have hbd:=rf (P:=P) (w:=w) (DP:=true) (len:=len) (cap:=cap) (lo:=lo) (hi:=some hi) (l:=l) (h:=some h) hlo' hl1 rfl (fun x hx=>⟨k2,h,by rw[<-aa hx,hhi],rfl⟩) hb1 hb2 hc;simp only[fC]at hbd;generalize l.getD 0=l at*;refine⟨.slice (some (if cap=l.toNat then⟨(φ id).bU,addr,none⟩else⟨(φ id).bU,addr+l.toNat*(φ id).sz,none⟩)) (h.toNat-l.toNat) (cap-l.toNat),?_,?_⟩
  .simp only[Instr.sliceAt,Instr.slice,Sem.run_bind,bY hu,Result.andThen_ok,hbd,gZ hsz,Sem.run_pure];congr 2;split
   .rfl
   .simp [pF]
  .have hle:l.toNat<=cap:=by omega
   by_cases e:cap=l.toNat
   .rw [if_pos e];exact .fh hk (by omega) (fun h=>by omega) (by rw[<-e,Nat.sub_self];omega) (by omega)
   .rw [if_neg e];have ha:=haddr (by omega);refine .fh hk (by omega) (fun _=>?_) ?_ (by omega)
    .rw [ha,bN];omega
    .have:l.toNat*(φ id).sz+(cap-l.toNat)*(φ id).sz=cap*(φ id).sz:=by rw[<-bN];congr 1;omega
     omega
theorem Is{sz:Nat}{t:TypeId}{el:TypeId}{x a b c:Operand}(ho:o.op=.slice t x (some a) (some b) (some c))
  (hu:P.underlying t=some (.slice el)) (hsz:fG P el=some sz) (hI:Inv S K w0 Kn φ (aB H) w) (hn0:nxt<n'->¬Kn nxt)
  (hρ:∀x tv,kM e x=some tv->gf S w Kn φ tv (ρ x))
  (h:cN call (.Bv sz) ([x,a,b,c].map (kM e)) H nxt=some (v,u,aA,n')):dF P o ρ S K w0 w Kn φ (aB H) nxt n' v u:=by
 simp only[aD,aV]at h;cases hx:kM e x with
 |none=>rw[hx]at h;simp[cN]at h
 |some tv=>
  rw[hx]at h;cases tv with
  |agg cs=>simp[cN]at h
  |iN xs=>simp[cN]at h
  |c xc=>
   have hr:=hρ x _ hx;cases hr with
   |c hr=>
   change (match cA (kM e a),cA (kM e b),cA (kM e c)with
    |some l,some u,some m=>(match L3 sz xc l u m nxt with|some y=>some (TV.c y,([]:fx),([]:List Nat),nxt+1)|none=>none)
    |_,_,_=>none)=_ at h
   split at h
   .rename_i l hh m hl hhh hm;obtain⟨k1,e1⟩:=ji hl (hρ a);obtain⟨k2,e2⟩:=ji hhh (hρ b);obtain⟨k3,e3⟩:=ji hm (hρ c);split at h
    .rename_i y hy;obtain⟨rfl,rfl,rfl,rfl⟩:TV.c y=v/\[]=u/\[]=aA/\nxt+1=n':=by simpa using h
     unfold L3 at hy;split at hy
     .rename_i sz' id off len;split at hy
      .rename_i hb;obtain⟨hb0,hb1,hb2,hb3,hb4⟩:=hb;obtain rfl:=aa hy;have hn:=hn0 (aX _);generalize hv0:ρ x=val at hr;cases hr with
       |@fh _ _ _ cap addr hk hcap haddr hext hcl=>
        subst hb0;have s1:=jS (P:=P) (w:=w) (v:=.int k3 m) (y:=cap) (code:=.slice3Acap) rfl (by omega) (by omega);have s2:=jS (P:=P) (w:=w) (v:=.int k2 hh) (y:=m.toNat) (code:=.slice3B) rfl (by omega) (by omega);have s3:=jS (P:=P) (w:=w) (v:=.int k1 l) (y:=hh.toNat) (code:=.slice3C) rfl (by omega) (by omega);have hbd:(Instr.sliceBounds true len cap (some (.int k1 l)) (some (.int k2 hh)) (some (.int k3 m))).run P w=.ok (l.toNat,hh.toNat,m.toNat) w:=by unfold Instr.sliceBounds;simp[s1,s2,s3]
        let loc:gF:=⟨(φ id).bU,if m.toNat=l.toNat then addr else addr+l.toNat*(φ id).sz,(φ id).sz,(φ id).ext,m.toNat-l.toNat⟩
        have hlt:l.toNat*(φ id).sz+(m.toNat-l.toNat)*(φ id).sz<=cap*(φ id).sz:=by rw[<-bN];exact aI _ (by omega)
        refine⟨.value (.slice (some (if m.toNat=l.toNat then⟨(φ id).bU,addr,none⟩else⟨(φ id).bU,addr+l.toNat*(φ id).sz,none⟩)) (hh.toNat-l.toNat) (m.toNat-l.toNat)),_,w,?_,.inl rfl,bH _,S,ext φ nxt loc,gV.refl _ _,⟨fun _ h=>.inl h,(jK _ hn).eh⟩,.c ?_,?_⟩
        .simp only[execOp,ho,bL,hv0,e1,e2,e3,Instr.sliceAt,Instr.slice,Sem.run_bind,bY hu,Result.andThen_ok,hbd,gZ hsz,Sem.run_pure];congr 3;split
         .rfl
         .simp [pF]
        .have e:ext φ nxt loc nxt=loc:=by simp[ext]
         have:=RC.fh (S:=S) (w:=w) (Kn:=o7 Kn nxt (nxt+1)) (φ:=ext φ nxt loc) (id:=nxt) (off:=0) (len:=hh.toNat-l.toNat) (cap:=m.toNat-l.toNat) (addr:=loc.aQ)
          (.inr (by omega)) (by omega) (by rw[e];simp) (by
           rw[e];show(if m.toNat=l.toNat then addr else addr+l.toNat*(φ id).sz)+(m.toNat-l.toNat)*(φ id).sz<=(φ id).ext;split
           .rename_i q;rw[q,Nat.sub_self];omega
           .omega) (by rw[e];exact bK _)
         rw[e]at this;have e4:(if m.toNat=l.toNat then(⟨(φ id).bU,addr,none⟩:Addr)else⟨(φ id).bU,addr+l.toNat*(φ id).sz,none⟩)=⟨(φ id).bU,if m.toNat=l.toNat then addr else addr+l.toNat*(φ id).sz,none⟩:=by split<;>rfl
         rw[e4];exact this
        .have hren:=jK (Kn:=Kn) (φ:=φ) loc hn;have:=hI.kE (gV.refl _ _) hren hI.uO hI.sk hI.ng (hf':=aB H) (fun i o ho=>.inl ⟨ho,fun hown=>⟨rfl,((hI.iL i o ho).2.bq hown).1⟩⟩) (fun i j a b hi hj oa ob hne=>by rw[hren.eh _ (hI.iL i a hi).1,hren.eh _ (hI.iL j b hj).1];exact hI.eJ i j a b hi hj oa ob hne) (hI.C0 hren fun _ _=>rfl);exact this.xh fun j=>pw j
      .simp at hy
     .simp at hy
    .simp at h
   .simp at h
theorem Dj{str:Bool}{sz:Nat}{t:TypeId}{x:Operand}{lo hi:Option Operand}(ho:o.op=.slice t x lo hi none)
  (hu:if str then P.underlying t=some .string else∃el,P.underlying t=some (.slice el)/\fG P el=some sz) (hI:Inv S K w0 Kn φ (aB H) w)
  (hρ:∀x tv,kM e x=some tv->gf S w Kn φ tv (ρ x))
  (h:cN call (.slice str sz lo.isSome hi.isSome) ((x::lo.toList++hi.toList).map (kM e)) H nxt=some (v,u,aA,n')):dF P o ρ S K w0 w Kn φ (aB H) nxt n' v u:=by
 simp only[List.cons_append,aD,List.map_append]at h;cases hx:kM e x with
 |none=>rw[hx]at h;cases lo<;>cases hi<;>simp[cN]at h
 |some tv=>
  rw[hx]at h;cases tv with
  |agg cs=>cases lo<;>cases hi<;>simp[cN]at h
  |iN xs=>cases lo<;>cases hi<;>simp[cN]at h
  |c c=>
   have hr:=hρ x _ hx;cases hr with
   |c hr=>
   have fin:∀l h',lo.isSome=l.isSome->(∀y,lo=some y->cA (kM e y)=l)->hi.isSome=h'.isSome->(∀y,hi=some y->cA (kM e y)=h')->
     (match fL str sz c l h' with|some y=>some (TV.c y,([]:fx),([]:List Nat),nxt)|none=>none)=some (v,u,aA,n')->dF P o ρ S K w0 w Kn φ (aB H) nxt n' v u:=by
    intro l h' e1 e2 e3 e4 hm;split at hm
    .rename_i y hy;obtain⟨rfl,rfl,rfl,rfl⟩:TV.c y=v/\[]=u/\[]=aA/\nxt=n':=by simpa using hm
     have conv:∀(q:Option Operand)(l:Option Int),q.isSome=l.isSome->(∀y,q=some y->cA (kM e y)=l)->∀x,q.map ρ=some x->∃k n,x=.int k n/\l=some n:=by
      intro q l e1 e2 x hq;cases q with
      |none=>simp at hq
      |some y=>
       obtain rfl:ρ y=x:=by simpa using hq
       cases l with|none=>simp at e1|some n=>obtain⟨k,hk⟩:=ji (e2 y rfl) (hρ y);exact⟨k,n,hk,rfl⟩
     obtain⟨val',h1,h2⟩:=CS (P:=P) (lo:=lo.map ρ) (hi:=hi.map ρ) hu hr (by simpa using e1) (conv lo l e1 e2) (by simpa using e3) (conv hi h' e3 e4) hy;exact dF.pure hI (by simp[execOp,ho,h1]) (.c h2)
    .simp at hm
   cases lo with
   |none=>
    cases hi with
    |none=>exact fin none none rfl (fun y hy=>by simp at hy) rfl (fun y hy=>by simp at hy) h
    |some z=>
     change (match cA (kM e z)with|some u=>(match fL str sz c none (some u)with|some y=>some (TV.c y,([]:fx),([]:List Nat),nxt)|none=>(match nL str sz c 0 u H with|some (y,aA)=>some (TV.c y,([]:fx),aA,nxt)|none=>none))|none=>none)=_ at h;split at h
     .rename_i n hn;split at h
      .rename_i y hy;exact fin none (some n) rfl (fun y hy=>by simp at hy) rfl (fun y hy=>aa hy▸hn) (by rw[hy];exact h)
      .split at h
       .rename_i y ids1 hy;obtain⟨rfl,rfl,_,rfl⟩:TV.c y=v/\[]=u/\ids1=aA/\nxt=n':=by simpa using h
        obtain⟨k2,e2⟩:=ji hn (hρ z);obtain⟨val',h1,h2⟩:=yf (P:=P) (t:=t) (lo:=none) (l:=none) hI hu hr rfl (fun x hx=>by simp at hx) e2 hy;exact dF.pure hI (by simp[execOp,ho,h1]) (.c h2)
       .simp at h
     .simp at h
   |some q=>
    cases hi with
    |none=>
     change (match cA (kM e q)with|some l=>(match fL str sz c (some l) none with|some y=>some (TV.c y,([]:fx),([]:List Nat),nxt)|none=>none)|none=>none)=_ at h;split at h
     .rename_i n hn;exact fin (some n) none rfl (fun y hy=>aa hy▸hn) rfl (fun y hy=>by simp at hy) h
     .simp at h
    |some z=>
     change (match cA (kM e q),cA (kM e z)with
      |some l,some u=>(match fL str sz c (some l) (some u)with
       |some y=>some (TV.c y,([]:fx),([]:List Nat),nxt)
       |none=>(match nL str sz c l u H with|some (y,aA)=>some (TV.c y,([]:fx),aA,nxt)|none=>none))
      |_,_=>none)=_ at h
     split at h
     .rename_i m n hm hn;split at h
      .rename_i y hy;exact fin (some m) (some n) rfl (fun y hy=>aa hy▸hm) rfl (fun y hy=>aa hy▸hn) (by rw[hy];exact h)
      .split at h
       .rename_i y ids1 hy;obtain⟨rfl,rfl,_,rfl⟩:TV.c y=v/\[]=u/\ids1=aA/\nxt=n':=by simpa using h
        obtain⟨k1,e1⟩:=ji hm (hρ q);obtain⟨k2,e2⟩:=ji hn (hρ z);obtain⟨val',h1,h2⟩:=yf (P:=P) (t:=t) (lo:=some (ρ q)) (l:=some m) hI hu hr rfl (fun x hx=>⟨k1,m,by rw[<-aa hx,e1],rfl⟩) e2 hy;exact dF.pure hI (by simp[execOp,ho,h1]) (.c h2)
       .simp at h
     .simp at h
theorem u9{t:TypeId}{x i:Operand}{aL:Option Nat}{sz:Nat}(ho:o.op=.indexAddr t x i)
  (hu:match aL with|none=>∃el,P.underlying t=some (.slice el)/\fG P el=some sz|some len=>∃el,P.underlying t=some (.array len el)/\fG P el=some sz)
  (hI:Inv S K w0 Kn φ (aB H) w) {tx ti:Option TV} (hx:∀y,tx=some y->gf S w Kn φ y (ρ x)) (hi:∀y,ti=some y->gf S w Kn φ y (ρ i))
  (h:cN call (.indexAddr aL sz) [tx,ti] H nxt=some (v,u,aA,n')):dF P o ρ S K w0 w Kn φ (aB H) nxt n' v u:=by
 match tx,h,hx with
 |some (.c c),h,hx=>
  change (match cA ti with|some i=>(match iH aL sz c i with|some y=>some (TV.c y,([]:fx),([]:List Nat),nxt)|none=>none)|none=>none)=_ at h;split at h
  .rename_i n hn;obtain⟨k,hk⟩:=ji hn hi;split at h
   .rename_i y hy;obtain⟨rfl,rfl,rfl,rfl⟩:TV.c y=v/\[]=u/\[]=aA/\nxt=n':=by simpa using h
    have hr:=hx _ rfl;generalize hv0:ρ x=val at hr;cases hr with
    |c hr=>
    cases aL with
    |none=>
     obtain⟨el,hu,hsz⟩:=hu;simp only[iH]at hy;have run:∀b off len cap,val=.slice (some ⟨b,off,none⟩) len cap->0<=n->n<len->(execOp ρ o).run P w=.ok (.value (.pointer (some ⟨b,off+n.toNat*sz,none⟩))) w:=by intro b off len cap hv h0 h1;simp[execOp,ho,hv0,hv,Instr.indexAt,nU hk,bY hu,h0,h1,gZ hsz,pF]
     split at hy
     .rename_i sz' id off len;split at hy
      .rename_i hb;obtain⟨h0,h1,rfl⟩:=hb;obtain rfl:=aa hy;cases hr with
       |@fh _ _ _ cap addr hkn hcap haddr hext=>
        refine dF.pure hI (run _ _ _ _ rfl h0 h1) (.c ?_);have ha:=haddr (by omega);have e1:addr+n.toNat*(φ id).sz=(φ id).aQ+(off+n.toNat)*(φ id).sz+0:=by rw[ha,bN];omega
        rw[e1];exact .ep hkn
      .simp at hy
     .rename_i sz' ao;split at hy
      .rename_i hb;obtain⟨h0,rfl⟩:=hb;split at hy
       .rename_i r hr';obtain rfl:=aa hy;cases hr with
        |d hd=>cases hd with|@sl _ _ b off cap g hb hsz0 hcap hrow hcell hrd=>have hlt:n.toNat<ao.length:=(ak.1 hr').1;refine dF.pure hI (run _ _ _ _ rfl h0 (by omega)) (.c (.d (.yp hb fun j z hj=>⟨_,hcell _ _ hr' j z hj,hrd _ _ hr' j z hj⟩)))|tg=>simp at hr'
       .simp at hy
      .simp at hy
     .simp at hy
    |some len=>
     obtain⟨el,hu,hsz⟩:=hu;simp only[iH]at hy;split at hy
     .rename_i hb;obtain⟨h0,h1⟩:=hb;have run:∀b off,val=.pointer (some ⟨b,off,none⟩)->(execOp ρ o).run P w=.ok (.value (.pointer (some ⟨b,off+n.toNat*sz,none⟩))) w:=by intro b off hv;have hu':∀w,(underlying t).run P w=.ok (.array len el) w:=bY hu;simp only[execOp,ho,hv0,hv,Instr.indexAt,Sem.run_bind,nU hk,Result.andThen_ok,hu',Instr.sureAddr,Sem.run_pure,h0,h1,and_self,if_true,gZ hsz,pF]
      split at hy
      .rename_i id off;obtain rfl:=aa hy;cases hr with|op hkn=>refine dF.pure hI (run _ _ rfl) (.c ?_);rw[cM];exact .op hkn
      .rename_i id di off;obtain rfl:=aa hy;cases hr with|ep hkn=>refine dF.pure hI (run _ _ rfl) (.c ?_);rw[cM];exact .ep hkn
      .rename_i cells;split at hy
       .obtain rfl:=aa hy;cases hr with
        |d hd=>
         cases hd with
         |@pt _ b off g hb hcell hrd=>
          refine dF.pure hI (run _ _ rfl) (.c (.d (.yp hb fun j z hj=>?_)));rw[eG]at hj;split at hj
          .rw [bO]at hj;exact⟨_,by rw[cM];exact hcell _ _ hj,hrd _ _ hj⟩
          .simp at hj
       .simp at hy
      .simp at hy
     .simp at hy
   .simp at h
  .simp at h
theorem Dm{t:TypeId}{x i:Operand}(ho:o.op=.index t x i)(hu:P.underlying t=some .string)(hI:Inv S K w0 Kn φ (aB H) w)
  {tx ti:Option TV} (hx:∀y,tx=some y->gf S w Kn φ y (ρ x)) (hi:∀y,ti=some y->gf S w Kn φ y (ρ i))
  (h:cN call .px [tx,ti] H nxt=some (v,u,aA,n')):dF P o ρ S K w0 w Kn φ (aB H) nxt n' v u:=by
 match tx,h,hx with
 |some (.c (.d (.lit (.string s)))),h,hx=>
  change (match cA ti with|some i=>(match(if 0<=i then s[i.toNat]?else none)with|some b=>some (lv (.int .u8 b.toNat),([]:fx),([]:List Nat),nxt)|none=>none)|none=>none)=_ at h;split at h
  .rename_i n hn;obtain⟨k,hk⟩:=ji hn hi;split at h
   .rename_i b hb;obtain⟨rfl,rfl,rfl,rfl⟩:lv (.int .u8 b.toNat)=v/\[]=u/\[]=aA/\nxt=n':=by simpa using h
    obtain⟨hv,_⟩:=(hx _ rfl).lit;exact dF.pure hI (by simp[execOp,ho,hv,Instr.index,nU hk,bY hu,hb]) (.oA rfl)
   .simp at h
  .simp at h
theorem CQ{t:TypeId}{agg:Bool}{n off:Nat}(ha:fM P t=some agg)(hn:fG P t=some n){cs:List C}{aL:Array Value}{v:TV}(hlen:cs.length=aL.size)
  (hc:∀(i:Nat)(x:C),cs[i]?=some x->RC S w Kn φ x (aL.getD i undef)) (h:DJ agg n (cs.drop off)=some v):∃val,(part t aL off).run P w=.ok val w/\gf S w Kn φ v val:=by
 unfold DJ at h;cases agg with
 |true=>
  simp only[if_true]at h;split at h
  .rename_i hle;obtain rfl:=aa h;simp only[List.length_drop]at hle;refine⟨.agg (aL.extract off (off+n)),by simp[part,tj ha,gZ hn],.agg ?_ fun i x hi=>?_⟩
   .simp;omega
   .rw [eG]at hi;split at hi
    .rename_i hin;rw[bO]at hi;have hlt:off+i<aL.size:=by rw[<-hlen];exact(ak.1 hi).1
     have e1:(aL.extract off (off+n)).getD i undef=aL.getD (off+i) undef:=by
      have h1:(aL.extract off (off+n))[i]?=aL[off+i]?:=by rw[Array.getElem?_extract,if_pos (by omega)]
      simp only[Array.getD_eq_getD_getElem?,h1]
     rw[e1];exact hc _ _ hi
    .simp at hi
  .simp at h
 |false=>
  simp only[aS,if_false]at h;split at h
  .rename_i x r hd;obtain rfl:=aa h;have hx:cs[off]?=some x:=by have:=congrArg (fun l=>l[0]?) hd;simpa using this
   have hlt:off<aL.size:=by rw[<-hlen];exact(ak.1 hx).1
   refine⟨aL.getD off undef,?_,.c (hc _ _ hx)⟩;simp[part,tj ha,hlt]
  .simp at h
theorem KD{s:TypeId}{f n:Nat}{agg:Bool}{fields:Array Field}{fl:Field}{x:Operand}(ho:o.op=.field s x f)(hu:P.underlying s=some (.struct fields))(hf:fields[f]?=some fl)
  (ha:fM P fl.type=some agg) (hs:fG P fl.type=some n) (hI:Inv S K w0 Kn φ (aB H) w) {tv:Option TV} (hx:∀y,tv=some y->gf S w Kn φ y (ρ x))
  (h:cN call (.field agg fl.offset n) [tv] H nxt=some (v,u,aA,n')):dF P o ρ S K w0 w Kn φ (aB H) nxt n' v u:=by
 match tv,h,hx with
 |some (.agg cs),h,hx=>
  change (match DJ agg n (cs.drop fl.offset)with|some v=>some (v,([]:fx),([]:List Nat),nxt)|none=>none)=_ at h;split at h
  .rename_i y hy;obtain⟨rfl,rfl,rfl,rfl⟩:y=v/\[]=u/\[]=aA/\nxt=n':=by simpa using h
   have hr:=hx _ rfl;generalize hv0:ρ x=val at hr;cases hr with|agg hlen hc=>obtain⟨val,h1,h2⟩:=CQ ha hs hlen hc hy;exact dF.pure hI (by simp[execOp,ho,hv0,Instr.field,bY hu,hf,asAgg,h1]) h2
  .simp at h
theorem KC{t el:TypeId}{len n:Nat}{agg:Bool}{x i:Operand}(ho:o.op=.index t x i)(hu:P.underlying t=some (.array len el))
  (ha:fM P el=some agg) (hs:fG P el=some n) (hI:Inv S K w0 Kn φ (aB H) w) {tx ti:Option TV} (hx:∀y,tx=some y->gf S w Kn φ y (ρ x)) (hi:∀y,ti=some y->gf S w Kn φ y (ρ i))
  (h:cN call (.index agg len n) [tx,ti] H nxt=some (v,u,aA,n')):dF P o ρ S K w0 w Kn φ (aB H) nxt n' v u:=by
 match tx,h,hx with
 |some (.agg cs),h,hx=>
  change (match cA ti with|some i=>(if 0<=i/\i<len then(match DJ agg n (cs.drop (i.toNat*n))with|some v=>some (v,([]:fx),([]:List Nat),nxt)|none=>none)else none)|none=>none)=_ at h;split at h
  .rename_i m hm;obtain⟨k,hk⟩:=ji hm hi;split at h
   .rename_i hb;split at h
    .rename_i y hy;obtain⟨rfl,rfl,rfl,rfl⟩:y=v/\[]=u/\[]=aA/\nxt=n':=by simpa using h
     have hr:=hx _ rfl;generalize hv0:ρ x=val at hr;cases hr with|agg hlen hc=>obtain⟨val,h1,h2⟩:=CQ ha hs hlen hc hy;exact dF.pure hI (by simp[execOp,ho,hv0,Instr.index,nU hk,bY hu,hb.1,hb.2,gZ hs,h1]) h2
    .simp at h
   .simp at h
  .simp at h
end
section
variable{P:Program}{S K:Nat->Prop}{w0 w:World}{Kn:Nat->Prop}{φ:Nat->gF}{H:bF}{e:jJ}{ρ:Operand->Value}{o:Oper}{call:Call}
 {nxt n':Nat} {v:TV} {u:fx} {aA:List Nat}
def Rp(m:Bool):Value->Value->Sem Value:=if m then Builtin.max2 else Builtin.min2
theorem Nw{m:Bool}{x y z:Value}(h:SE m x y=some z):(Rp m x y).run P w=.ok z w/\d_ z=true:=by
 unfold SE at h;split at h
 .rename_i k a k' b;split at h
  .obtain rfl:=aa h;cases m<;>simp[Rp,Builtin.max2,Builtin.min2,d_]
  .simp at h
 .rename_i k a k' b;split at h
  .rename_i hk;subst hk;split at h
   .simp at h
   .rename_i ho;obtain rfl:=aa h;cases m<;>simp[Rp,Builtin.max2,Builtin.min2,d_,ho]
   .rename_i ho;obtain rfl:=aa h;cases m<;>simp[Rp,Builtin.max2,Builtin.min2,d_,ho]
   .rename_i ho;obtain rfl:=aa h;cases m<;>simp[Rp,Builtin.max2,Builtin.min2,d_,ho]
  .simp at h
 .simp at h
theorem Nv{m:Bool}(hρ:∀x tv,kM e x=some tv->gf S w Kn φ tv (ρ x)):∀(r:List Operand)(x z:Value),d_ x=true->O9 m x (r.map (kM e))=some z->
  ((r.map ρ).foldlM (Rp m) x).run P w=.ok z w/\d_ z=true:=by
 intro r;induction r with
 |nil=>
  intro x z hp h;obtain rfl:x=z:=by simpa[O9]using h
  exact⟨rfl,hp⟩
 |cons a r ih=>
  intro x z hp h;simp only[aD]at h|-
  match ha:kM e a,h with
  |some (.c (.d (.lit y))),h=>
   simp only[O9]at h;split at h
   .rename_i z' hz;obtain⟨h1,h2⟩:=Nw (P:=P) (w:=w) hz;obtain⟨hv,_⟩:=(hρ a _ ha).lit;obtain⟨h3,h4⟩:=ih z' z h2 h;refine⟨?_,h4⟩;simp only[List.foldlM_cons,Sem.run_bind,hv,h1,Result.andThen_ok,h3]
   .simp at h
theorem AD{m:Bool}{c:Go.Call}(ho:o.op=.call c)(hcal:c.callee=.builtin (if m then .max else .min))(hI:Inv S K w0 Kn φ (aB H) w)
  (hρ:∀x tv,kM e x=some tv->gf S w Kn φ tv (ρ x)) (h:cN call (.uB m) (c.args.toList.map (kM e)) H nxt=some (v,u,aA,n')):dF P o ρ S K w0 w Kn φ (aB H) nxt n' v u:=by
 generalize hargs:c.args.toList=args at h;cases args with
 |nil=>simp[cN]at h
 |cons a r=>
  simp only[aD]at h
  match ha:kM e a,h with
  |some (.c (.d (.lit x))),h=>
   change (match O9 m x (r.map (kM e))with|some v=>some (lv v,([]:fx),([]:List Nat),nxt)|none=>none)=_ at h;split at h
   .rename_i z hz;obtain⟨rfl,rfl,rfl,rfl⟩:lv z=v/\[]=u/\[]=aA/\nxt=n':=by simpa using h
    obtain⟨hv,hp⟩:=(hρ a _ ha).lit;obtain⟨h1,h2⟩:=Nv (P:=P) hρ r x z hp hz;refine dF.pure hI ?_ (.oA h2);have e1:List.map ρ c.args.toList=x::r.map ρ:=by rw[hargs,aD,hv]
    cases m
    .simp only[aS,if_false]at hcal;have h1':((r.map ρ).foldlM Builtin.min2 x).run P w=.ok z w:=h1;simp[execOp,ho,hcal,resolve,invoke,builtin,Builtin.min_,e1,h1']
    .simp only[if_true]at hcal;have h1':((r.map ρ).foldlM Builtin.max2 x).run P w=.ok z w:=h1;simp[execOp,ho,hcal,resolve,invoke,builtin,Builtin.max_,e1,h1']
   .simp at h
def CR(S:Nat->Prop)(w:World)(Kn:Nat->Prop)(φ:Nat->gF)(cs:List C)(vs:List Value):Prop:=cs.length=vs.length/\∀(i:Nat)(x:C)(y:Value),cs[i]?=some x->vs[i]?=some y->RC S w Kn φ x y
theorem CR.aU{cs ds:List C}{vs us:List Value}(h1:CR S w Kn φ cs vs)(h2:CR S w Kn φ ds us)(off:Nat)(hfit:off+ds.length<=cs.length):
  CR S w Kn φ (aU cs off ds) (aU vs off us):=by
 have hl1:=h1.1;have hl2:=h2.1;refine⟨by rw[eN _ _ _ hfit,eN _ _ _ (by omega)];exact h1.1,fun i x y hx hy=>?_⟩;rw[jx _ _ _ hfit]at hx;rw[jx _ _ _ (by omega)]at hy;by_cases c1:i<off
 .rw [if_pos c1]at hx hy;exact h1.2 i x y hx hy
 .rw [if_neg c1]at hx hy;by_cases c2:i<off+ds.length
  .rw [if_pos c2]at hx;rw[if_pos (by omega)]at hy;exact h2.2 _ x y hx hy
  .rw [if_neg c2]at hx;rw[if_neg (by omega)]at hy;exact h1.2 i x y hx hy
theorem gf.cr{tv:TV}{val:Value}{cs:List C}(h:gf S w Kn φ tv val)(hc:cellsOf tv=some cs):CR S w Kn φ cs val.cells.toList:=by
 obtain⟨h1,h2,_⟩:=h.cells hc;refine⟨by simpa using h1,fun i x y hx hy=>?_⟩;have:=h2 i x hx;have e1:val.cells.getD i undef=y:=by rw[aZ]at hy;simp[hy]
 rwa[e1]at this
theorem B6{cs:List C}{aL:Array Value}(h:CR S w Kn φ cs aL.toList):cs.length=aL.size/\∀(i:Nat)(x:C),cs[i]?=some x->RC S w Kn φ x (aL.getD i undef):=by
 have hl:cs.length=aL.size:=by simpa using h.1
 refine⟨hl,fun i x hx=>?_⟩;have hlt:i<aL.size:=by rw[<-hl];exact(ak.1 hx).1
 refine h.2 i x _ hx ?_;simp[hlt]
theorem Lc:∀(l:List Value)(k:Nat)(aL:Array Value)(off:Nat),off+k+l.length<=aL.size->
  ((l.zipIdx k).foldl (fun(cs:Array Value)(p:Value×Nat)=>cs.setIfInBounds (off+p.2) p.1) aL).toList=aU aL.toList (off+k) l:=by
 intro l;induction l with
 |nil=>intro k aL off _;simp[aU]
 |cons a l ih=>
  intro k aL off hfit;simp only[c9]at hfit;simp only[List.zipIdx_cons,List.foldl_cons];rw[ih (k+1) (aL.setIfInBounds (off+k) a) off (by simp;omega)];apply List.ext_getElem?;intro i;rw[jx _ _ _ (by simp;omega),jx _ _ _ (by simp;omega)];simp only[Array.toList_setIfInBounds,List.getElem?_set,c9];by_cases c1:i<off+k
  .have c3:i<off+(k+1):=by omega
   have c4:¬off+k=i:=by omega
   simp[c1,c3,c4]
  .by_cases c2:i=off+k
   .subst c2;have:off+k<off+(k+1):=by omega
    have c5:off+k<aL.size:=by omega
    simp[this,c5]
   .have c3:¬i<off+(k+1):=by omega
    have c4:¬off+k=i:=by omega
    by_cases c5:i<off+k+(l.length+1)
    .have c6:i<off+(k+1)+l.length:=by omega
     have c7:i-(off+k)=(i-(off+(k+1)))+1:=by omega
     simp[c1,c3,c5,c6,c7]
    .have c6:¬i<off+(k+1)+l.length:=by omega
     simp[c1,c3,c4,c5,c6]
theorem OL(vs aL:Array Value)(off:Nat)(hfit:off+vs.size<=aL.size):
  (vs.zipIdx.foldl (fun(cs:Array Value)(p:Value×Nat)=>cs.setIfInBounds (off+p.2) p.1) aL).toList=aU aL.toList off vs.toList:=by
 rw[<-Array.foldl_toList,Array.toList_zipIdx];have:=Lc vs.toList 0 aL off (by simpa using hfit);simpa using this
theorem zb(sA:Nat->Option (Nat×Nat)):∀(parts:List (Nat×Operand))(pl:List (Nat×Nat))(xs:List TV)(cs cs':List C)(aL:Array Value),
  pl.length=parts.length->(∀(i:Nat)(p:Nat×Operand)(q:Nat×Nat),parts[i]?=some p->pl[i]?=some q->sA p.1=some q)->
  xs.length=parts.length->(∀(i:Nat)(p:Nat×Operand)(x:TV),parts[i]?=some p->xs[i]?=some x->gf S w Kn φ x (ρ p.2))->
  CR S w Kn φ cs aL.toList->mU cs (pl.zip xs)=some cs'->
  ∃arr',Instr.fill sA aL (parts.map fun p=>(p.1,ρ p.2))=some arr'/\CR S w Kn φ cs' arr'.toList:=by
 intro parts;induction parts with
 |nil=>
  intro pl xs cs cs' aL h1 _ h2 _ hcr h;have e1:pl=[]:=List.length_eq_zero_iff.1 h1;subst e1;obtain rfl:cs=cs':=by simpa[mU]using h
  exact⟨aL,rfl,hcr⟩
 |cons p parts ih=>
  intro pl xs cs cs' aL h1 hpl h2 hxs hcr h;cases pl with
  |nil=>simp at h1
  |cons q pl=>
   cases xs with
   |nil=>simp at h2
   |cons x xs=>
    obtain⟨off,n⟩:=q;simp only[List.zip_cons_cons,mU]at h;split at h
    .rename_i ds hds;split at h
     .rename_i hb;obtain⟨hb1,hb2⟩:=hb;have hp:=hpl 0 p (off,n) rfl rfl;have hx:=(hxs 0 p x rfl rfl).cr hds;have hsz:(ρ p.2).cells.size=n:=by have:=hx.1;simp at this;omega
      have hal:cs.length=aL.size:=by simpa using hcr.1
      have hcr':=hcr.aU hx off (by omega);rw[<-OL (ρ p.2).cells aL off (by omega)]at hcr'
      obtain⟨arr',h3,h4⟩:=ih pl xs _ cs' _ (by simpa using h1) (fun i p q hp hq=>hpl (i+1) p q (by simpa using hp) (by simpa using hq)) (by simpa using h2)
       (fun i p x hp hx=>hxs (i+1) p x (by simpa using hp) (by simpa using hx)) hcr' h
      refine⟨arr',?_,h4⟩;simp only[aD,Instr.fill,hp];rw[if_neg (by simp[hsz];omega)];exact h3
     .simp at h
    .simp at h
theorem Ha{z:List Value}(hp:∀x∈z,d_ x=true):CR S w Kn φ (fk z) z:=by refine⟨by simp[fk],fun i x y hx hy=>?_⟩;simp only[fk,aG,hy,bL]at hx;obtain rfl:=aa hx;exact .d (.lit (hp y (aW hy)))
theorem Fo{fields:Array Field}:∀{is:List Nat}{pl:List (Nat×Nat)},jU P fields is=some pl->pl.length=is.length/\
  ∀(k i:Nat)(q:Nat×Nat),is[k]?=some i->pl[k]?=some q->∃f,fields[i]?=some f/\q.1=f.offset/\fG P f.type=some q.2:=by
 intro is;induction is with
 |nil=>
  intro pl h;obtain rfl:[]=pl:=by simpa[jU]using h
  exact⟨rfl,fun k i q hk=>by simp at hk⟩
 |cons i is ih=>
  intro pl h;simp only[jU]at h;split at h
  .rename_i f l hf hl;split at h
   .rename_i n hn;obtain rfl:=aa h;obtain⟨h1,h2⟩:=ih hl;refine⟨by simp[h1],fun k j q hk hq=>?_⟩;cases k with
    |zero=>
     obtain rfl:i=j:=by simpa using hk
     obtain rfl:(f.offset,n)=q:=by simpa using hq
     exact⟨f,hf,rfl,hn⟩
    |succ k=>exact h2 k j q (by simpa using hk) (by simpa using hq)
   .simp at h
  .simp at h
theorem E8(g:Field->Nat×Nat):∀(l:List Field),(∀f∈l,∃n,fG P f.type=some n/\g f=(f.offset,n))->
  (l.mapM fun f=>(do pure (f.offset,<-sizeOf f.type):Sem (Nat×Nat))).run P w=.ok (l.map g) w:=by
 intro l;induction l with|nil=>intro _;rfl|cons f l ih=>intro h;obtain⟨n,hn,hg⟩:=h f (by simp);have:=ih fun f hf=>h f (by simp[hf]);simp only[List.mapM_cons,Sem.run_bind,gZ hn,Result.andThen_ok,Sem.run_pure,this,aD,hg]
theorem Dq{t:TypeId}{parts:Array (Nat×Operand)}{z:List Value}{pl:List (Nat×Nat)}(ho:o.op=.build t parts)(hz:jQ P t=some z)
  (hu:(∃fields,P.underlying t=some (.struct fields)/\jU P fields (parts.toList.map (·.1))=some pl/\fields.toList.all (fun f=>(fG P f.type).isSome)=true)\/
   (∃len el n,P.underlying t=some (.array len el)/\fG P el=some n/\pl=parts.toList.map fun p=>(p.1*n,n)))
  (hI:Inv S K w0 Kn φ (aB H) w) (hρ:∀x tv,kM e x=some tv->gf S w Kn φ tv (ρ x))
  (h:cN call (.build z pl) ((parts.toList.map (·.2)).map (kM e)) H nxt=some (v,u,aA,n')):dF P o ρ S K w0 w Kn φ (aB H) nxt n' v u:=by
 change (match eF ((parts.toList.map (·.2)).map (kM e))with
  |some xs=>(match mU (fk z) (pl.zip xs)with|some cs=>some (TV.agg cs,([]:fx),([]:List Nat),nxt)|none=>none)
  |none=>none)=_ at h
 split at h
 .rename_i xs hxs;split at h
  .rename_i cs hcs;obtain⟨rfl,rfl,rfl,rfl⟩:TV.agg cs=v/\[]=u/\[]=aA/\nxt=n':=by simpa using h
   obtain⟨hl,hr⟩:=vz hρ hxs;obtain⟨zv,hzr,hzl,hzp⟩:=pi hz w
   have key:∀sA:Nat->Option (Nat×Nat),pl.length=parts.toList.length->(∀(i:Nat)(p:Nat×Operand)(q:Nat×Nat),parts.toList[i]?=some p->pl[i]?=some q->sA p.1=some q)->
     ∃arr',Instr.fill sA zv.cells ((parts.map fun p=>(p.1,ρ p.2)).toList)=some arr'/\CR S w Kn φ cs arr'.toList:=by
    intro sA h1 h2
    have:=zb (S:=S) (w:=w) (Kn:=Kn) (φ:=φ) (ρ:=ρ) sA parts.toList pl xs (fk z) cs zv.cells h1 h2 (by simpa using hl) (fun i p x hp hx=>hr i p.2 x (by simp only[aG,hp,bL]) hx)
     (by rw[hzl];exact Ha hzp) hcs
    simpa using this
   rcases hu with⟨fields,hu,hpl,hall⟩|⟨len,el,n,hu,hn,rfl⟩
   .obtain ⟨h1,h2⟩:=Fo hpl;let g:Field->Nat×Nat:=fun f=>(f.offset,(fG P f.type).getD 0)
    have hg:(fields.mapM fun f=>(do pure (f.offset,<-sizeOf f.type):Sem (Nat×Nat))).run P w=.ok (fields.map g) w:=by
     rw[Array.mapM_eq_mapM_toList];have:=E8 (P:=P) (w:=w) g fields.toList fun f hf=>by have:=bc.1 hall f hf;obtain⟨n,hn⟩:=Option.isSome_iff_exists.1 this;exact⟨n,hn,by simp[g,hn]⟩
     simp only[Sem.run_map,this,Result.andThen_ok];congr 1;apply Array.ext';rw[Array.toList_map]
    obtain⟨arr',h3,h4⟩:=key (fun i=>(fields.map g)[i]?) (by simpa using h1) (fun i p q hp hq=>by obtain⟨f,hf,hq1,hq2⟩:=h2 i p.1 q (by simp only[aG,hp,bL]) hq;simp only[Array.getElem?_map,hf,bL,g,hq2,fC,<-hq1]);obtain⟨h5,h6⟩:=B6 h4;refine dF.pure (val:=.agg arr') hI ?_ (.agg h5 h6);simp only[execOp,ho,Sem.run_bind,Instr.build,hzr,Result.andThen_ok,bY hu,hg,h3,Sem.run_pure]
   .obtain ⟨arr',h3,h4⟩:=key (fun i=>some (i*n,n)) (by simp) (fun i p q hp hq=>by simp only[aG,hp,bL]at hq;exact hq);obtain⟨h5,h6⟩:=B6 h4;refine dF.pure (val:=.agg arr') hI ?_ (.agg h5 h6);simp only[execOp,ho,Sem.run_bind,Instr.build,hzr,Result.andThen_ok,bY hu,gZ hn,h3,Sem.run_pure]
  .simp at h
 .simp at h
theorem li.from{S1:Nat->Prop}{hf hf1:Nat->Option Ob}{u1 u2:fx}{val:Value}{w':World}(hs:gV S w S1 w)(he:hf1=bk u1 hf)(h:li S1 K w0 w Kn φ hf1 nxt n' v u2 val w'):
  li S K w0 w Kn φ hf nxt n' v (u2++u1) val w':=by
 obtain⟨h1,S',φ',h2,h3,h4,h5⟩:=h;exact⟨h1,S',φ',hs.trans h2,h3,h4,by rw[ei,<-he];exact h5⟩
theorem Gn{α:Type}(sz:Nat):∀(n:Nat)(l:List α),n*sz<=l.length->(mo sz n l).length=n/\∀i r,(mo sz n l)[i]?=some r->r=(l.drop (i*sz)).take sz/\r.length=sz:=by
 intro n;induction n with
 |zero=>intro l _;exact⟨rfl,fun i r hi=>by simp[mo]at hi⟩
 |succ n ih=>
  intro l hl;have e1:(n+1)*sz=n*sz+sz:=dL n sz;obtain⟨h1,h2⟩:=ih (l.drop sz) (by simp;omega);refine⟨by simp[mo,h1],fun i r hi=>?_⟩;cases i with
  |zero=>
   obtain rfl:l.take sz=r:=by simpa[mo]using hi
   exact⟨by simp,by simp;omega⟩
  |succ i=>obtain⟨h3,h4⟩:=h2 i r (by simpa[mo]using hi);refine⟨?_,h4⟩;rw[h3,List.drop_drop];congr 2;rw[dL];omega
theorem uP{zc:Array Value}{z:List Value}{sz n:Nat}(hz:zc.toList=z)(hl:z.length=sz)(hpos:0<sz):
  ((Array.range n).map (fun i=>zc[i %zc.size]!)).toList=(aK n).map fun i=>z.getD (i %sz) undef:=by
 simp only[Array.toList_map,Array.toList_range];apply List.map_congr_left;intro i _;have e1:zc.size=sz:=by rw[<-hl,<-hz];simp
 have hlt:i %sz<zc.size:=by rw[e1];exact Nat.mod_lt _ hpos
 rw[e1,<-hz];have:i %sz<zc.toList.length:=by simpa using hlt
 simp[hlt]
theorem zU{t el:TypeId}{len n:Nat}{parts:Array (Nat×Operand)}{z:List Value}(ho:o.op=.buildSlice t len parts)(hu:P.underlying t=some (.slice el))
  (hs:fG P el=some (n+1)) (hz:jQ P el=some z) (hlim:len*(n+1)<=4096/\z.length=n+1)
  (hI:Inv S K w0 Kn φ (aB H) w) (hn0:nxt<n'->¬Kn nxt) (hρ:∀x tv,kM e x=some tv->gf S w Kn φ tv (ρ x))
  (h:cN call (.buildSlice (n+1) len ((aK (len*(n+1))).map fun i=>z.getD (i %(n+1)) undef) (parts.toList.map (·.1))) ((parts.toList.map (·.2)).map (kM e)) H nxt=some (v,u,aA,n')):
  dF P o ρ S K w0 w Kn φ (aB H) nxt n' v u:=by
 generalize hzs:((aK (len*(n+1))).map fun i=>z.getD (i %(n+1)) undef)=zs at h
 change (match eF ((parts.toList.map (·.2)).map (kM e))with
  |some xs=>
   (match mU (fk zs) (((parts.toList.map fun(p:Nat×Operand)=>p.1).map fun i=>(i*(n+1),n+1)).zip xs)with
   |some cs=>
    (match dP H cs with
    |some (ds,aA)=>(match dW H aA aA with|some u=>some (TV.c (.fh (n+1) nxt 0 len),(nxt,some (Ob.aL (n+1) (mo (n+1) len ds)))::u,aA,nxt+1)|none=>none)
    |none=>none)
   |none=>none)
  |none=>none)=_ at h
 split at h
 .rename_i xs hxs;split at h
  .rename_i cs hcs;split at h
   .rename_i ds ids' hv;split at h
    .rename_i u' hfz;obtain⟨rfl,rfl,rfl,rfl⟩:TV.c (.fh (n+1) nxt 0 len)=v/\(nxt,some (Ob.aL (n+1) (mo (n+1) len ds)))::u'=u/\ids'=aA/\nxt+1=n':=by simpa using h
     have hn:=hn0 (aX _);obtain⟨hl,hr⟩:=vz hρ hxs;obtain⟨zv,hzr,hzl,hzp⟩:=pi hz w
     have hzp':∀x∈zs,d_ x=true:=by
      intro x hx;rw[<-hzs]at hx;obtain⟨i,_,rfl⟩:=b_.1 hx;have hlt:i %(n+1)<z.length:=by rw[hlim.2];exact Nat.mod_lt _ (dw _)
      have:z.getD (i %(n+1)) undef=z[i %(n+1)]:=by simp[lG,hlt]
      rw[this];exact hzp _ (List.getElem_mem hlt)
     have hzero:∃zc:Array Value,(len*(n+1)=0->zc= #[])/\(¬len*(n+1)=0->zc=zv.cells)/\
       ((Array.range (len*(n+1))).map (fun i=>zc[i %zc.size]!)).toList=zs:=by
      by_cases hc:len*(n+1)=0
      .refine ⟨#[],fun _=>rfl,fun h=>absurd hc h,?_⟩;rw[<-hzs,hc];simp
      .refine ⟨zv.cells,fun h=>absurd h hc,fun _=>rfl,?_⟩;rw[uP hzl hlim.2 (dw _),hzs]
     obtain⟨zc,hzc,hzc1,hzc2⟩:=hzero
     obtain⟨arr',h3,h4⟩:=zb (S:=S) (w:=w) (Kn:=Kn) (φ:=φ) (ρ:=ρ) (fun i=>some (i*(n+1),n+1)) parts.toList _ xs (fk zs) cs ((Array.range (len*(n+1))).map (fun i=>zc[i %zc.size]!))
      (by simp) (fun i p q hp hq=>by simp only[aG,hp,bL]at hq;exact hq) (by simpa using hl)
      (fun i p x hp hx=>hr i p.2 x (by simp only[aG,hp,bL]) hx) (by rw[hzc2];exact Ha hzp') hcs
     obtain⟨h5,h6⟩:=B6 h4
     have hcl:cs.length=len*(n+1):=by
      have:∀(l:List ((Nat×Nat)×TV))(a b:List C),mU a l=some b->b.length=a.length:=by
       intro l;induction l with
       |nil=>
        intro a b h;obtain rfl:a=b:=by simpa[mU]using h
        rfl
       |cons p l ih=>
        intro a b h;obtain⟨⟨off,m⟩,x⟩:=p;simp only[mU]at h;split at h
        .split at h
         .rename_i hb;rw[ih _ _ h,eN _ _ _ (by omega)]
         .simp at h
        .simp at h
      rw[this _ _ _ hcs,<-hzs];simp[fk]
     obtain⟨h7,h8⟩:=qX hI cs ds ids' hv (fun i=>arr'[i]?) (fun i c hi=>by
      have hlt:i<arr'.size:=by rw[<-h5];exact(ak.1 hi).1
      exact⟨arr'.getD i undef,by simp[hlt],h6 i c hi⟩)
     obtain⟨h9,h10⟩:=Gn (n+1) len ds (by omega);have hI1:=hI.F3 hfz
     have hrows:cS (SB S w φ (aB H) ids') w (n+1) (fun i=>arr'[i]?) 0 (mo (n+1) len ds):=by
      refine⟨fun i r hi=>(h10 i r hi).2,fun i r hi j x hj=>?_⟩;rw[(h10 i r hi).1,eG]at hj;split at hj
      .rw [bO]at hj;obtain⟨y,hy,hd⟩:=h8 _ x hj;exact⟨y,by rw[<-hy];simp,hd⟩
      .simp at hj
     have hD:=li.aL (K:=K) (w0:=w0) hI1 hn (cap:=len) (aL:=arr') (sz:=n+1) el (dw n) (by omega) (by omega) hrows;rw[h9]at hD;refine⟨.value _,_,_,?_,.inl rfl,li.from (u1:=u') (SB.um _) rfl hD⟩;have h3':Instr.fill (fun i=>some (i*(n+1),n+1)) ((Array.range (len*(n+1))).map (fun i=>zc[i %zc.size]!)) (parts.map fun p=>(p.1,ρ p.2)).toList=some arr':=by rw[<-h3];simp
     have hlim':¬len*(n+1)>2^24:=by have:=hlim.1;omega
     simp only[execOp,ho,Sem.run_bind,Instr.buildSlice,bY hu,Result.andThen_ok,gZ hs,if_neg hlim'];by_cases hc:len*(n+1)=0
     .rw [hzc hc]at h3';simp only[if_pos hc,Sem.run_bind,Sem.run_pure,Result.andThen_ok,h3',newRow,run_newObj]
     .rw [hzc1 hc]at h3';simp only[if_neg hc,Sem.run_bind,hzr,Sem.run_pure,Result.andThen_ok,h3',newRow,run_newObj]
    .simp at h
   .simp at h
  .simp at h
 .simp at h
end
section
variable{P:Program}{S K:Nat->Prop}{w0 w:World}{Kn:Nat->Prop}{φ:Nat->gF}{H:bF}{e:jJ}{ρ:Operand->Value}{o:Oper}{call:Call}
 {nxt n':Nat} {v:TV} {u:fx} {aA:List Nat}
theorem sT{el:TypeId}(h:o5 P el=true):∃i,P.info? el=some i/\0<i.bytes/\i.bytes<=16384:=by
 unfold o5 at h;split at h
 .rename_i i hi;simp only[Bool.and_eq_true,decide_eq_true_eq]at h;exact⟨i,hi,h.1,h.2⟩
 .simp at h
theorem u7{t el:TypeId}{n:Nat}{l c:Operand}{z:List Value}(ho:o.op=.makeSlice t l c)(hu:P.underlying t=some (.slice el))
  (hs:fG P el=some (n+1)) (hz:jQ P el=some z) (hzl:z.length=n+1) (hb:o5 P el=true)
  (hI:Inv S K w0 Kn φ (aB H) w) (hn0:nxt<n'->¬Kn nxt) {tl tc:Option TV} (hl:∀y,tl=some y->gf S w Kn φ y (ρ l)) (hc:∀y,tc=some y->gf S w Kn φ y (ρ c))
  (h:cN call (.makeSlice z) [tl,tc] H nxt=some (v,u,aA,n')):dF P o ρ S K w0 w Kn φ (aB H) nxt n' v u:=by
 change (match cA tl,cA tc with
  |some l,some c=>if 0<=l/\l<=c/\c<=DG then some (TV.c (.fh z.length nxt 0 l.toNat),[(nxt,some (Ob.aL z.length (aw l.toNat (cB z))))],([]:List Nat),nxt+1)else none
  |_,_=>none)=_ at h
 split at h
 .rename_i a b ha hb';split at h
  .rename_i hle;obtain⟨h0,h1,h2⟩:=hle;obtain⟨rfl,rfl,rfl,rfl⟩:TV.c (.fh z.length nxt 0 a.toNat)=v/\[(nxt,some (Ob.aL z.length (aw a.toNat (cB z))))]=u/\[]=aA/\nxt+1=n':=by simpa using h
   have hn:=hn0 (aX _);obtain⟨k1,hk1⟩:=ji ha hl;obtain⟨k2,hk2⟩:=ji hb' hc;obtain⟨i,hi,hby0,hby⟩:=sT hb;obtain⟨zv,hzr,hzv,hzp⟩:=pi hz w;simp only[DG]at h2;have hwa:IntKind.i64.wrap a=a:=uh h0 (by omega);have hwb:IntKind.i64.wrap b=b:=uh (by omega) (by omega);have hmul:(i.bytes:Int)*b<=16384*2147483648:=Int.mul_le_mul (by omega) (by omega) (by omega) (by omega);have hsz:(z.length)=zv.cells.size:=by rw[<-hzv];simp
   let aL:Array Value:=(Array.range (b.toNat*(n+1))).map (fun i=>zv.cells[i %zv.cells.size]!);have harr:aL.toList=(aK (b.toNat*(n+1))).map fun i=>z.getD (i %(n+1)) undef:=uP hzv hzl (dw _);have hsize:aL.size=b.toNat*(n+1):=by simp[aL]
   have hrows:cS S w (n+1) (fun i=>aL[i]?) 0 (aw a.toNat (cB z)):=by
    refine⟨fun i r hi=>?_,fun i r hi j x hj=>?_⟩
    .obtain ⟨_,rfl⟩:i<a.toNat/\cB z=r:=by
      rw[dC]at hi;split at hi
      .rename_i hlt;exact⟨hlt,aa hi⟩
      .simp at hi
     simp[cB,hzl]
    .obtain ⟨hlt,rfl⟩:i<a.toNat/\cB z=r:=by
      rw[dC]at hi;split at hi
      .rename_i hlt;exact⟨hlt,aa hi⟩
      .simp at hi
     simp only[cB,aG]at hj;obtain⟨y,hy,rfl⟩:=aF.1 hj;have hjl:j<n+1:=by rw[<-hzl];exact(ak.1 hy).1
     refine⟨y,?_,.lit (hzp y (aW hy))⟩;have hidx:i*(n+1)+j<b.toNat*(n+1):=by have:(i+1)*(n+1)<=b.toNat*(n+1):=aI _ (by omega);rw[dL]at this;omega
     show aL[0+i*(n+1)+j]?=some y;rw[<-aZ,harr,bK,aG,jP hidx];have e1:(i*(n+1)+j) %(n+1)=j:=by rw[Nat.add_comm,Nat.add_mul_mod_self_right];exact Nat.mod_eq_of_lt hjl
     simp[e1,lG,hy]
   have hD:=li.aL (K:=K) (w0:=w0) hI hn (cap:=b.toNat) (aL:=aL) el (dw n) (by simp;omega) (by rw[hsize];exact au _) hrows;rw[db]at hD;rw[hzl];refine⟨.value (.slice (some ⟨w.heap.size,0,none⟩) a.toNat b.toNat),_,_,?_,.inl rfl,hD⟩;have hinfo:∀w:World,(typeInfo el).run P w=.ok i w:=fun w=>by simp[typeInfo,hi]
   have harr0:∀zc:Array Value,(b.toNat*(n+1)=0->zc= #[])->(¬b.toNat*(n+1)=0->zc=zv.cells)->((Array.range (b.toNat*(n+1))).map (fun i=>zc[i %zc.size]!))=aL:=by
    intro zc h1 h2;by_cases hc0:b.toNat*(n+1)=0
    .apply Array.ext';rw[harr,hc0];simp
    .rw [h2 hc0]
   have hnl:¬(decide (b<0)||decide ((i.bytes:Int)*b>2^48))=true:=by simp only[cJ,decide_eq_true_eq,not_or];constructor<;>omega
   simp only[execOp,ho,Sem.run_bind,Instr.makeSlice,bY hu,Result.andThen_ok,vV hk1,vV hk2,hinfo,hwa,hwb];rw[Sem.run_ite,if_neg (by simp only[cJ,decide_eq_true_eq];simp only[cJ,decide_eq_true_eq]at hnl;omega)];simp only[Sem.run_pure,Result.andThen_ok,Sem.run_bind,run_askRoom,gZ hs];by_cases hc0:b.toNat*(n+1)=0
   .have:=harr0 #[] (fun _=>rfl) (fun h=>absurd hc0 h);simp only[if_pos hc0,Sem.run_bind,Sem.run_pure,Result.andThen_ok,newRow,run_newObj,this]
   .have:=harr0 zv.cells (fun h=>absurd h hc0) (fun _=>rfl);simp only[if_neg hc0,Sem.run_bind,hzr,Sem.run_pure,Result.andThen_ok,newRow,run_newObj,this]
  .simp at h
 .simp at h
theorem Kz{t el:TypeId}{n m:Nat}{l c:Operand}{z:List Value}(ho:o.op=.makeSlice t l c)(hu:P.underlying t=some (.slice el))
  (hs:fG P el=some (n+1)) (hz:jQ P el=some z) (hzl:z.length=n+1) (hb:o5 P el=true) (hz1:FS z=true) (hm:0<m)
  (hI:Inv S K w0 Kn φ (aB H) w) (hn0:nxt<n'->¬Kn nxt) {tl tc:Option TV} (hl:∀y,tl=some y->gf S w Kn φ y (ρ l)) (hc:∀y,tc=some y->gf S w Kn φ y (ρ c))
  (h:cN call (.AI m) [tl,tc] H nxt=some (v,u,aA,n')):dF P o ρ S K w0 w Kn φ (aB H) nxt n' v u:=by
 obtain rfl:z=[.slice none 0 0]:=by
  unfold FS at hz1;split at hz1
  .rfl
  .simp at hz1
 change (match cA tl,cA tc with
  |some l,some c=>if 0<=l/\l<=c/\c<=DG then some (TV.c (.fh 1 nxt 0 l.toNat),[(nxt,some (Ob.nst m (aw l.toNat .nil)))],([]:List Nat),nxt+1)else none
  |_,_=>none)=_ at h
 split at h
 .rename_i a b ha hb';split at h
  .rename_i hle;obtain⟨rfl,rfl,rfl,rfl⟩:TV.c (.fh 1 nxt 0 a.toNat)=v/\[(nxt,some (Ob.nst m (aw a.toNat .nil)))]=u/\[]=aA/\nxt+1=n':=by simpa using h
   have hev:cN call (.makeSlice [.slice none 0 0]) [tl,tc] H nxt=some (TV.c (.fh 1 nxt 0 a.toNat),[(nxt,some (Ob.aL 1 (aw a.toNat (cB [.slice none 0 0]))))],[],nxt+1):=by
    show(match cA tl,cA tc with
     |some l,some c=>if 0<=l/\l<=c/\c<=DG then some (TV.c (.fh ([.slice none 0 0]:List Value).length nxt 0 l.toNat),[(nxt,some (Ob.aL ([.slice none 0 0]:List Value).length (aw l.toNat (cB [.slice none 0 0]))))],([]:List Nat),nxt+1)else none
     |_,_=>none)=_
    rw[ha,hb'];show(if 0<=a/\a<=b/\b<=DG then _ else _)=_;rw[if_pos hle];rfl
   obtain⟨nx,val,w',h1,h2,h3,S',φ',h4,h5,h6,h7⟩:=u7 ho hu hs hz hzl hb hI hn0 hl hc hev;refine⟨nx,val,w',h1,h2,h3,S',φ',h4,h5,h6,?_⟩;have e1:bk [(nxt,some (Ob.aL 1 (aw a.toNat (cB [.slice none 0 0]))))] (aB H) nxt=some (.aL 1 (aw a.toNat (cB [.slice none 0 0]))):=by rw[bQ,if_pos rfl]
   obtain⟨_,hro⟩:=h7.iL nxt _ e1
   have h8:=h7.SM (o':=.nst m (aw a.toNat .nil)) e1 rfl (fun sz sl k ao e hk=>by
    cases e;rw[dC]at hk;split at hk<;>cases hk) (by
    cases hro with
    |aL hsz hl hS hK hown hext hfit hrr hv=>
     rw[db]at hv hfit;refine .nst hm hl hS hK hown hext (by rw[db];omega) (fun i s hi=>?_) (by rw[db];exact hv);rw[dC]at hi;split at hi
     .rename_i hlt;obtain rfl:=aa hi;obtain⟨v,q1,q2⟩:=hrr.2 i (cB [.slice none 0 0]) (by rw[dC,if_pos hlt]) 0 _ rfl;cases q2 with|lit _=>exact⟨_,by rw[<-q1];simp,.nil⟩
     .cases hi)
   have e2:bk [(nxt,some (Ob.nst m (aw a.toNat .nil)))] (bk [(nxt,some (Ob.aL 1 (aw a.toNat (cB [.slice none 0 0]))))] (aB H))=bk [(nxt,some (Ob.nst m (aw a.toNat .nil)))] (aB H):=by
    funext j;simp only[bQ,fF];by_cases e:nxt=j
    .rw [if_pos e,if_pos e]
    .rw [if_neg e,if_neg e,if_neg e]
   rw[e2]at h8;exact h8
  .simp at h
 .simp at h
theorem CR.mono{S':Nat->Prop}{w':World}{Kn':Nat->Prop}{φ':Nat->gF}(hs:gV S w S' w')(hr:Ren Kn φ Kn' φ'){cs:List C}{vs:List Value}(h:CR S w Kn φ cs vs):CR S' w' Kn' φ' cs vs:=⟨h.1,fun i x y hx hy=>(h.2 i x y hx hy).mono hs hr⟩
theorem Q6{cs:List C}{aL:Array Value}(h1:cs.length=aL.size)(h2:∀(i:Nat)(x:C),cs[i]?=some x->RC S w Kn φ x (aL.getD i undef)):CR S w Kn φ cs aL.toList:=by
 refine⟨by simpa using h1,fun i x y hx hy=>?_⟩;have:=h2 i x hx;rw[aZ]at hy;have e1:aL.getD i undef=y:=by simp[hy]
 rwa[e1]at this
theorem nC{b o n:Nat}{aL:Array Value}{vs:List Value}(ho:m8 w b aL)(hn:vs.length=n):
  m8 (w.setRow b (aL.toList.take o++vs++aL.toList.drop (o+n)).toArray) b (aU aL.toList o vs).toArray/\
  (∀c,c≠b->(w.setRow b (aL.toList.take o++vs++aL.toList.drop (o+n)).toArray).heap[c]?=w.heap[c]?)/\
  (w.setRow b (aL.toList.take o++vs++aL.toList.drop (o+n)).toArray).heap.size=w.heap.size/\
  (∀a,(w.setRow b (aL.toList.take o++vs++aL.toList.drop (o+n)).toArray).frozen? a=w.frozen? a)/\
  (o+n<=aL.size->∀arr1,m8 w b arr1->∃arr',m8 (w.setRow b (aL.toList.take o++vs++aL.toList.drop (o+n)).toArray) b arr'/\arr'.size=arr1.size):=by
 rw[PZ hn];refine⟨yv ho,fun c hc=>setRow_other w b c _ hc,by simp,z_ ho,fun hle arr1 h1=>⟨_,yv ho,?_⟩⟩;obtain⟨t1,h1⟩:=h1;obtain⟨t2,h2⟩:=ho;rw[h1]at h2;obtain rfl:arr1=aL:=by simp at h2;exact h2.1
 simp only[cR];rw[eN _ _ _ (by simp;omega)];simp
theorem Inv.Cn{hf hf':Nat->Option Ob}{S':Nat->Prop}{w':World}(_:Inv S K w0 Kn φ hf w)(hs:gV S w S' w')(hI:Inv S' K w0 Kn φ hf' w'){u:fx}{n:Nat}(he:hf'=bk u hf):
  li S K w0 w Kn φ hf n n (.iN []) u undef w':=
 ⟨au _,S',φ,hs,tu _ _,.iN rfl (fun i x hi=>by simp at hi),he▸hI.kn fun _ h=>.inl h⟩
theorem CU{sz aQ di off:Nat}{ao:List (List D)}{r ds:List D}{aL:Array Value}{vs:List Value}(h:cS S w sz (fun i=>aL[i]?) aQ ao)(hrow:ao[di]?=some r)
  (hfit:off+ds.length<=r.length) (hl:ds.length=vs.length) (hd:∀(i:Nat)(x:D),ds[i]?=some x->∃y,vs[i]?=some y/\RD S w x y) (hsz:aQ+ao.length*sz<=aL.size):
  cS S w sz (fun i=>(aU aL.toList (aQ+di*sz+off) vs).toArray[i]?) aQ (ao.set di (aU r off ds)):=by
 have hrl:=h.1 di r hrow;have hlt:di<ao.length:=(ak.1 hrow).1;have hmul:(di+1)*sz<=ao.length*sz:=aI _ (by omega);rw[dL]at hmul;have hget:∀k,(aU aL.toList (aQ+di*sz+off) vs).toArray[k]?=if k<aQ+di*sz+off then aL[k]?else if k<aQ+di*sz+off+vs.length then vs[k-(aQ+di*sz+off)]?else aL[k]?:=by intro k;rw[<-aZ];show(aU aL.toList _ vs)[k]?=_;rw[jx _ _ _ (by simp;omega)];simp only[aZ]
 have hsetr:∀i q,(ao.set di (aU r off ds))[i]?=some q->(i=di/\q=aU r off ds)\/(i≠di/\ao[i]?=some q):=by
  intro i q hi;by_cases e1:i=di
  .subst e1;rw[km hlt]at hi;exact .inl ⟨rfl,(aa hi).symm⟩
  .rw [List.getElem?_set_ne (fun e=>e1 e.symm)]at hi;exact .inr ⟨e1,hi⟩
 refine⟨fun i q hi=>?_,fun i q hi j z hj=>?_⟩
 .rcases hsetr i q hi with⟨rfl,rfl⟩|⟨_,h1⟩
  .rw [eN _ _ _ hfit];exact hrl
  .exact h.1 i q h1
 .simp only[hget];rcases hsetr i q hi with⟨rfl,rfl⟩|⟨hne,h1⟩
  .rw [jx _ _ _ hfit]at hj;by_cases c1:j<off
   .rw [if_pos c1]at hj;rw[if_pos (by omega)];exact h.2 i r hrow j z hj
   .rw [if_neg c1]at hj;by_cases c2:j<off+ds.length
    .rw [if_pos c2]at hj;obtain⟨y,hy,hr⟩:=hd _ z hj;rw[if_neg (by omega),if_pos (by omega)];refine⟨y,?_,hr⟩;rw[<-hy];congr 1;omega
    .rw [if_neg c2]at hj;rw[if_neg (by omega),if_neg (by omega)];exact h.2 i r hrow j z hj
  .have hjl:j<sz:=by rw[<-h.1 i q h1];exact(ak.1 hj).1
   have hout:aQ+i*sz+j<aQ+di*sz+off\/aQ+di*sz+off+vs.length<=aQ+i*sz+j:=by
    rcases Nat.lt_or_gt_of_ne hne with hlt2|hgt
    .have:(i+1)*sz<=di*sz:=aI _ (by omega);rw[dL]at this;omega
    .have:(di+1)*sz<=i*sz:=aI _ (by omega);rw[dL]at this;omega
   rcases hout with c|c
   .rw [if_pos c];exact h.2 i q h1 j z hj
   .rw [if_neg (by omega),if_neg (by omega)];exact h.2 i q h1 j z hj
theorem Nm{α:Type}{l:List α}{o:Nat}{v:α}(h:o<l.length):aU l o [v]=l.set o v:=by rw[List.set_eq_take_append_cons_drop,if_pos h];simp[aU]
theorem NF{id di sz:Nat}{slots:List kT}{cs:List C}{vs:List Value}{u:fx}{aA:List Nat}{aL:Array Value}(hI:Inv S K w0 Kn φ (aB H) w)(hob:aB H id=some (.nst sz slots))(hrow:di<slots.length)
  (hcr:CR S w Kn φ cs vs) (hlen:cs.length=1) (hown:m8 w (φ id).bU aL) (hfit:(φ id).aQ+di<aL.size) (h:rB id di sz slots cs H=some (u,aA)):
  gV S w S (w.setRow (φ id).bU (aL.toList.take ((φ id).aQ+di)++vs++aL.toList.drop ((φ id).aQ+di+1)).toArray)/\
   Inv S K w0 Kn φ (bk u (aB H)) (w.setRow (φ id).bU (aL.toList.take ((φ id).aQ+di)++vs++aL.toList.drop ((φ id).aQ+di+1)).toArray):=by
 have hvl:vs.length=1:=by rw[<-hcr.1];exact hlen
 obtain⟨p1,p2,p3,p4,_⟩:=nC (w:=w) (b:=(φ id).bU) (o:=(φ id).aQ+di) (n:=1) (vs:=vs) hown hvl;have hio:Io w (w.setRow (φ id).bU (aL.toList.take ((φ id).aQ+di)++vs++aL.toList.drop ((φ id).aQ+di+1)).toArray):=⟨rfl,rfl,rfl,au _⟩
 generalize w.setRow (φ id).bU (aL.toList.take ((φ id).aQ+di)++vs++aL.toList.drop ((φ id).aQ+di+1)).toArray=w' at*
 obtain⟨x,rfl⟩:∃x,vs=[x]:=by
  match vs,hvl with|[x],_=>exact⟨x,rfl⟩
 rw[Nm (by simpa using hfit)]at p1
 have key:∀s',(gV S w S w'->zy S K w' Kn φ sz s' x)->(∀ao,s'≠.bq ao)->gV S w S w'/\Inv S K w0 Kn φ (bk [(id,some (.nst sz (slots.set di s')))] (aB H)) w':=fun s' h1 h2=>
  hI.TG hob hown p1 (by simp) p2 p3 p4 hio (fun i hi=>by
   rw[cO,List.getElem?_set_ne (by omega),aZ]) (fun _=>by
   rw[cO,km (by simpa using hfit)]) h1 h2
 unfold rB at h;split at h
 .obtain ⟨rfl,rfl⟩:[(id,some (Ob.nst sz (slots.set di .nil)))]=u/\[id]=aA:=by simpa using h
  have hx:=hcr.2 0 _ x rfl rfl;cases hx with
  |d hd=>cases hd with|lit _=>exact key .nil (fun _=>.nil) (fun _ e=>by cases e)
 .rename_i sz' id2 len;split at h
  .rename_i sz2 ao h2;split at h
   .rename_i hc;obtain⟨rfl,rfl,hne⟩:=hc;obtain⟨rfl,rfl⟩:[(id,some (Ob.nst sz' (slots.set di (.bq ao)))),(id2,none)]=u/\[id,id2]=aA:=by simpa using h
    obtain⟨q1,q2⟩:=key (.dX id2 ao.length) (fun hs=>.dX ((hcr.2 0 _ x rfl rfl).mono hs (Ren.refl _ _))) (fun _ e=>by cases e);refine⟨q1,?_⟩;have e1:bk [(id,some (Ob.nst sz' (slots.set di (.dX id2 ao.length))))] (aB H) id=some (.nst sz' (slots.set di (.dX id2 ao.length))):=by rw[bQ,if_pos rfl]
    have e2:bk [(id,some (Ob.nst sz' (slots.set di (.dX id2 ao.length))))] (aB H) id2=some (.aL sz2 ao):=by rw[bQ,if_neg (fun e=>hne e.symm),fF,h2]
    have q3:=q2.MO e1 (km hrow) e2;rw[List.set_set]at q3
    have e3:bk [(id,some (Ob.nst sz' (slots.set di (.bq ao)))),(id2,none)] (bk [(id,some (Ob.nst sz' (slots.set di (.dX id2 ao.length))))] (aB H))=bk [(id,some (Ob.nst sz' (slots.set di (.bq ao)))),(id2,none)] (aB H):=by
     funext j;simp only[bQ,fF];by_cases e:id=j
     .rw [if_pos e,if_pos e]
     .rw [if_neg e,if_neg e,if_neg e]
    rw[e3]at q3;exact q3
   .simp at h
  .simp at h
 .simp at h
theorem Ky{t:TypeId}{n:Nat}{a x:Operand}(ho:o.op=.store t a x)(hs:fG P t=some n)(hI:Inv S K w0 Kn φ (aB H) w)
  {ta tx:Option TV} (ha:∀y,ta=some y->gf S w Kn φ y (ρ a)) (hx:∀y,tx=some y->gf S w Kn φ y (ρ x))
  (h:cN call (.store n) [ta,tx] H nxt=some (v,u,aA,n')):dF P o ρ S K w0 w Kn φ (aB H) nxt n' v u:=by
 match ta,tx,h,ha,hx with
 |some (.c p),some tv,h,ha,hx=>
  change (match mb n p tv H with|some (u,aA)=>some (TV.iN [],u,aA,nxt)|none=>none)=_ at h;split at h
  .rename_i u' ids' eI;obtain⟨rfl,rfl,rfl,rfl⟩:TV.iN []=v/\u'=u/\ids'=aA/\nxt=n':=by simpa using h
   unfold mb at eI;split at eI
   .simp at eI
   .rename_i cs hcs;split at eI
    .rename_i hlen;have hcr:=(hx _ rfl).cr hcs;obtain⟨_,_,hone⟩:=(hx _ rfl).cells hcs;have hvl:(ρ x).cells.size=n:=by have:=hcr.1;simp at this;omega
     have hr:=ha _ rfl;generalize hv0:ρ a=val at hr
     have run:∀b off aL,val=.pointer (some ⟨b,off,none⟩)->m8 w b aL->off+n<=aL.size->
       (execOp ρ o).run P w=.ok .skip (w.setRow b (aL.toList.take off++(ρ x).cells.toList++aL.toList.drop (off+n)).toArray):=by
      intro b off aL hv hown hfit;simp[execOp,ho,hv0,hv,Instr.storeAt,Instr.sureAddr,Nu hs hown hvl hfit hone]
     cases hr with
     |c hr=>
     split at eI
     .rename_i id di off;split at eI
      .rename_i sz ao hob;split at eI
       .rename_i r ds ids1 hrow hvw;split at eI
        .rename_i u1 hfz;split at eI
         .rename_i hb;obtain⟨hb1,hb2⟩:=hb;obtain⟨rfl,rfl⟩:(id,some (Ob.aL sz (ao.set di (aU r off ds))))::u1=u'/\id::ids1=ids':=by simpa using eI
          have hnm:id∉ids1:=by simpa using hb2
          obtain⟨hdl,hds⟩:=qX hI cs ds ids1 hvw (fun i=>(ρ x).cells.toList[i]?) (fun i c hi=>by
           have hlt:i<(ρ x).cells.toList.length:=by rw[<-hcr.1];exact(ak.1 hi).1
           exact⟨_,av hlt,hcr.2 i c _ hi (av hlt)⟩)
          have hI1:=hI.F3 hfz;have hob1:bk u1 (aB H) id=some (.aL sz ao):=by simp only[bk,(lc ids1 u1 hfz id).2 hnm,hob]
          obtain⟨hk,h0⟩:=hI1.iL _ _ hob1;generalize hphi:φ id=l at*;cases h0 with
          |@aL _ _ aL hsz hl hS hK hown hext hfit hrr hvis=>
           cases hr with
           |ep hk'=>
            rw[hphi]at run;subst hl;have hrl:=hrr.1 di r hrow;have hrowlt:di<ao.length:=(ak.1 hrow).1;have hmul:(di+1)*l.sz<=ao.length*l.sz:=aI _ (by omega);rw[dL]at hmul;have hfit2:l.aQ+di*l.sz+off+n<=aL.size:=by rw[hext];omega
            obtain⟨p1,p2,p3,p4,p5⟩:=nC (w:=w) (b:=l.bU) (o:=l.aQ+di*l.sz+off) (n:=n) (vs:=(ρ x).cells.toList) hown (by simpa using hvl);have hset:=hI1.set (o':=.aL l.sz (ao.set di (aU r off ds))) hob1 rfl (by rw[hphi];exact p2) p3 p4 (by rw[hphi];exact p5 hfit2) ⟨rfl,rfl,rfl,au _⟩ (fun eI=>by rw[hphi];have h5:=(CU (off:=off) (vs:=(ρ x).cells.toList) hrr hrow (by omega) (by rw[hdl];exact hcr.1) hds (by omega)).mono eI;exact .aL hsz rfl hS hK p1 (by simp only[cR];rw[eN _ _ _ (by simp;omega)];simpa using hext) (by simpa using hfit) h5 (by simpa using hvis));refine⟨.skip,undef,_,run _ _ _ rfl hown hfit2,.inr ⟨rfl,rfl⟩,hI.Cn ((SB.um ids1).trans hset.1) hset.2 ?_⟩;rw[<-ei];rfl
         .simp at eI
        .simp at eI
       .simp at eI
      .rename_i sz slots hob;split at eI
       .rename_i hc;obtain⟨rfl,rfl,hrow⟩:=hc;obtain⟨hk,h0⟩:=hI.iL _ _ hob;cases h0 with
        |@nst _ _ aL hsz hl hS hK hown hext hfit hrr hvis=>cases hr with|ep hk'=>obtain⟨q1,q2⟩:=NF hI hob hrow hcr hlen hown (by omega) eI;have hrun:=run (φ id).bU ((φ id).aQ+di*(φ id).sz+0) aL rfl hown (by rw[hl];omega);rw[hl,lj,dM]at hrun;refine⟨.skip,undef,_,hrun,.inr ⟨rfl,rfl⟩,hI.Cn q1 q2 rfl⟩
       .simp at eI
      .simp at eI
     .rename_i id off;split at eI
      .rename_i cells hob;split at eI
       .rename_i hb;obtain⟨rfl,rfl⟩:[(id,some (Ob.box (aU cells off cs)))]=u'/\[id]=ids':=by simpa using eI
        obtain⟨hk,h0⟩:=hI.iL _ _ hob;generalize hphi:φ id=l at*;cases h0 with
        |@box _ aL hbase hS hK hown hlen2 hrr=>cases hr with|op hk'=>rw[hphi,hbase,bK]at run;obtain⟨p1,p2,p3,p4,p5⟩:=nC (w:=w) (b:=l.bU) (o:=off) (n:=n) (vs:=(ρ x).cells.toList) hown (by simpa using hvl);have hset:=hI.set (o':=.box (aU cells off cs)) hob rfl (by rw[hphi];exact p2) p3 p4 (by rw[hphi];exact p5 (by omega)) ⟨rfl,rfl,rfl,au _⟩ (fun eI=>by rw[hphi];have h5:=((Q6 hlen2 hrr).aU hcr off (by omega)).mono eI (Ren.refl _ _);obtain⟨h6,h7⟩:=B6 (aL:=(aU aL.toList off (ρ x).cells.toList).toArray) (by rw[List.toList_toArray];exact h5);exact .box hbase hS hK p1 h6 h7);exact⟨.skip,undef,_,run _ _ _ rfl hown (by omega),.inr ⟨rfl,rfl⟩,hI.Cn hset.1 hset.2 rfl⟩
       .simp at eI
      .simp at eI
     .simp at eI
    .simp at eI
  .simp at h
end
section
variable{P:Program}{S K:Nat->Prop}{w0 w:World}{Kn:Nat->Prop}{φ:Nat->gF}{H:bF}{e:jJ}{ρ:Operand->Value}{o:Oper}{call:Call}
 {nxt n':Nat} {v:TV} {u:fx} {aA:List Nat}
theorem qD{sz b addr:Nat}{ao:List (List D)}(hsz:0<sz)(h:cS S w sz (fun i=>w.cell? ⟨b,i,none⟩) addr ao):
  ∃aL,(∀w':World,w'.heap=w.heap->(loadCells ⟨b,addr,none⟩ (ao.length*sz)).run P w'=.ok aL w')/\aL.size=ao.length*sz/\cS S w sz (fun i=>aL[i]?) 0 ao/\∀x∈aL.toList,one x=true:=by
 have hcell:∀k,k<ao.length*sz->∃y,w.cell? ⟨b,addr+k,none⟩=some y/\one y=true:=by
  intro k hk;have h1:k/sz<ao.length:=Nat.div_lt_of_lt_mul (by rw[ju];exact hk);have h2:=h.1 (k/sz) ao[k/sz] (av h1);have h3:k %sz<ao[k/sz].length:=by rw[h2];exact Nat.mod_lt _ hsz
  obtain⟨y,hy,hr⟩:=h.2 (k/sz) ao[k/sz] (av h1) (k %sz) _ (av h3);refine⟨y,?_,hr.one⟩;rw[<-hy];have:=Nat.div_add_mod k sz;rw[ju]at this;show w.cell? ⟨b,addr+k,none⟩=w.cell? ⟨b,addr+k/sz*sz+k %sz,none⟩;congr 2;omega
 refine⟨((aK (ao.length*sz)).map fun j=>(w.cell? ⟨b,addr+j,none⟩).getD undef).toArray,fun w' hw=>run_loadCells w' ⟨b,addr,none⟩ _ (fun j=>(w.cell? ⟨b,addr+j,none⟩).getD undef) fun j hj=>?_,by simp,
  ⟨h.1,fun i r hi j x hj=>?_⟩,fun x hx=>?_⟩
 .obtain ⟨y,hy,_⟩:=hcell j hj;have:w'.cell? ⟨b,addr+j,none⟩=w.cell? ⟨b,addr+j,none⟩:=by unfold World.cell?;rw[hw]
  rw[pF,this,hy];rfl
 .obtain ⟨y,hy,hr⟩:=h.2 i r hi j x hj;refine⟨y,?_,hr⟩;have hil:i<ao.length:=(ak.1 hi).1;have hjl:j<sz:=by rw[<-h.1 i r hi];exact(ak.1 hj).1
  have hm:(i+1)*sz<=ao.length*sz:=aI _ hil;rw[dL]at hm;simp only at hy;have hlt:0+i*sz+j<ao.length*sz:=by omega
  have e1:addr+(0+i*sz+j)=addr+i*sz+j:=by omega
  show(((aK (ao.length*sz)).map fun j=>(w.cell? ⟨b,addr+j,none⟩).getD undef).toArray)[0+i*sz+j]?=some y;rw[<-aZ,aG,jP hlt];simp only[bL,e1,hy,fC]
 .simp only[b_,List.mem_range]at hx;obtain⟨k,hk,rfl⟩:=hx;obtain⟨y,hy,h1⟩:=hcell k hk;rw[hy];exact h1
def MX(P:Program)(S:Nat->Prop)(w:World)(sz:Nat)(xv:Value)(new:List (List D))(aL:Array Value):Prop:=
 (∀w':World,w'.heap=w.heap->(Builtin.lenOf xv).run P w'=.ok new.length w'/\(Builtin.firstCells sz new.length xv).run P w'=.ok aL w')/\
 aL.size=new.length*sz/\cS S w sz (fun i=>aL[i]?) 0 new/\∀x∈aL.toList,one x=true
theorem A1{sz b addr len cap:Nat}{new:List (List D)}(hsz:0<sz)(hl:new.length=len)(h:cS S w sz (fun i=>w.cell? ⟨b,i,none⟩) addr new):
  ∃aL,MX P S w sz (.slice (some ⟨b,addr,none⟩) len cap) new aL:=by
 subst hl;obtain⟨aL,h1,h2,h3,h4⟩:=qD (P:=P) hsz h;exact⟨aL,fun w' hw=>⟨rfl,h1 w' hw⟩,h2,h3,h4⟩
theorem E7{sz:Nat}{x:C}{xv:Value}{new:List (List D)}(hsz:0<sz)(hI:Inv S K w0 Kn φ (aB H) w)(hr:RC S w Kn φ x xv)(h:jb sz H x=some (new,aA)):
  ∃aL,MX P S w sz xv new aL:=by
 unfold jb at h;split at h
 .obtain ⟨rfl,rfl⟩:[]=new/\[]=aA:=by simpa using h
  cases hr with
  |d hd=>cases hd with|lit hp=>exact⟨#[],fun w' _=>⟨rfl,rfl⟩,by simp,⟨fun i r hi=>by simp at hi,fun i r hi=>by simp at hi⟩,fun x hx=>by simp at hx⟩
 .rename_i sz' ao;split at h
  .rename_i e1;subst e1;obtain⟨rfl,rfl⟩:ao=new/\[]=aA:=by simpa using h
   cases hr with
   |d hd=>cases hd with
    |sl f hb hsz0 hcap hrow hcell hrd=>exact A1 hsz rfl ⟨hrow,fun i r hi j x hj=>⟨_,hcell i r hi j x hj,hrd i r hi j x hj⟩⟩
    |tg hsz0=>exact⟨#[],fun w' _=>⟨rfl,by
      have h0:([]:List (List D)).length*sz'=0:=by simp
      simp only[Builtin.firstCells,h0];rfl⟩,by simp,⟨fun i r hi=>by simp at hi,fun i r hi=>by simp at hi⟩,fun x hx=>by simp at hx⟩
  .simp at h
 .rename_i sz' id off len
  have key:∀szo ao,(aB H id=some (.aL szo ao)\/aB H id=some (.py szo ao))->(if sz'=sz/\off+len<=ao.length then some ((ao.drop off).take len,[id])else none)=some (new,aA)->
    ∃aL,MX P S w sz xv new aL:=by
   intro szo ao ho hq;split at hq
   .rename_i hb;obtain⟨e1,hle⟩:=hb;subst e1;obtain⟨rfl,rfl⟩:=ad (aa hq);obtain⟨hsz1,hl,hR⟩:=nz hI ho;subst hl;cases hr with|fh hk hcap haddr hext=>exact A1 hsz1 (by simp;omega) (hR.xd off len fun h=>haddr (by omega))
   .simp at hq
  split at h
  .exact key _ _ (.inl (by assumption)) h
  .exact key _ _ (.inr (by assumption)) h
  .simp at h
 .simp at h
theorem Oc(need:Nat)(c:Nat):Builtin.growBy need 4 c<=3*c+3072:=by
 simp only[Builtin.growBy]
 repeat' split
 all_goals omega
theorem KK{need cap:Nat}(h1:need<=2147483648)(h2:cap<need):Builtin.nextslicecap need cap<=6442454016:=by
 unfold Builtin.nextslicecap;split
 .omega
 .split
  .omega
  .have:=Oc need cap;omega
theorem Inv.O5{hf:Nat->Option Ob}{w':World}{b:Nat}(h:Inv S K w0 Kn φ hf w)(hS:¬S b)(hK:¬K b)(hfree:∀i o,hf i=some o->cT o=true->b∉ip w φ hf i)
  (hother:∀c,c≠b->w'.heap[c]?=w.heap[c]?) (hsize:w'.heap.size=w.heap.size) (hfrz:∀a,w'.frozen? a=w.frozen? a)
  (hsz:∀aL,m8 w b aL->∃arr',m8 w' b arr'/\arr'.size=aL.size) (hio:Io w w'):gV S w S w'/\Inv S K w0 Kn φ hf w':=by
 have hs:gV S w S w':=⟨fun _ h=>h,fun c hc=>hother c (fun e=>hS (e▸hc))⟩
 refine⟨hs,h.kE hs (Ren.refl _ _) (fun c hc=>hsize▸h.uO c hc) h.sk ⟨h.ng.FO,fun c hc=>(hother c (fun e=>hK (e▸hc))).trans (h.ng.mQ c hc),hsize▸h.ng.grow,fun a ha=>(hfrz a).trans (h.ng.AS a ha),h.ng.yu hother hsz,h.ng.io.trans hio⟩ ?_ h.eJ fun id sz sl hi=>⟨hi,hother _ fun e=>hfree id _ hi rfl (e▸kO id),fun k x hp=>⟨hother x fun e=>hfree id _ hi rfl (dQ.2 (.inr ⟨sz,sl,k,hi,e▸hp⟩)),(h.Ig hi hp).1,(h.wT id sz sl k x hi hp).1⟩⟩⟩;intro id o ho;exact .inl ⟨ho,fun hown=>⟨hother _ fun e=>hfree id o ho hown (e▸kO id),((h.iL id o ho).2.bq hown).1⟩⟩
theorem Bc{w':World}{hf:Nat->Option Ob}{i:Nat}(h:w'.heap[(φ i).bU]?=w.heap[(φ i).bU]?):ip w' φ hf i=ip w φ hf i:=by
 have key:∀(l:gF),w'.heap[l.bU]?=w.heap[l.bU]?->∀(sl:List kT)(k:Nat),rk w' l sl k=rk w l sl k:=by
  intro l hl sl;induction sl with
  |nil=>intro k;rfl
  |cons s sl ih=>intro k;cases s with|bq ao=>simp only[rk,ih,mq hl]|_=>exact ih (k+1)
 unfold ip;congr 1;split
 .exact key _ h _ _
 .rfl
theorem pU{sz aQ:Nat}{a b:List (List D)}{get:Nat->Option Value}(h1:cS S w sz get aQ a)(h2:cS S w sz get (aQ+a.length*sz) b):cS S w sz get aQ (a++b):=by
 have key:∀(i:Nat)(r:List D),(a++b)[i]?=some r->a[i]?=some r\/(a.length<=i/\b[i-a.length]?=some r):=by
  intro i r hi;by_cases hc:i<a.length
  .rw [List.getElem?_append_left hc]at hi;exact .inl hi
  .rw [List.getElem?_append_right (by omega)]at hi;exact .inr ⟨by omega,hi⟩
 refine⟨fun i r hi=>?_,fun i r hi j x hj=>?_⟩
 .rcases key i r hi with h|⟨_,h⟩
  .exact h1.1 i r h
  .exact h2.1 _ r h
 .rcases key i r hi with h|⟨hle,h⟩
  .exact h1.2 i r h j x hj
  .obtain ⟨y,hy,hr⟩:=h2.2 _ r h j x hj;refine⟨y,?_,hr⟩;rw[<-hy];congr 1;have:a.length*sz+(i-a.length)*sz=i*sz:=by rw[<-bN];congr 1;omega
   omega
theorem RC.ke{sz id off len:Nat}{v:Value}(h:RC S w Kn φ (.fh sz id off len) v):∃cap addr,v=.slice (some ⟨(φ id).bU,addr,none⟩) len cap/\(φ id).sz=sz/\Kn id/\len<=cap/\
  (0<cap->addr=(φ id).aQ+off*(φ id).sz)/\addr+cap*(φ id).sz<=(φ id).ext/\off+cap=(φ id).cap:=by
 cases h with|fh hk hcap haddr hext hc=>exact⟨_,_,rfl,rfl,hk,hcap,haddr,hext,hc⟩
theorem Iv{c:Go.Call}{s x:Operand}{st xt el el2:TypeId}{n:Nat}{z:List Value}(ho:o.op=.call c)(hcal:c.callee=.builtin .append)(hargs:c.args= #[s,x])(hts:c.argTypes= #[st,xt])
  (hus:P.underlying st=some (.slice el)) (hux:P.underlying xt=some (.slice el2)) (hsz:fG P el=some (n+1)) (hz:jQ P el=some z) (hzl:z.length=n+1) (hby:o5 P el=true)
  (hI:Inv S K w0 Kn φ (aB H) w) (hn0:nxt<n'->¬Kn nxt) {ta tx:Option TV} (ha:∀y,ta=some y->gf S w Kn φ y (ρ s)) (hx:∀y,tx=some y->gf S w Kn φ y (ρ x))
  (h:cN call (.append (n+1)) [ta,tx] H nxt=some (v,u,aA,n')):dF P o ρ S K w0 w Kn φ (aB H) nxt n' v u:=by
 obtain⟨inf,hinf,hb0,hb1⟩:=sT hby;obtain⟨zv,hzr,hzv,_⟩:=pi hz w
 match ta,tx,h,ha,hx with
 |some (.c sc),some (.c xc),h,ha,hx=>
  change oh (n+1) sc xc H nxt=_ at h;unfold oh at h;split at h
  .simp at h
  .rename_i new ids1 hrx;cases hx _ rfl with
   |c hxr=>
   obtain⟨narr,hel,hns,hnR,hnone⟩:=E7 (P:=P) (sz:=n+1) (dw n) hI hxr hrx;have hinfo:∀w:World,(typeInfo el).run P w=.ok inf w:=fun w=>by simp[typeInfo,hinf]
   have hzr':∀w:World,(zeroValue el).run P w=.ok zv w:=by intro w';simp only[zeroValue,typeInfo,Sem.run_bind,run_program,Result.andThen_ok,hinf,Sem.run_pure]at hzr|-;cases hzz:inf.zero with|none=>rw[hzz]at hzr;simp at hzr|some q=>rw[hzz]at hzr;simp at hzr|-;exact hzr
   have hunx:∀w:World,(underlying xt).run P w=.ok (.slice el2) w:=bY hux
   -- what the model does where there is no iQ
   have grows:∀(aQ:Option Addr)(sLen sCap:Nat)(old:Array Value),ρ s=.slice aQ sLen sCap->sCap<sLen+new.length->sLen+new.length<=2147483648->
     (∀w':World,w'.heap=w.heap->(Builtin.firstCells (n+1) sLen (.slice aQ sLen sCap)).run P w'=.ok old w')->
     ∃newCap,sLen+new.length<=newCap/\(execOp ρ o).run P w=.ok (.value (.slice (some ⟨w.heap.size,0,none⟩) (sLen+new.length) newCap))
      {({w with drawn:=w.drawn+1}:World)with heap:=w.heap.push (.cells (old++narr++Builtin.zeroCells zv.cells (newCap-(sLen+new.length))) el)}:=by
    intro aQ sLen sCap old hs hlt hle hold;refine⟨(Question.appendCap (sLen+new.length) sCap el).cut (w.tape w.drawn (.appendCap (sLen+new.length) sCap el)),by simp[Question.cut],?_⟩;have hcap:¬Builtin.nextslicecap (sLen+new.length) sCap*inf.bytes>2^48:=by have h1:=KK hle hlt;have h2:Builtin.nextslicecap (sLen+new.length) sCap*inf.bytes<=6442454016*16384:=Nat.mul_le_mul h1 hb1;omega
    have hbz:¬inf.bytes=0:=by omega
    have hnle:¬sLen+new.length<=sCap:=by omega
    have ho2:=hold {w with drawn:=w.drawn+1} rfl;have hn2:=(hel {w with drawn:=w.drawn+1} rfl).2;have hl2:=(hel w rfl).1
    simp only[execOp,ho,hcal,resolve,hargs,Sem.run_bind,Sem.run_pure,Result.andThen_ok,invoke,builtin,Builtin.append_,hts,eP,aD,aV,hs,cO,
     c_,fg,bY hus,gZ hsz,hunx,hl2,hnle,if_false,hinfo,hcap,hbz,aS,or_self,and_false,run_choose,Question.forced,run_askRoom,ho2,hn2,hzr',newRow,run_newObj,eK,if_true]
   have room_new:¬Kn nxt->∀(k:Nat)(_:w.drawn<=k)(hf:Nat->Option Ob)(ao:List (List D))(aL:Array Value)(cap:Nat),Inv S K w0 Kn φ hf w->ao.length<=cap->cap*(n+1)<=aL.size->cS S w (n+1) (fun i=>aL[i]?) 0 ao->
     li S K w0 w Kn φ hf nxt (nxt+1) (.c (.fh (n+1) nxt 0 ao.length)) [(nxt,some (.aL (n+1) ao))] (.slice (some ⟨w.heap.size,0,none⟩) ao.length cap)
      {({w with drawn:=k}:World)with heap:=w.heap.push (.cells aL el)}:=by
    intro hn k hk hf ao aL cap hI1 h1 h2 h3;obtain⟨a1,S',φ',a2,a3,a4,a5⟩:=li.aL (hI1.xl k hk) hn el (dw n) h1 h2 (h3.mono (gV.xl S w k));exact⟨a1,S',φ',(gV.xl S w k).trans a2,a3,a4,a5⟩
   have zsize:∀m,(Builtin.zeroCells zv.cells m).size=m*(n+1):=by
    intro m;have:zv.cells.size=n+1:=by rw[<-hzl,<-hzv];simp
    simp[Builtin.zeroCells,this]
   split at h
   .--a nil slice
    split at h
    .rename_i hle;simp only[DG]at hle;obtain⟨hv,_⟩:=(ha _ rfl).lit;cases new with
     |nil=>
      obtain⟨rfl,rfl,rfl,rfl⟩:TV.c (.d (.lit (.slice none 0 0)))=v/\[]=u/\ids1=aA/\nxt=n':=by simpa using h
      refine dF.pure hI ?_ (ha _ rfl);have hl2:=(hel w rfl).1;have hn2:=(hel w rfl).2;simp only[kx]at hl2 hn2
      simp only[execOp,ho,hcal,resolve,hargs,Sem.run_bind,Sem.run_pure,Result.andThen_ok,invoke,builtin,Builtin.append_,hts,eP,aD,aV,hv,cO,
       c_,fg,bY hus,gZ hsz,hunx,hl2,au,if_true,eK,hn2,aS,if_false,dM]
     |cons q new=>
      obtain⟨rfl,rfl,rfl,rfl⟩:TV.c (.fh (n+1) nxt 0 (q::new).length)=v/\[(nxt,some (Ob.aL (n+1) (q::new)))]=u/\ids1=aA/\nxt+1=n':=by simpa using h
      obtain⟨newCap,hnc,hrun⟩:=grows none 0 0 #[] hv (by simp) (by simpa using hle) (fun w' _=>rfl);rw[bK]at hrun hnc;refine⟨.value _,_,_,hrun,.inl rfl,room_new (hn0 (aX _)) _ (bH _) _ _ _ _ hI hnc ?_ ?_⟩
      .simp only[ii,hns,zsize,cR,kx];rw[bK,<-bN];exact aI _ (by omega)
      .refine ⟨hnR.1,fun i r hi j x hj=>?_⟩;obtain⟨y,hy,hr⟩:=hnR.2 i r hi j x hj;refine⟨y,?_,hr⟩;have hlt:=(bg.1 hy).1;simp only at hy|-;rw[cE (by simp;omega)];simpa using hy
    .simp at h
   .--a slice of one's bq
    rename_i sz' id off len;split at h
    .rename_i szo ao hob;split at h
     .rename_i hb;obtain⟨e1,hle,hlim⟩:=hb;subst e1;simp only[DG]at hlim;obtain⟨rfl,rfl,rfl,rfl⟩:TV.c (.fh (n+1) nxt 0 (len+new.length))=v/\[(id,none),(nxt,some (Ob.aL (n+1) ((ao.drop off).take len++new++ao.drop (off+len+new.length))))]=u/\id::ids1=aA/\nxt+1=n':=by simpa using h
      have hn:=hn0 (aX _);have hr:=ha _ rfl;generalize hv0:ρ s=val at hr;cases hr with
      |c hr=>
      have hlen:((ao.drop off).take len).length=len:=by simp;omega
      have hlen2:((ao.drop off).take len++new).length=len+new.length:=by simp;omega
      have hku:∀hf:Nat->Option Ob,bk [(id,none),(nxt,some (Ob.aL (n+1) ((ao.drop off).take len++new++ao.drop (off+len+new.length))))] hf=bk [(nxt,some (Ob.aL (n+1) ((ao.drop off).take len++new++ao.drop (off+len+new.length))))] (bk [(id,none)] hf):=by intro hf;have hne:id≠nxt:=fun e=>hn (e▸(hI.iL _ _ hob).1);rw[<-ei];exact mu (u:=[(id,none)]) fun p hp q hq=>by obtain rfl:=am.1 hp;obtain rfl:=am.1 hq;exact hne
      have hkill:Inv S K w0 Kn φ (bk [(id,none)] (aB H)) w:=hI.lV fun i o ho=>by
       rw[bQ]at ho;split at ho
       .simp at ho
       .exact ho
      obtain⟨hk0,h0⟩:=hI.iL _ _ hob;generalize hphi:φ id=l at*;cases h0 with
      |@aL _ _ aL hsz0 hl hS hK hown hext hfit hrr hvis=>
      obtain⟨cap,addr,rfl,hszl,hk,hcap,haddr,hextc,hcl⟩:=hr.ke;rw[hphi]at hv0 haddr hextc hszl hcl;have e2:szo=n+1:=by rw[<-hl,hszl]
      subst e2;rw[hl]at haddr hextc;have hR:∀len',len'=len->cS S w (n+1) (fun i=>aL[i]?) addr ((ao.drop off).take len'):=fun len' e=>by subst e;exact hrr.xd off len' fun h=>haddr (by omega)
      have hRc:cS S w (n+1) (fun i=>w.cell? ⟨l.bU,i,none⟩) addr ((ao.drop off).take len):=⟨(hR len rfl).1,fun i r hi j x hj=>let⟨y,hy,hd⟩:=(hR len rfl).2 i r hi j x hj;⟨y,(hown.cell _).trans hy,hd⟩⟩
      by_cases hroom:len+new.length<=cap
      .--there is iQ
       have hl2:=(hel w rfl).1;have hn2:=(hel w rfl).2;have hcm:(len+new.length)*(n+1)<=cap*(n+1):=aI _ hroom;rw[bN]at hcm;obtain⟨ty,hty⟩:=hown;have eI:=run_storeCells_at P l.bU (addr+len*(n+1)) ty narr.toList 0 aL w hty (by simp only[cG,hns];omega) (fun v hv=>by rw[po];exact hnone v hv);simp only[dM,cG,hns]at eI;have hown:m8 w l.bU aL:=⟨ty,hty⟩
       obtain⟨p1,p2,p3,p4,p5⟩:=nC (w:=w) (b:=l.bU) (o:=addr+len*(n+1)) (n:=new.length*(n+1)) (vs:=narr.toList) hown (by simpa using hns);have hio:Io w (w.setRow l.bU (aL.toList.take (addr+len*(n+1))++narr.toList++aL.toList.drop (addr+len*(n+1)+new.length*(n+1))).toArray):=⟨rfl,rfl,rfl,au _⟩
       generalize hw':w.setRow l.bU (aL.toList.take (addr+len*(n+1))++narr.toList++aL.toList.drop (addr+len*(n+1)+new.length*(n+1))).toArray=w' at*
       have hrun:(execOp ρ o).run P w=.ok (.value (.slice (some ⟨l.bU,addr,none⟩) (len+new.length) cap)) w':=by
        simp only[execOp,ho,hcal,resolve,hargs,Sem.run_bind,Sem.run_pure,Result.andThen_ok,invoke,builtin,Builtin.append_,hts,eP,aD,aV,hv0,cO,
         c_,fg,bY hus,gZ hsz,hunx,hl2,hroom,if_true,eK,hn2,aS,if_false,pF,eI]
       have hfree:∀i o,bk [(id,none)] (aB H) i=some o->cT o=true->l.bU∉ip w φ (bk [(id,none)] (aB H)) i:=by
        intro i o hi ho hm;have hi':=hi;rw[bQ]at hi';split at hi'
        .simp at hi'
        .rename_i hne;rw[gx rfl (hi.trans hi'.symm)]at hm;exact nM hI hi' hob ho rfl (fun e=>hne e.symm) hm (by rw[<-hphi];exact kO id)
       obtain⟨hs1,hI1⟩:=hkill.O5 hS hK hfree p2 p3 p4 (p5 (by omega)) hio;have hget:∀k,(aU aL.toList (addr+len*(n+1)) narr.toList).toArray[k]?=if k<addr+len*(n+1)then aL[k]?else if k<addr+len*(n+1)+narr.size then narr[k-(addr+len*(n+1))]?else aL[k]?:=by intro k;rw[<-aZ];show(aU aL.toList _ narr.toList)[k]?=_;rw[jx _ _ _ (by simp only[cG,hns];omega)];simp only[aZ,cG]
       have hrows:cS S w' (n+1) (fun i=>(aU aL.toList (addr+len*(n+1)) narr.toList).toArray[i]?) addr ((ao.drop off).take len++new):=by
        refine pU (cS.mono hs1 ⟨(hR len rfl).1,fun i r hi j x hj=>?_⟩) (cS.mono hs1 ⟨hnR.1,fun i r hi j x hj=>?_⟩)
        .obtain ⟨y,hy,hd⟩:=(hR len rfl).2 i r hi j x hj;refine⟨y,?_,hd⟩;have hil:i<len:=by rw[<-hlen];exact(ak.1 hi).1
         have hjl:j<n+1:=by rw[<-(hR len rfl).1 i r hi];exact(ak.1 hj).1
         have hm:(i+1)*(n+1)<=len*(n+1):=aI _ hil;rw[dL]at hm;show(aU aL.toList (addr+len*(n+1)) narr.toList).toArray[_]?=_;rw[hget,if_pos (by omega)];exact hy
        .obtain ⟨y,hy,hd⟩:=hnR.2 i r hi j x hj;refine⟨y,?_,hd⟩;have hlt:=(bg.1 hy).1;show(aU aL.toList (addr+len*(n+1)) narr.toList).toArray[_]?=_;rw[hlen,hget,if_neg (by omega),if_pos (by omega)];rw[<-hy];show narr[_]?=narr[_]?;congr 1;omega
       have hsz':(aU aL.toList (addr+len*(n+1)) narr.toList).toArray.size=l.ext:=by simp only[cR];rw[eN _ _ _ (by simp only[cG,hns];omega)];simpa using hext
       have hLl:(ao.drop (off+len+new.length)).length=ao.length-(off+len+new.length):=by simp
       have hLR:cS S w (n+1) (fun i=>aL[i]?) (addr+(len+new.length)*(n+1)) (ao.drop (off+len+new.length)):=by
        have h7:=hrr.xd (addr:=addr+(len+new.length)*(n+1)) (off+len+new.length) (ao.length-(off+len+new.length)) fun h=>by have:=haddr (by omega);rw[this,cM off len new.length,bN off (len+new.length)];omega
        rwa[List.take_of_length_le (by rw[hLl];omega)]at h7
       have hrows2:cS S w' (n+1) (fun i=>(aU aL.toList (addr+len*(n+1)) narr.toList).toArray[i]?) addr ((ao.drop off).take len++new++ao.drop (off+len+new.length)):=by refine pU hrows ?_;rw[hlen2];refine cS.mono hs1 ⟨hLR.1,fun i r hi j x hj=>?_⟩;obtain⟨y,hy,hd⟩:=hLR.2 i r hi j x hj;refine⟨y,?_,hd⟩;show(aU aL.toList (addr+len*(n+1)) narr.toList).toArray[_]?=_;rw[hget,if_neg (by rw[bN];omega),if_neg (by rw[hns,bN];omega)];exact hy
       have hlen3:((ao.drop off).take len++new++ao.drop (off+len+new.length)).length<=cap:=by rw[List.length_append,hlen2,hLl];omega
       have hname:=hI1.name hn ⟨l.bU,addr,n+1,l.ext,cap⟩ (.aL (n+1) ((ao.drop off).take len++new++ao.drop (off+len+new.length))) (fun _ j b hj hb hm=>hfree j b hj hb (by rwa[Bc (p2 _ fun e=>hfree j b hj hb (e▸kO j))]at hm))
        (.aL (dw n) rfl hS hK p1 hsz' (by have h8:=aI (n+1) hlen3;simp only;omega) hrows2 hlen3)
       refine⟨.value _,_,_,hrun,.inl rfl,bH _,S,_,hs1,⟨fun _ h=>.inl h,(jK _ hn).eh⟩,.c ?_,(hku (aB H)▸hname).xh fun j=>pw j⟩;have e:ext φ nxt ⟨l.bU,addr,n+1,l.ext,cap⟩ nxt=⟨l.bU,addr,n+1,l.ext,cap⟩:=by simp[ext]
       have:=RC.fh (S:=S) (w:=w') (Kn:=o7 Kn nxt (nxt+1)) (φ:=ext φ nxt ⟨l.bU,addr,n+1,l.ext,cap⟩) (id:=nxt) (off:=0) (len:=len+new.length) (cap:=cap) (addr:=addr)
        (.inr (by omega)) hroom (by rw[e];simp) (by rw[e];exact hextc) (by rw[e];simp)
       rw[e]at this;exact this
      .--there is none
       obtain⟨old,hold,hos,hoR,hoone⟩:=qD (P:=P) (sz:=n+1) (dw n) hRc;rw[hlen]at hold hos;obtain⟨newCap,hnc,hrun⟩:=grows (some ⟨l.bU,addr,none⟩) len cap old hv0 (by omega) hlim (fun w' hw=>hold w' hw);refine⟨.value _,_,_,hrun,.inl rfl,?_⟩
       have hD:=room_new hn (w.drawn+1) (bH _) (bk [(id,none)] (aB H)) ((ao.drop off).take len++new) (old++narr++Builtin.zeroCells zv.cells (newCap-(len+new.length))) newCap hkill (by rw[hlen2];exact hnc)
        (by simp only[ii,hos,hns,zsize];rw[<-bN,<-bN];exact aI _ (by omega))
        (by
         refine pU ⟨hoR.1,fun i r hi j x hj=>?_⟩ ⟨hnR.1,fun i r hi j x hj=>?_⟩
         .obtain ⟨y,hy,hd⟩:=hoR.2 i r hi j x hj;refine⟨y,?_,hd⟩;have hlt:=(bg.1 hy).1;show(old++narr++_)[_]?=_;rw[cE (by rw[ii];omega),cE hlt];exact hy
         .obtain ⟨y,hy,hd⟩:=hnR.2 i r hi j x hj;refine⟨y,?_,hd⟩;have hlt:=(bg.1 hy).1;show(old++narr++_)[_]?=_;rw[hlen,cE (by rw[ii,hos];omega),Array.getElem?_append_right (by rw[hos];omega)];rw[<-hy,hos];show narr[_]?=narr[_]?;congr 1;omega)
       rw[hlen2]at hD;obtain⟨q1,S',φ',q2,q3,q4,q5⟩:=hD;have hL0:ao.drop (off+len+new.length)=[]:=List.drop_eq_nil_of_le (by omega);exact⟨q1,S',φ',q2,q3,q4,by rw[hku,hL0,List.append_nil];exact q5⟩
     .simp at h
    .simp at h
   .simp at h
end
end Go.Ev
