/- The model's operations, one by one, against the abstract machine's. Conditions: the relation of XEvC. -/
import Derived.Test.YthcplpfiidlinaaDoorEvF
open Array renaming getElem?_append_left->cJ,getElem?_eq_some_iff->bi,getElem?_toList->a_,length_toList->cK,size_append->iq
open Bool renaming false_eq_true->aT,not_false->dV,or_eq_true->cM
open List renaming all_eq_true->bd,getD->lP,getElem?_cons_succ->fx,getElem?_cons_zero->de,getElem?_drop->bQ,getElem?_eq_getElem->aw,getElem?_eq_some_iff->ak,getElem?_map->aH,getElem?_range->jW,getElem?_replicate->dF,getElem?_set_self->kx,getElem?_take->eO,getElem?_toArray->cS,length->mR,length_cons->db,length_nil->kF,length_replicate->dh,map_cons->aD,map_nil->aW,map_toArray->eW,mem_map->cj,mem_of_getElem?->aX,mem_singleton->ao,range->aL,replicate->az,size_toArray->cV
open Nat renaming add_assoc->cP,add_mul->bP,add_zero->dT,le_refl->au,le_succ->bH,lt_succ_self->aY,mul_comm->jB,mul_le_mul_right->aI,mul_one->ly,succ_mul->dR,succ_pos->dC,zero_add->bL
open Option renaming getD_some->fK,map_eq_some_iff->aF,map_some->bN
open Option.some renaming inj->aa
open Prod.mk renaming inj->ad
namespace Go.Ev
abbrev AB:=FuncId->Bool×List Bool
def j4(P:Program)(fields:Array Field):List Nat->Option (List (Nat×Nat))
 |[]=>some []
 |i::r=>
  match fields[i]?,j4 P fields r with
  |some f,some l=>match fQ P f.type with|some n=>some ((f.offset,n)::l)|none=>none
  |_,_=>none
def oB:Nat->Value
 |0=>.slice none 0 0
 |1=>.pointer none
 |_=>.nilFunc
def wy:Nat->Operand->Bool
 |0,.const (.slice none 0 0)|1,.const (.pointer none)|2,.const .nilFunc=>true
 |_,_=>false
def P3(P:Program)(g:TypeId->Option (List Kd)):List Field->Nat->Option (List Kd)
 |[],_=>some []
 |f::r,o=>
  if f.offset=o/\f.name≠ "_" then
   match g f.type with|some ks=>if fQ P f.type=some ks.length then(match P3 P g r (o+ks.length)with|some l=>some (ks++l)|none=>none)else none|none=>none
  else none
def zY(P:Program):Nat->TypeId->Option (List Kd)
 |0,_=>none
 |d+1,t=>
  match P.underlying t with
  |some .bool=>if fQ P t=some 1 then some [.b]else none
  |some (.int q)=>if fQ P t=some 1 then some [.i q]else none
  |some .string=>if fQ P t=some 1 then some [.s]else none
  |some (.array n e)=>match zY P d e with|some ks=>if fQ P e=some ks.length/\fQ P t=some (n*ks.length)then some (az n ks).flatten else none|none=>none
  |some (.struct fs)=>match P3 P (zY P d) fs.toList 0 with|some ks=>if P.stoodInHeld t=false/\fQ P t=some ks.length then some ks else none|none=>none
  |_=>none
def E4(P:Program)(t:TypeId):Option Bool:=((P.info? t).bind (·.zero)).map fun|.agg _=>true|_=>false
def yU(P:Program)(k e:TypeId):Option (Bool×List Kd×Bool×List Value):=match fW P k,zY P 8 k,fW P e,jX P e with|some ka,some ks,some va,some z=>if E4 P e=some va then some (ka,ks,va,z)else none|_,_,_,_=>none
def ql(kind:Nat)(neg:Bool)(x y:Operand):K×List Operand:=if wy kind y then(.qY kind neg,[x])else if wy kind x then(.qY kind neg,[y])else(.gx,[])
def HW(P:Program)(op:BinOp)(t:TypeId)(x y:Operand):K×List Operand:=
 match op with
 |.eql|.neq=>
  match P.underlying t with
  |some .bool=>(.uU (op==.neq),[x,y])
  |some (.int _)|some (.float _)|some .string=>(.Ax op,[x,y])
  |some (.slice _)=>ql 0 (op==.neq) x y
  |some (.pointer _)=>ql 1 (op==.neq) x y
  |some (.func _ _ _)=>ql 2 (op==.neq) x y
  |some (.struct _)|some (.array _ _)=>match zY P 8 t with|some ks=>if P.eqGuardType P.depth t=false then(.zx (op==.neq) ks,[x,y])else(.gx,[])|none=>(.gx,[])
  |_=>(.gx,[])
 |op=>(.Ax op,[x,y])
def pk(P:Program)(e:TypeId):Bool:=match P.info? e with|some i=>decide (0<i.bytes)&&decide (i.bytes<=16384)|none=>false
def tj(P:Program)(b:Builtin)(args:List Operand)(ts:List TypeId):K×List Operand:=
 match b,ts with
 |.len,[t]=>match P.underlying t with|some .string=>(.len true,args)|some (.slice _)=>(.len false,args)|_=>(.gx,[])
 |.max,_=>(.uP true,args)
 |.min,_=>(.uP false,args)
 |.append,[s,x]=>
  match P.underlying s,P.underlying x with
  |some (.slice e),some (.slice _)=>match fQ P e,jX P e with|some (n+1),some z=>if pk P e=true/\z.length=n+1 then(.append (n+1),args)else(.gx,[])|_,_=>(.gx,[])
  |some (.slice e),some (.int _)=>match fQ P e,jX P e with|some (n+1),some z=>if pk P e=true/\z.length=n+1 then(.SV z,args)else(.gx,[])|_,_=>(.gx,[])
  |_,_=>(.gx,[])
 |.cap,[t]=>match P.underlying t with|some (.slice _)=>(.MY,args)|_=>(.gx,[])
 |.copy,[d,_]=>
  match P.underlying d with
  |some (.slice e)=>match fQ P e with|some (n+1)=>(.copy (n+1),args)|_=>(.gx,[])
  |_=>(.gx,[])
 |.clear,[s]=>
  match P.underlying s with
  |some (.slice e)=>match fQ P e,jX P e with|some (n+1),some z=>if z.length=n+1 then(.clear z,args)else(.gx,[])|_,_=>(.gx,[])
  |_=>(.gx,[])
 |_,_=>(.gx,[])
def LP(P:Program)(f:FuncId):Bool:=
 match P.funcs[f]?with
 |some fn=>
  !(fn.name== "runtime.NumGoroutine")&&fn.body.isNone&&(Extern.findNext fn).isNone&&(Extern.allGenericRows.lookup fn.name).isNone&&(Extern.allTypedRows.lookup fn.name).isNone&&(Extern.allRows.lookup fn.name).isNone&&fn.origin== "slices.overlaps" &&
  (match fn.params.toList with
   |t::_=>(match P.underlying t with|some (.slice e)=>(match fQ P e with|some (_+1)=>true|_=>false)|_=>false)
   |[]=>false)
 |none=>false
def Gf:List Value->Bool
 |[.slice none 0 0]=>true
 |_=>false
def Pt(P:Program)(df:AB)(e:TypeId)(z:List Value):Option Nat:=if(df 1000000000).1=true/\Gf z=true then(match P.underlying e with|some (.slice ee)=>(match fQ P ee with|some (m+1)=>some (m+1)|_=>none)|_=>none)else none
def Ea(P:Program)(t:TypeId):Bool:=match P.underlying t with|some (.slice _)=>true|_=>false
def xo(P:Program)(df:AB):Op->K×List Operand
 |.move x|.assign x=>(.mv,[x])
 |.pick c a b=>(.pick,[c,a,b])
 |.alloc e=>match jX P e with|some z=>(.alloc z,[])|none=>(.gx,[])
 |.box _ x=>(.box,[x])
 |.build t parts=>
  match P.underlying t,jX P t with
  |some (.struct fields),some z=>match j4 P fields (parts.toList.map (·.1))with|some pl=>if fields.toList.all (fun f=>(fQ P f.type).isSome)then(.build z pl,parts.toList.map (·.2))else(.gx,[])|none=>(.gx,[])
  |some (.array _ e),some z=>match fQ P e with|some n=>(.build z (parts.toList.map fun p=>(p.1*n,n)),parts.toList.map (·.2))|none=>(.gx,[])
  |_,_=>(.gx,[])
 |.buildSlice t len parts=>
  match P.underlying t with
  |some (.slice e)=>match fQ P e,jX P e with|some (n+1),some z=>if len*(n+1)<=4096/\z.length=n+1 then(.buildSlice (n+1) len ((aL (len*(n+1))).map fun i=>z.getD (i %(n+1)) undef) (parts.toList.map (·.1)),parts.toList.map (·.2))else(.gx,[])|_,_=>(.gx,[])
  |_=>(.gx,[])
 |.load t a=>match fW P t,fQ P t with|some g,some n=>(if(df 1000000000).1=true/\Ea P t=true/\g=false/\n=1 then .uj else .load g n,[a])|_,_=>(.gx,[])
 |.store t a x=>match fQ P t with|some n=>(.store n,[a,x])|none=>(.gx,[])
 |.nilCheck x=>(.nilCheck,[x])
 |.binOp op t x y _=>HW P op t x y
 |.unOp op _ x=>(.un op,[x])
 |.convert s d x=>match P.underlying s,P.underlying d with|some (.int _),some (.int k)=>(.vJ k,[x])|some .string,some .string=>(.th,[x])|_,_=>(.gx,[])
 |.makeFunc (.func f) first captured=>if first.isEmpty then(.I8 f,captured.toList)else(.gx,[])
 |.makeSlice t l c=>
  match P.underlying t with
  |some (.slice e)=>match fQ P e,jX P e with|some (n+1),some z=>if z.length=n+1/\pk P e=true then(match Pt P df e z with|some m=>.A3 m|none=>.makeSlice z,[l,c])else(.gx,[])|_,_=>(.gx,[])
  |_=>(.gx,[])
 |.slice t x lo hi none=>
  match P.underlying t with
  |some .string=>(.slice true 1 lo.isSome hi.isSome,x::lo.toList++hi.toList)
  |some (.slice e)=>match fQ P e with|some n=>(.slice false n lo.isSome hi.isSome,x::lo.toList++hi.toList)|none=>(.gx,[])
  |_=>(.gx,[])
 |.slice t x (some l) (some u) (some m)=>
  match P.underlying t with
  |some (.slice e)=>match fQ P e with|some n=>(.BQ n,[x,l,u,m])|none=>(.gx,[])
  |_=>(.gx,[])
 |.fieldAddr s x f=>
  match P.underlying s with
  |some (.struct fields)=>match fields[f]?with|some fl=>(match fQ P fl.type with|some (m+1)=>(.fieldAddr fl.offset (m+1),[x])|_=>(.gx,[]))|none=>(.gx,[])
  |_=>(.gx,[])
 |.field s x f=>
  match P.underlying s with
  |some (.struct fields)=>match fields[f]?with|some fl=>(match fW P fl.type,fQ P fl.type with|some g,some n=>(.field g fl.offset n,[x])|_,_=>(.gx,[]))|none=>(.gx,[])
  |_=>(.gx,[])
 |.indexAddr t x i=>
  match P.underlying t with
  |some (.slice e)=>match fQ P e with|some n=>(.indexAddr none n,[x,i])|none=>(.gx,[])
  |some (.array len e)=>match fQ P e with|some n=>(.indexAddr (some len) n,[x,i])|none=>(.gx,[])
  |_=>(.gx,[])
 |.index t x i=>
  match P.underlying t with
  |some .string=>(.pI,[x,i])
  |some (.array len e)=>match fW P e,fQ P e with|some g,some n=>(.index g len n,[x,i])|_,_=>(.gx,[])
  |_=>(.gx,[])
 |.extract x i=>(.extract i,[x])
 |.makeMap t none=>
  match P.underlying t with
  |some (.map k e)=>match fW P k,fW P e with|some ka,some va=>(.makeMap ka va,[])|_,_=>(.gx,[])
  |_=>(.gx,[])
 |.lookup t x ix ok=>
  match P.underlying t with
  |some (.map k e)=>match yU P k e with|some (ka,ks,va,z)=>(.lookup ka ks va z ok,[x,ix])|none=>(.gx,[])
  |_=>(.gx,[])
 |.mapEntry t m k=>
  match P.underlying t with
  |some (.map kt e)=>match yU P kt e with|some (ka,ks,va,z)=>(.mapEntry ka ks va z,[m,k])|none=>(.gx,[])
  |_=>(.gx,[])
 |.entryStore t m s x=>
  match P.underlying t with
  |some (.map kt e)=>match yU P kt e with|some (_,_,va,z)=>(.entryStore va z.length,[m,s,x])|none=>(.gx,[])
  |_=>(.gx,[])
 |.call c=>match c.callee with|.builtin b=>tj P b c.args.toList c.argTypes.toList|.value (.func f)=>if(df f).2.length=9 then(if LP P f=true then(.Sd,c.args.toList)else(.gx,[]))else(.call (df f).1 (df f).2,.func f::c.args.toList)|.value f=>(.call false [],f::c.args.toList)|.invoke _ _=>(.gx,[])
 |_=>(.gx,[])
section
variable{P:Program}{S K:Nat->Prop}{w0 w:World}{Kn:Nat->Prop}{φ:Nat->gO}{hf:Nat->Option Ob}
def lx(S K:Nat->Prop)(w0 w:World)(Kn:Nat->Prop)(φ:Nat->gO)(hf:Nat->Option Ob)(nxt n':Nat)(v:TV)(u:fF)(val:Value)(w':World):Prop:=nxt<=n'/\∃S' φ',hC S w S' w'/\Ren Kn φ (pn Kn nxt n') φ'/\gr S' w' (pn Kn nxt n') φ' v val/\Inv S' K w0 (pn Kn nxt n') φ' (bm u hf) w'
theorem gr.kn{Kn':Nat->Prop}{c:TV}{v:Value}(h:gr S w Kn φ c v)(hs:∀i,Kn i->Kn' i):gr S w Kn' φ c v:=h.mono (hC.refl _ _) ⟨hs,fun _ _=>rfl⟩
theorem lx.pure{n:Nat}{v:TV}{val:Value}(hI:Inv S K w0 Kn φ hf w)(h:gr S w Kn φ v val):lx S K w0 w Kn φ hf n n v [] val w:=⟨au _,S,φ,hC.refl _ _,tP _ _,h.kn fun _ hi=>.inl hi,hI.kn fun _ hi=>.inl hi⟩
def dK(P:Program)(o:Oper)(ρ:Operand->Value)(S K:Nat->Prop)(w0 w:World)(Kn:Nat->Prop)(φ:Nat->gO)(hf:Nat->Option Ob)(nxt n':Nat)(v:TV)(u:fF):Prop:=∃nx val w',(execOp ρ o).run P w=.ok nx w'/\(nx=.value val\/(nx=.skip/\val=undef))/\lx S K w0 w Kn φ hf nxt n' v u val w'
theorem MF{v:Value}{tv:TV}(h:cv v=some tv):gr S w Kn φ tv v:=by
 unfold cv at h;split at h
 .rename_i cs;split at h
  .rename_i hp;obtain rfl:=aa h;refine .agg (by simp) fun i x hi=>?_;rw[aH]at hi;obtain⟨y,hy,rfl⟩:=aF.1 hi;have hlt:i<cs.size:=by simpa using(ak.1 hy).1
   have e:cs.getD i undef=y:=by rw[a_]at hy;simp[hy]
   rw[e];exact .d (.lit (bd.1 hp y (aX hy)))
  .simp at h
 .split at h
  .rename_i hp;obtain rfl:=aa h;exact .c (.d (.lit hp))
  .simp at h
def jP.ok(S:Nat->Prop)(w:World)(Kn:Nat->Prop)(φ:Nat->gO)(e:jP)(tmps:Array Value):Prop:=∀t x,cA e t=some x->gr S w Kn φ x (tmps.getD t undef)
theorem tQ{e:jP}{a:Act}(hg:u4 S w)(hE:jP.ok S w Kn φ e a.tmps){x:Operand}{tv:TV}(h:kU e x=some tv):gr S w Kn φ tv (a.eval x):=by
 cases x with
 |tmp t=>exact hE t tv h
 |const v=>exact MF h
 |global g=>obtain⟨d,hd,rfl⟩:=aF.1 (show(QO g).map (fun d=>TV.c (.d d))=some tv from h);exact .c (.d (hg g d hd))
 |func f=>
  obtain rfl:TV.c (.d (.fn f []))=tv:=by simpa[kU]using h
  exact .c (.d (.fn rfl fun j x hj=>by simp at hj))
theorem gr.lit{v val:Value}(h:gr S w Kn φ (.c (.d (.lit v))) val):val=v/\eu v=true:=by
 cases h with
 |c h=>cases h with
  |d h=>cases h with|lit h=>exact⟨rfl,h⟩
theorem gr.oN{v:Value}(h:eu v=true):gr S w Kn φ (lv v) v:=.c (.d (.lit h))
theorem KG{op:BinOp}{t:TypeId}{x y v:Value}(h:sx op x y=some v):(binOp op t x y).run P w=.ok v w/\eu v=true/\(∀a b,(eqGuard op t a b x y).run P w=.ok () w):=by
 have hg:∀a b,(match x,y with|.nilIface,.nilIface=>False|.agg _,.agg _=>False|_,_=>True)->(eqGuard op t a b x y).run P w=.ok () w:=by intro a b hxy;unfold eqGuard;cases op<;>simp<;>(cases x<;>cases y<;>simp_all)
 unfold sx at h;split at h
 .rename_i k a k' b;refine(fun⟨h1,h2⟩=>⟨h1,h2,fun a b=>hg a b trivial⟩:(_/\_)->_) ?_;split at h
  .split at h
   .simp at h
   .rename_i hb;obtain rfl:=aa h;simp[binOp,Op.shift,hb,eu]
  .split at h
   .simp at h
   .rename_i hb;obtain rfl:=aa h;simp[binOp,Op.shift,hb,eu]
  .rename_i op hshl hshr;split at h
   .rename_i hk;subst hk
    split at h<;>first
     |(simp at h;done)
     |(split at h
       .simp at h
       .rename_i hb;obtain rfl:=aa h;simp[binOp,Op.intDiv,hb,eu])
     |(obtain rfl:=aa h
       simp[binOp,Op.intArith,Op.intBits,Op.intCmp,eu])
   .simp at h
 .rename_i k a k' b;refine(fun⟨h1,h2⟩=>⟨h1,h2,fun a b=>hg a b trivial⟩:(_/\_)->_) ?_;split at h
  .rename_i hk;subst hk
   split at h<;>first
    |(simp at h;done)
    |(obtain⟨r,hr,rfl⟩:=aF.1 h
      simp[binOp,Op.floatArith,hr,eu])
    |(obtain rfl:=aa h
      simp[binOp,Op.floatCmp,eu])
  .simp at h
 .rename_i x y;refine(fun⟨h1,h2⟩=>⟨h1,h2,fun a b=>hg a b trivial⟩:(_/\_)->_) ?_
  split at h<;>first
   |(simp at h;done)
   |(split at h
     .simp at h
     .rename_i hb;obtain rfl:=aa h;refine⟨?_,rfl⟩;simp only[binOp,Op.stringOp,if_neg hb,Sem.run_pure])
   |(obtain rfl:=aa h
     simp[binOp,Op.stringOp,eu])
 .simp at h
theorem NT{op:UnOp}{x v:Value}(h:S4 op x=some v):(Op.unary op x).run P w=.ok v w/\eu v=true:=by
 unfold S4 at h;split at h
 .split at h
  .obtain rfl:=aa h;simp[Op.unary,eu]
  .simp at h
 .split at h
  .obtain rfl:=aa h;simp[Op.unary,Op.intArith,eu]
  .obtain rfl:=aa h;simp[Op.unary,Op.intBits,eu]
  .simp at h
 .split at h
  .obtain rfl:=aa h;simp[Op.unary,eu]
  .simp at h
 .simp at h
end
section
variable{P:Program}{S K:Nat->Prop}{w0 w:World}{Kn:Nat->Prop}{φ:Nat->gO}{H:bF}{e:jP}{ρ:Operand->Value}{o:Oper}{call:Call}
 {nxt n':Nat} {v:TV} {u:fF} {aA:List Nat}
theorem pH(j:Nat):(Kn j\/j=nxt)<->pn Kn nxt (nxt+1) j:=by
 unfold pn;constructor
 .rintro (h|rfl)
  .exact .inl h
  .exact .inr (by omega)
 .rintro (h|h)
  .exact .inl h
  .exact .inr (by omega)
theorem Hu(hI:Inv S K w0 Kn φ (aB H) w):¬S w.heap.size/\¬K w.heap.size:=⟨fun h=>Nat.lt_irrefl _ (hI.u6 _ h),fun h=>by have:=hI.nB.Gb _ h;have:=hI.nB.grow;omega⟩
theorem lx.box{hf:Nat->Option Ob}(hI:Inv S K w0 Kn φ (aB H) w)(hh:hf=aB H)(hn:¬Kn nxt){cs:List C}{aM:Array Value}(t:TypeId)(hlen:cs.length=aM.size)
  (h:∀(i:Nat)(x:C),cs[i]?=some x->RC S w Kn φ x (aM.getD i undef)):
  lx S K w0 w Kn φ hf nxt (nxt+1) (.c (.op nxt 0)) [(nxt,some (.box cs))] (.pointer (some ⟨w.heap.size,0,none⟩)) {w with heap:=w.heap.push (.cells aM t)}:=by
 subst hh;obtain⟨nS,nK⟩:=Hu hI;have hs:=hC.push (w:=w) hI.u6 (.cells aM t);refine⟨bH _,S,_,hs,⟨fun _ h=>.inl h,(jQ _ hn).eC⟩,.c ?_,(hI.alloc hn aM t 1 0 (.box cs) (.box rfl nS nK (Dx w aM t) hlen fun i x hi=>(h i x hi).mono hs (jQ _ hn))).xA fun j=>pH j⟩;have:=RC.op (S:=S) (w:={w with heap:=w.heap.push (.cells aM t)}) (Kn:=pn Kn nxt (nxt+1)) (φ:=ext φ nxt ⟨w.heap.size,0,1,aM.size,0⟩) (id:=nxt) (off:=0) (.inr (by omega));simpa[ext]using this
theorem lx.aM{hf:Nat->Option Ob}(hI:Inv S K w0 Kn φ hf w)(hn:¬Kn nxt){sz cap:Nat}{aq:List (List D)}{aM:Array Value}(t:TypeId)(hsz:0<sz)
  (hcap:aq.length<=cap) (hfit:cap*sz<=aM.size) (h:cW S w sz (fun i=>aM[i]?) 0 aq):
  lx S K w0 w Kn φ hf nxt (nxt+1) (.c (.fy sz nxt 0 aq.length)) [(nxt,some (.aM sz aq))] (.slice (some ⟨w.heap.size,0,none⟩) aq.length cap) {w with heap:=w.heap.push (.cells aM t)}:=by
 have nS:¬S w.heap.size:=fun h=>Nat.lt_irrefl _ (hI.u6 _ h);have nK:¬K w.heap.size:=fun h=>by have:=hI.nB.Gb _ h;have:=hI.nB.grow;omega
 have hs:=hC.push (w:=w) hI.u6 (.cells aM t);have hrl:aq.length*sz<=cap*sz:=aI _ hcap;refine⟨bH _,S,_,hs,⟨fun _ h=>.inl h,(jQ _ hn).eC⟩,.c ?_,(hI.alloc hn aM t sz cap (.aM sz aq) (.aM hsz rfl nS nK (Dx w aM t) rfl (by simp only;omega) (h.mono hs) hcap)).xA fun j=>pH j⟩;have e:ext φ nxt ⟨w.heap.size,0,sz,aM.size,cap⟩ nxt=⟨w.heap.size,0,sz,aM.size,cap⟩:=by simp[ext]
 have:=RC.fy (S:=S) (w:={w with heap:=w.heap.push (.cells aM t)}) (Kn:=pn Kn nxt (nxt+1)) (φ:=ext φ nxt ⟨w.heap.size,0,sz,aM.size,cap⟩) (id:=nxt) (off:=0) (len:=aq.length) (cap:=cap) (addr:=0)
  (.inr (by omega)) hcap (by rw[e];simp) (by rw[e];simpa using hfit) (by rw[e];simp)
 rw[e]at this;simpa using this
theorem yu(t:TypeId)(val:Value):(newVar t val).run P w=.ok ⟨w.heap.size,0,none⟩ {w with heap:=w.heap.push (.cells val.cells t)}:=by simp[newVar,newRow,newObj,Sem.run]
theorem Lx{z:List Value}{aM:Array Value}(hz:aM.toList=z)(hp:∀x∈z,eu x=true):(fz z).length=aM.size/\∀(i:Nat)(x:C),(fz z)[i]?=some x->RC S w Kn φ x (aM.getD i undef):=by
 subst hz;refine⟨by simp[fz],fun i x hi=>?_⟩;simp only[fz,aH]at hi;obtain⟨y,hy,rfl⟩:=aF.1 hi;have e:aM.getD i undef=y:=by rw[a_]at hy;simp[hy]
 rw[e];exact .d (.lit (hp y (aX hy)))
theorem K7{t:TypeId}{z:List Value}(ho:o.op=.alloc t)(hz:jX P t=some z)(hI:Inv S K w0 Kn φ (aB H) w)(hn0:nxt<n'->¬Kn nxt)
  (h:cQ call (.alloc z) [] H nxt=some (v,u,aA,n')):dK P o ρ S K w0 w Kn φ (aB H) nxt n' v u:=by
 obtain⟨rfl,rfl,rfl,rfl⟩:TV.c (.op nxt 0)=v/\[(nxt,some (.box (fz z)))]=u/\[]=aA/\nxt+1=n':=by simpa[cQ]using h
 have hn:=hn0 (aY _);obtain⟨val,hv,hc,hp⟩:=py hz w;obtain⟨h1,h2⟩:=Lx (S:=S) (w:=w) (Kn:=Kn) (φ:=φ) hc hp;refine⟨.value _,_,_,?_,.inl rfl,lx.box hI rfl hn t h1 h2⟩;simp[execOp,ho,Instr.alloc,hv,yu]
theorem Qp{t:TypeId}{x:Operand}(ho:o.op=.box t x)(hI:Inv S K w0 Kn φ (aB H) w)(hn0:nxt<n'->¬Kn nxt){tv:Option TV}(hx:∀y,tv=some y->gr S w Kn φ y (ρ x))
  (h:cQ call .box [tv] H nxt=some (v,u,aA,n')):dK P o ρ S K w0 w Kn φ (aB H) nxt n' v u:=by
 cases tv with
 |none=>simp[cQ]at h
 |some y=>
  simp only[cQ]at h;split at h
  .rename_i cs hcs;obtain⟨rfl,rfl,rfl,rfl⟩:TV.c (.op nxt 0)=v/\[(nxt,some (.box cs))]=u/\[]=aA/\nxt+1=n':=by simpa using h
   have hn:=hn0 (aY _);obtain⟨h1,h2,_⟩:=(hx y rfl).cells hcs;refine⟨.value _,_,_,?_,.inl rfl,lx.box hI rfl hn t h1 h2⟩;simp[execOp,ho,Instr.box,yu]
  .simp at h
theorem Iy{t:TypeId}{agg:Bool}{n:Nat}(ha:fW P t=some agg)(hs:fQ P t=some n)(hI:Inv S K w0 Kn φ (aB H) w){p:C}{pv:Value}(hp:RC S w Kn φ p pv)(hn0:nxt<n'->¬Kn nxt)
  (h:lI agg n p H nxt=some (v,u,aA,n')):∃val,(Instr.loadAt t pv).run P w=.ok val w/\lx S K w0 w Kn φ (aB H) nxt n' v u val w:=by
 unfold lI at h;split at h
 case h_2=>simp at h
 rename_i id dl;split at h
 case h_2=>simp at h
 rename_i sz slots ho;split at h
 case isFalse=>simp at h
 rename_i hag;obtain⟨rfl,rfl⟩:=hag;obtain⟨hk,hro⟩:=hI.iR id _ ho;have hl:(φ id).sz=1:=by cases hro with|nst hsz hl=>exact hl
 cases hp with
 |ep hk'=>
  have ea:(⟨(φ id).bY,(φ id).aR+dl*(φ id).sz+0,none⟩:Addr)=⟨(φ id).bY,(φ id).aR+dl,none⟩:=by rw[hl,ly,dT]
  rw[ea];split at h
  .rename_i hsl;obtain⟨rfl,rfl,rfl,rfl⟩:TV.c (.d (.lit (.slice none 0 0)))=v/\[]=u/\[id]=aA/\nxt=n':=by simpa using h
   cases hro with
   |nst hsz hl hS hK hown hext hfit hr hv=>
    obtain⟨x,h1,h2⟩:=hr dl _ hsl;cases h2
    obtain⟨val,q1,q2⟩:=wh (S:=S) (Kn:=Kn) (φ:=φ) ha hs (cells:=[.d (.lit (.slice none 0 0))]) (b:=(φ id).bY) (o:=(φ id).aR+dl) (fun j x hj=>by
     cases j with
     |succ j=>simp at hj
     |zero=>
      obtain rfl:C.d (.lit (.slice none 0 0))=x:=by simpa using hj
      exact⟨_,(hown.cell _).trans h1,.d (.lit rfl)⟩) (v:=TV.c (.d (.lit (.slice none 0 0)))) rfl
    exact⟨val,by simp[Instr.loadAt,Instr.sureAddr,q1],lx.pure hI q2⟩
  .rename_i aq hsl;obtain⟨rfl,rfl,rfl,rfl⟩:TV.c (.fy sz nxt 0 aq.length)=v/\[(nxt,some (Ob.aM sz aq)),(id,some (Ob.nst sz (slots.set dl (.eg nxt aq.length))))]=u/\[id]=aA/\nxt+1=n':=by simpa using h
   have hn:=hn0 (aY _);obtain⟨l,x,h1,h2,h3⟩:=hI.split ho hsl hn
   obtain⟨val,q1,q2⟩:=wh (S:=S) (Kn:=fun j=>Kn j\/j=nxt) (φ:=ext φ nxt l) ha hs (cells:=[.fy sz nxt 0 aq.length]) (b:=(φ id).bY) (o:=(φ id).aR+dl) (fun j x' hj=>by
     cases j with
     |succ j=>simp at hj
     |zero=>
      obtain rfl:C.fy sz nxt 0 aq.length=x':=by simpa using hj
      exact⟨x,h1,h2⟩) (v:=TV.c (.fy sz nxt 0 aq.length)) rfl
   refine⟨val,by simp[Instr.loadAt,Instr.sureAddr,q1],bH _,S,ext φ nxt l,hC.refl _ _,⟨fun i hi=>.inl hi,(jQ l hn).eC⟩,q2.kn fun i=>(pH i).1,h3.xA fun i=>pH i⟩
  .simp at h
theorem Hl{t:TypeId}{x:Operand}{agg:Bool}{n:Nat}(ho:o.op=.load t x)(ha:fW P t=some agg)(hs:fQ P t=some n)(hI:Inv S K w0 Kn φ (aB H) w)
  {tv:Option TV} (hx:∀y,tv=some y->gr S w Kn φ y (ρ x)) (h:cQ call (.load agg n) [tv] H nxt=some (v,u,aA,n')):dK P o ρ S K w0 w Kn φ (aB H) nxt n' v u:=by
 cases tv with
 |none=>simp[cQ]at h
 |some y=>
  cases y with
  |c p=>
   change (match ig agg n p H with|some (v,aA)=>some (v,[],aA,nxt)|none=>none)=_ at h;split at h
   .rename_i v' ids' hl;obtain⟨rfl,rfl,rfl,rfl⟩:v'=v/\[]=u/\ids'=aA/\nxt=n':=by simpa using h
    cases hx _ rfl with|c hp=>obtain⟨val,h1,h2⟩:=yy ha hs hI hp hl;refine⟨.value _,_,_,?_,.inl rfl,lx.pure hI h2⟩;simp[execOp,ho,h1]
   .simp at h
  |_=>simp[cQ]at h
theorem K1{t:TypeId}{x:Operand}(ho:o.op=.load t x)(ha:fW P t=some false)(hs:fQ P t=some 1)(hI:Inv S K w0 Kn φ (aB H) w)(hn0:nxt<n'->¬Kn nxt)
  {tv:Option TV} (hx:∀y,tv=some y->gr S w Kn φ y (ρ x)) (h:cQ call .uj [tv] H nxt=some (v,u,aA,n')):dK P o ρ S K w0 w Kn φ (aB H) nxt n' v u:=by
 cases tv with
 |none=>simp[cQ]at h
 |some y=>
  cases y with
  |c p=>
   change (match ig false 1 p H with|some (v,aA)=>some (v,[],aA,nxt)|none=>lI false 1 p H nxt)=_ at h;split at h
   .rename_i v' ids' hl;exact Hl (call:=call) ho ha hs hI (tv:=some (.c p)) hx (by show(match ig false 1 p H with|some (v,aA)=>some (v,[],aA,nxt)|none=>none)=_;rw[hl];exact h)
   .cases hx _ rfl with|c hp=>obtain⟨val,h1,h2⟩:=Iy ha hs hI hp hn0 h;refine⟨.value _,_,_,?_,.inl rfl,h2⟩;simp[execOp,ho,h1]
  |_=>simp[cQ]at h
theorem dK.pure{val:Value}(hI:Inv S K w0 Kn φ (aB H) w)(hr:(execOp ρ o).run P w=.ok (.value val) w)(h:gr S w Kn φ v val):dK P o ρ S K w0 w Kn φ (aB H) nxt nxt v []:=⟨.value val,val,w,hr,.inl rfl,lx.pure hI h⟩
theorem Ps{x:Operand}(ho:o.op=.move x\/o.op=.assign x)(hI:Inv S K w0 Kn φ (aB H) w){tv:Option TV}(hx:∀y,tv=some y->gr S w Kn φ y (ρ x))
  (h:cQ call .mv [tv] H nxt=some (v,u,aA,n')):dK P o ρ S K w0 w Kn φ (aB H) nxt n' v u:=by
 cases tv with
 |none=>simp[cQ]at h
 |some y=>
  obtain⟨rfl,rfl,rfl,rfl⟩:y=v/\[]=u/\[]=aA/\nxt=n':=by simpa[cQ]using h
  refine dK.pure hI ?_ (hx _ rfl);rcases ho with ho|ho<;>simp[execOp,ho]
theorem Od{c x y:Operand}(ho:o.op=.pick c x y)(hI:Inv S K w0 Kn φ (aB H) w){tc tx ty:Option TV}(hc:∀z,tc=some z->gr S w Kn φ z (ρ c))
  (hx:∀z,tx=some z->gr S w Kn φ z (ρ x)) (hy:∀z,ty=some z->gr S w Kn φ z (ρ y))
  (h:cQ call .pick [tc,tx,ty] H nxt=some (v,u,aA,n')):dK P o ρ S K w0 w Kn φ (aB H) nxt n' v u:=by
 match tc,h,hc with
 |some (.c (.d (.lit (.bool b)))),h,hc=>
  change (match(if b then tx else ty)with|some v=>some (v,[],[],nxt)|none=>none)=_ at h;obtain⟨hb,_⟩:=(hc _ rfl).lit;cases b
  .simp only[aT,if_false]at h;cases ty with
   |none=>simp at h
   |some z=>
    obtain⟨rfl,rfl,rfl,rfl⟩:z=v/\[]=u/\[]=aA/\nxt=n':=by simpa using h
    exact dK.pure hI (by simp[execOp,ho,hb,asBool]) (hy _ rfl)
  .simp only[if_true]at h;cases tx with
   |none=>simp at h
   |some z=>
    obtain⟨rfl,rfl,rfl,rfl⟩:z=v/\[]=u/\[]=aA/\nxt=n':=by simpa using h
    exact dK.pure hI (by simp[execOp,ho,hb,asBool]) (hx _ rfl)
theorem DE{x:Operand}(ho:o.op=.nilCheck x)(hI:Inv S K w0 Kn φ (aB H) w){tv:Option TV}(hx:∀y,tv=some y->gr S w Kn φ y (ρ x))
  (h:cQ call .nilCheck [tv] H nxt=some (v,u,aA,n')):dK P o ρ S K w0 w Kn φ (aB H) nxt n' v u:=by
 match tv,h,hx with
 |some (.c c),h,hx=>
  have key:(∃a,ρ x=.pointer (some a))\/(∃g vs,ρ x=.func (.func g) #[] vs)->some (TV.c c,([]:fF),([]:List Nat),nxt)=some (v,u,aA,n')->dK P o ρ S K w0 w Kn φ (aB H) nxt n' v u:=by
   intro hc h;obtain⟨rfl,rfl,rfl,rfl⟩:TV.c c=v/\[]=u/\[]=aA/\nxt=n':=by simpa using h
   refine dK.pure hI ?_ (hx _ rfl);rcases hc with⟨a,hc⟩|⟨g,vs,hc⟩<;>simp[execOp,ho,hc]
  have hr:=hx _ rfl;generalize hv0:ρ x=val at hr;cases hr with
  |c hr=>
   cases hr with
   |d hd=>cases hd with|lit hp=>simp[cQ]at h|sl=>simp[cQ]at h|tK=>simp[cQ]at h|pt f hb=>exact key (.inl ⟨_,hv0⟩) h|fn hl hr=>exact key (.inr ⟨_,_,hv0⟩) h
   |fy=>simp[cQ]at h
   |ep hk=>exact key (.inl ⟨_,hv0⟩) h
   |op hk=>exact key (.inl ⟨_,hv0⟩) h
   |o5 hl hr=>exact key (.inr ⟨_,_,hv0⟩) h
   |om hk=>simp[cQ]at h
theorem Sf{t:TypeId}{op:UnOp}{x:Operand}(ho:o.op=.unOp op t x)(hI:Inv S K w0 Kn φ (aB H) w){tv:Option TV}(hx:∀y,tv=some y->gr S w Kn φ y (ρ x))
  (h:cQ call (.un op) [tv] H nxt=some (v,u,aA,n')):dK P o ρ S K w0 w Kn φ (aB H) nxt n' v u:=by
 match tv,h,hx with
 |some (.c (.d (.lit z))),h,hx=>
  change (match S4 op z with|some v=>some (lv v,[],[],nxt)|none=>none)=_ at h;split at h
  .rename_i r hr;obtain⟨rfl,rfl,rfl,rfl⟩:lv r=v/\[]=u/\[]=aA/\nxt=n':=by simpa using h
   obtain⟨hb,_⟩:=(hx _ rfl).lit;obtain⟨h1,h2⟩:=NT (P:=P) (w:=w) hr;exact dK.pure hI (by simp[execOp,ho,hb,h1]) (.oN h2)
  .simp at h
theorem Qq{t ty:TypeId}{op:BinOp}{x y:Operand}(ho:o.op=.binOp op t x y ty)(hI:Inv S K w0 Kn φ (aB H) w){tx tz:Option TV}(hx:∀z,tx=some z->gr S w Kn φ z (ρ x))
  (hy:∀z,tz=some z->gr S w Kn φ z (ρ y)) (h:cQ call (.Ax op) [tx,tz] H nxt=some (v,u,aA,n')):dK P o ρ S K w0 w Kn φ (aB H) nxt n' v u:=by
 match tx,tz,h,hx,hy with
 |some (.c (.d (.lit a))),some (.c (.d (.lit b))),h,hx,hy=>
  change (match sx op a b with|some v=>some (lv v,[],[],nxt)|none=>none)=_ at h;split at h
  .rename_i r hr;obtain⟨rfl,rfl,rfl,rfl⟩:lv r=v/\[]=u/\[]=aA/\nxt=n':=by simpa using h
   obtain⟨ha,_⟩:=(hx _ rfl).lit;obtain⟨hb,_⟩:=(hy _ rfl).lit;obtain⟨h1,h2,h3⟩:=KG (P:=P) (w:=w) (t:=t) hr;exact dK.pure hI (by simp[execOp,ho,ha,hb,h1,h3]) (.oN h2)
  .simp at h
theorem yz{t:TypeId}(hu:P.underlying t=some .bool)(a b:Bool):(Op.equal t (.bool a) (.bool b)).run P w=.ok (a==b) w:=by show(Op.equalIn (9999+1) t (.bool a) (.bool b)).run P w=_;unfold Op.equalIn;rw[Sem.run_bind,cg hu];rfl
theorem IX{t ty:TypeId}{op:BinOp}{x y:Operand}(ho:o.op=.binOp op t x y ty)(hop:op=.eql\/op=.neq)(hu:P.underlying t=some .bool)(hI:Inv S K w0 Kn φ (aB H) w)
  {tx tz:Option TV} (hx:∀z,tx=some z->gr S w Kn φ z (ρ x)) (hy:∀z,tz=some z->gr S w Kn φ z (ρ y))
  (h:cQ call (.uU (op==.neq)) [tx,tz] H nxt=some (v,u,aA,n')):dK P o ρ S K w0 w Kn φ (aB H) nxt n' v u:=by
 match tx,tz,h,hx,hy with
 |some (.c (.d (.lit (.bool a)))),some (.c (.d (.lit (.bool b)))),h,hx,hy=>
  obtain⟨ha,_⟩:=(hx _ rfl).lit;obtain⟨hb,_⟩:=(hy _ rfl).lit;change some (lv (.bool (if(op==.neq)then !(a==b)else a==b)),([]:fF),([]:List Nat),nxt)=_ at h;obtain⟨rfl,rfl,rfl,rfl⟩:lv (.bool (if(op==.neq)then !(a==b)else a==b))=v/\[]=u/\[]=aA/\nxt=n':=by simpa using h
  refine dK.pure hI ?_ (.oN rfl);rcases hop with rfl|rfl
  .simp [execOp,ho,ha,hb,eqGuard,binOp,yz hu]
  .simp [execOp,ho,ha,hb,eqGuard,binOp,yz hu]
theorem FY{s d:TypeId}{k k':IntKind}{x:Operand}(ho:o.op=.convert s d x)(hs:P.underlying s=some (.int k'))(hd:P.underlying d=some (.int k))(hI:Inv S K w0 Kn φ (aB H) w)
  {tv:Option TV} (hx:∀y,tv=some y->gr S w Kn φ y (ρ x)) (h:cQ call (.vJ k) [tv] H nxt=some (v,u,aA,n')):dK P o ρ S K w0 w Kn φ (aB H) nxt n' v u:=by
 match tv,h,hx with
 |some (.c (.d (.lit (.int k0 n)))),h,hx=>
  obtain⟨ha,_⟩:=(hx _ rfl).lit;obtain⟨rfl,rfl,rfl,rfl⟩:lv (.int k (k.wrap n))=v/\[]=u/\[]=aA/\nxt=n':=by simpa[cQ]using h
  exact dK.pure hI (by simp[execOp,ho,ha,convert,cg hs,cg hd,Conv.intToInt]) (.oN rfl)
theorem DJ{s d:TypeId}{x:Operand}(ho:o.op=.convert s d x)(hs:P.underlying s=some .string)(hd:P.underlying d=some .string)(hI:Inv S K w0 Kn φ (aB H) w)
  {tv:Option TV} (hx:∀y,tv=some y->gr S w Kn φ y (ρ x)) (h:cQ call .th [tv] H nxt=some (v,u,aA,n')):dK P o ρ S K w0 w Kn φ (aB H) nxt n' v u:=by
 match tv,h,hx with
 |some (.c (.d (.lit (.string s0)))),h,hx=>
  obtain⟨ha,_⟩:=(hx _ rfl).lit;obtain⟨rfl,rfl,rfl,rfl⟩:lv (.string s0)=v/\[]=u/\[]=aA/\nxt=n':=by simpa[cQ]using h
  exact dK.pure hI (by simp[execOp,ho,ha,convert,cg hs,cg hd]) (.oN rfl)
theorem FX{x:Operand}{i:Nat}(ho:o.op=.extract x i)(hI:Inv S K w0 Kn φ (aB H) w){tv:Option TV}(hx:∀y,tv=some y->gr S w Kn φ y (ρ x))
  (h:cQ call (.extract i) [tv] H nxt=some (v,u,aA,n')):dK P o ρ S K w0 w Kn φ (aB H) nxt n' v u:=by
 match tv,h,hx with
 |some (.iT xs),h,hx=>
  change (match xs[i]?with|some v=>some (v,[],[],nxt)|none=>none)=_ at h;split at h
  .rename_i y hy;obtain⟨rfl,rfl,rfl,rfl⟩:y=v/\[]=u/\[]=aA/\nxt=n':=by simpa using h
   have hr:=hx _ rfl;generalize hv0:ρ x=val at hr;cases hr with
   |@iT _ aM hlen hr=>
    have hlt:i<aM.size:=by rw[<-hlen];exact(ak.1 hy).1
    refine dK.pure (val:=aM.getD i undef) hI ?_ (hr i y hy);simp[execOp,ho,hv0,Instr.extract,hlt]
  .simp at h
theorem B2{s:TypeId}{f n:Nat}{fields:Array Field}{fl:Field}{x:Operand}(ho:o.op=.fieldAddr s x f)(hu:P.underlying s=some (.struct fields))(hf:fields[f]?=some fl)
  (hs:fQ P fl.type=some (n+1)) (hI:Inv S K w0 Kn φ (aB H) w) {tv:Option TV} (hx:∀y,tv=some y->gr S w Kn φ y (ρ x))
  (h:cQ call (.fieldAddr fl.offset (n+1)) [tv] H nxt=some (v,u,aA,n')):dK P o ρ S K w0 w Kn φ (aB H) nxt n' v u:=by
 match tv,h,hx with
 |some (.c c),h,hx=>
  change (match kj fl.offset (n+1) c with|some y=>some (TV.c y,[],[],nxt)|none=>none)=_ at h;split at h
  .rename_i y hy;obtain⟨rfl,rfl,rfl,rfl⟩:TV.c y=v/\[]=u/\[]=aA/\nxt=n':=by simpa using h
   have run:∀b off,ρ x=.pointer (some ⟨b,off,none⟩)->(execOp ρ o).run P w=.ok (.value (.pointer (some ⟨b,off+fl.offset,none⟩))) w:=by intro b off hv;simp[execOp,ho,hv,Instr.fieldAt,cg hu,hf,Instr.sureAddr,fieldPlace,ic hs,pR]
   have hr:=hx _ rfl;generalize hv0:ρ x=val at hr;cases hr with
   |c hr=>
    cases hr with
    |d hd=>
     cases hd with
     |@pt cells b off g hb hcell hrd=>
      simp only[kj]at hy;split at hy
      .obtain rfl:=aa hy;refine dK.pure hI (run _ _ hv0) (.c (.d (.yG hb fun j z hj=>?_)));rw[eO]at hj;split at hj
       .rw [bQ]at hj;exact⟨_,by rw[cP];exact hcell _ _ hj,hrd _ _ hj⟩
       .simp at hj
      .simp at hy
     |_=>simp[kj]at hy
    |@op id off hk=>
     obtain rfl:C.op id (off+fl.offset)=y:=by simpa[kj]using hy
     refine dK.pure hI (run _ _ hv0) (.c ?_);rw[cP];exact .op hk
    |@ep id dl off hk=>
     obtain rfl:C.ep id dl (off+fl.offset)=y:=by simpa[kj]using hy
     refine dK.pure hI (run _ _ hv0) (.c ?_);rw[cP];exact .ep hk
    |_=>simp[kj]at hy
  .simp at h
theorem K2{str:Bool}{t:TypeId}{x:Operand}{c:Go.Call}(ho:o.op=.call c)(hcal:c.callee=.builtin .len)(hargs:c.args= #[x])(hts:c.argTypes= #[t])
  (hu:if str then P.underlying t=some .string else∃b,P.underlying t=some (.slice b)) (hI:Inv S K w0 Kn φ (aB H) w) {tv:Option TV} (hx:∀y,tv=some y->gr S w Kn φ y (ρ x))
  (h:cQ call (.len str) [tv] H nxt=some (v,u,aA,n')):dK P o ρ S K w0 w Kn φ (aB H) nxt n' v u:=by
 match tv,h,hx with
 |some (.c y),h,hx=>
  change (match uq str y with|some n=>some (lv (.int .i64 n),[],[],nxt)|none=>none)=_ at h;split at h
  .rename_i n hn;obtain⟨rfl,rfl,rfl,rfl⟩:lv (.int .i64 n)=v/\[]=u/\[]=aA/\nxt=n':=by simpa using h
   refine dK.pure hI ?_ (.oN rfl);have hr:=hx _ rfl;generalize hv0:ρ x=val at hr;cases str with
   |true=>
    simp only[if_true]at hu
    match y,hn,hr with
    |.d (.lit (.string s)),hn,hr=>
     obtain⟨rfl,_⟩:=hr.lit;obtain rfl:(s.size:Int)=n:=by simpa[uq]using hn
     simp[execOp,ho,hcal,hargs,hts,resolve,invoke,builtin,hv0,Builtin.len_,cg hu,goInt]
   |false=>
    simp only[aT,if_false]at hu;obtain⟨b,hu⟩:=hu;have hsl:∀a l k,val=.slice a l k->n=(l:Int)->(execOp ρ o).run P w=.ok (.value (.int .i64 n)) w:=by intro a l k e1 e2;simp[execOp,ho,hcal,hargs,hts,resolve,invoke,builtin,hv0,e1,e2,Builtin.len_,cg hu,goInt]
    match y,hn,hr with
    |.d (.lit (.slice none 0 0)),hn,hr=>obtain⟨rfl,_⟩:=hr.lit;exact hsl _ _ _ rfl (by simpa[uq]using hn.symm)
    |.d (.sl sz aq),hn,hr=>
     cases hr with
     |c hr=>cases hr with
      |d hd=>cases hd with|sl=>exact hsl _ _ _ rfl (by simpa[uq]using hn.symm)|tK=>exact hsl _ _ _ rfl (by simpa[uq]using hn.symm)
    |.fy sz id off len,hn,hr=>
     cases hr with
     |c hr=>cases hr with|fy=>exact hsl _ _ _ rfl (by simpa[uq]using hn.symm)
  .simp at h
theorem ru{op:BinOp}(hop:op=.eql\/op=.neq){t:TypeId}{x y:Value}{b:Bool}(a c:Operand)
  (h1:binOp .eql t x y=(do pure (.bool (<-Op.equal t x y)))) (h2:binOp .neq t x y=(do pure (.bool (!(<-Op.equal t x y)))))
  (hg:(eqGuard op t a c x y).run P w=.ok () w) (he:(Op.equal t x y).run P w=.ok b w):
  ((do eqGuard op t a c x y;binOp op t x y):Sem Value).run P w=.ok (.bool (if op==.neq then !b else b)) w:=by
 rcases hop with rfl|rfl
 .rw [Sem.run_bind,hg,Result.andThen_ok,h1,Sem.run_bind,he];rfl
 .rw [Sem.run_bind,hg,Result.andThen_ok,h2,Sem.run_bind,he];rfl
theorem qU{op:BinOp}{t:TypeId}(a c:Operand){x y:Value}(h:match x,y with|.nilIface,.nilIface=>False|.agg _,.agg _=>False|_,_=>True):
  (eqGuard op t a c x y).run P w=.ok () w:=by
 unfold eqGuard;cases op<;>simp<;>(cases x<;>cases y<;>simp_all)
theorem qX(t:TypeId)(x y:Value):Op.equal t x y=Op.equalIn (9999+1) t x y:=rfl
def Le(P:Program)(t:TypeId):Nat->Prop
 |0=>∃x,P.underlying t=some (.slice x)
 |1=>∃x,P.underlying t=some (.pointer x)
 |2=>∃a b c,P.underlying t=some (.func a b c)
 |_=>False
theorem Iz{op:BinOp}(hop:op=.eql\/op=.neq){kind:Nat}{t:TypeId}{y:C}{val:Value}{b:Bool}(a c:Operand)(hu:Le P t kind)
  (hr:gr S w Kn φ (.c y) val) (hn:qj kind y=some b):
  ((do eqGuard op t a c val (oB kind);binOp op t val (oB kind)):Sem Value).run P w=.ok (.bool (if op==.neq then !b else b)) w/\
  ((do eqGuard op t a c (oB kind) val;binOp op t (oB kind) val):Sem Value).run P w=.ok (.bool (if op==.neq then !b else b)) w:=by
 have hsl:(∃x,P.underlying t=some (.slice x))->∀q l k,kind=0->val=.slice q l k->b=q.isNone->
   ((do eqGuard op t a c val (oB kind);binOp op t val (oB kind)):Sem Value).run P w=.ok (.bool (if op==.neq then !b else b)) w/\
   ((do eqGuard op t a c (oB kind) val;binOp op t (oB kind) val):Sem Value).run P w=.ok (.bool (if op==.neq then !b else b)) w:=by
  rintro⟨x,hu'⟩ q l k rfl rfl rfl;refine⟨ru hop a c rfl rfl (qU a c trivial) ?_,ru hop a c rfl rfl (qU a c trivial) ?_⟩
  all_goals
   rw[qX];unfold Op.equalIn;rw[Sem.run_bind,cg hu'];cases q<;>rfl
 have hpt:(∃x,P.underlying t=some (.pointer x))->∀q,kind=1->val=.pointer q->b=q.isNone->
   ((do eqGuard op t a c val (oB kind);binOp op t val (oB kind)):Sem Value).run P w=.ok (.bool (if op==.neq then !b else b)) w/\
   ((do eqGuard op t a c (oB kind) val;binOp op t (oB kind) val):Sem Value).run P w=.ok (.bool (if op==.neq then !b else b)) w:=by
  rintro⟨x,hu'⟩ q rfl rfl rfl;refine⟨ru hop a c ?_ ?_ (qU a c trivial) ?_,ru hop a c ?_ ?_ (qU a c trivial) ?_⟩
  .cases q<;>rfl
  .cases q<;>rfl
  .rw [qX];unfold Op.equalIn;rw[Sem.run_bind,cg hu'];cases q<;>rfl
  .cases q<;>rfl
  .cases q<;>rfl
  .rw [qX];unfold Op.equalIn;rw[Sem.run_bind,cg hu'];cases q<;>rfl
 have hfn:(∃x y z,P.underlying t=some (.func x y z))->kind=2->((val=.nilFunc/\b=true)\/((∃f p q,val=.func f p q)/\b=false))->
   ((do eqGuard op t a c val (oB kind);binOp op t val (oB kind)):Sem Value).run P w=.ok (.bool (if op==.neq then !b else b)) w/\
   ((do eqGuard op t a c (oB kind) val;binOp op t (oB kind) val):Sem Value).run P w=.ok (.bool (if op==.neq then !b else b)) w:=by
  rintro⟨x,y,z,hu'⟩ rfl (⟨rfl,rfl⟩|⟨⟨f,p,q,rfl⟩,rfl⟩)
  all_goals
   refine⟨ru hop a c rfl rfl (qU a c trivial) ?_,ru hop a c rfl rfl (qU a c trivial) ?_⟩
   all_goals
    rw[qX];unfold Op.equalIn;rw[Sem.run_bind,cg hu'];rfl
 cases hr with
 |c hr=>
  match kind,y,hn,hr,hu with
  |0,.d (.lit (.slice none 0 0)),hn,hr,hu=>cases hr with|d hd=>cases hd with|lit hp=>exact hsl hu _ _ _ rfl rfl (by simpa[qj]using hn.symm)
  |0,.d (.sl _ _),hn,hr,hu=>cases hr with|d hd=>cases hd with|sl=>exact hsl hu _ _ _ rfl rfl (by simpa[qj]using hn.symm)|tK=>exact hsl hu _ _ _ rfl rfl (by simpa[qj]using hn.symm)
  |0,.fy _ _ _ _,hn,hr,hu=>cases hr with|fy=>exact hsl hu _ _ _ rfl rfl (by simpa[qj]using hn.symm)
  |1,.d (.lit (.pointer none)),hn,hr,hu=>cases hr with|d hd=>cases hd with|lit hp=>exact hpt hu _ rfl rfl (by simpa[qj]using hn.symm)
  |1,.d (.pt _),hn,hr,hu=>cases hr with|d hd=>cases hd with|pt=>exact hpt hu _ rfl rfl (by simpa[qj]using hn.symm)
  |1,.ep _ _ _,hn,hr,hu=>cases hr with|ep=>exact hpt hu _ rfl rfl (by simpa[qj]using hn.symm)
  |1,.op _ _,hn,hr,hu=>cases hr with|op=>exact hpt hu _ rfl rfl (by simpa[qj]using hn.symm)
  |2,.d (.lit .nilFunc),hn,hr,hu=>cases hr with|d hd=>cases hd with|lit hp=>exact hfn hu rfl (.inl ⟨rfl,by simpa[qj]using hn.symm⟩)
  |2,.d (.fn _ _),hn,hr,hu=>cases hr with|d hd=>cases hd with|fn=>exact hfn hu rfl (.inr ⟨⟨_,_,_,rfl⟩,by simpa[qj]using hn.symm⟩)
  |2,.o5 _ _,hn,hr,hu=>cases hr with|o5=>exact hfn hu rfl (.inr ⟨⟨_,_,_,rfl⟩,by simpa[qj]using hn.symm⟩)
theorem xk{kind:Nat}{x:Operand}(h:wy kind x=true):x=.const (oB kind):=by unfold wy at h;split at h<;>first|rfl|simp at h
theorem DH{t ty:TypeId}{op:BinOp}{x y z:Operand}{kind:Nat}(ho:o.op=.binOp op t x y ty)(hop:op=.eql\/op=.neq)(hu:Le P t kind)(hI:Inv S K w0 Kn φ (aB H) w)
  (hc:∀v,ρ (.const v)=v) (hz:(z=x/\wy kind y=true)\/(z=y/\wy kind x=true)) {tv:Option TV} (hx:∀y,tv=some y->gr S w Kn φ y (ρ z))
  (h:cQ call (.qY kind (op==.neq)) [tv] H nxt=some (v,u,aA,n')):dK P o ρ S K w0 w Kn φ (aB H) nxt n' v u:=by
 match tv,h,hx with
 |some (.c c),h,hx=>
  change (match qj kind c with|some b=>some (lv (.bool (if(op==BinOp.neq)then !b else b)),([]:fF),([]:List Nat),nxt)|none=>none)=_ at h;split at h
  .rename_i b hb;obtain⟨rfl,rfl,rfl,rfl⟩:lv (.bool (if(op==BinOp.neq)then !b else b))=v/\[]=u/\[]=aA/\nxt=n':=by simpa using h
   refine dK.pure hI ?_ (.oN rfl);obtain⟨h1,h2⟩:=Iz (P:=P) hop x y hu (hx _ rfl) hb;rcases hz with⟨rfl,hn⟩|⟨rfl,hn⟩
   .have e:=xk hn;simp only[execOp,ho,Sem.run_bind];rw[Sem.run_bind]at h1;rw[e]at h1|-;rw[hc,h1];rfl
   .have e:=xk hn;simp only[execOp,ho,Sem.run_bind];rw[Sem.run_bind]at h2;rw[e]at h2|-;rw[hc,h2];rfl
  .simp at h
end
section
variable{P:Program}{S K:Nat->Prop}{w0 w:World}{Kn:Nat->Prop}{φ:Nat->gO}{H:bF}{e:jP}{ρ:Operand->Value}{o:Oper}{call:Call}
 {nxt n':Nat} {v:TV} {u:fF} {aA:List Nat}
theorem xp{α:Type}:∀{l:List (Option α)}{xs:List α},eM l=some xs->l=xs.map some:=by
 intro l;induction l with
 |nil=>
  intro xs h;obtain rfl:[]=xs:=by simpa[eM]using h
  rfl
 |cons a l ih=>
  intro xs h;cases a with
  |none=>simp[eM]at h
  |some x=>
   simp only[eM]at h;split at h
   .rename_i ys hy;obtain rfl:=aa h;simp[ih hy]
   .simp at h
theorem vN{args:List Operand}{xs:List TV}(hρ:∀x tv,kU e x=some tv->gr S w Kn φ tv (ρ x))(h:eM (args.map (kU e))=some xs):
  xs.length=args.length/\∀(i:Nat)(x:Operand)(tv:TV),args[i]?=some x->xs[i]?=some tv->gr S w Kn φ tv (ρ x):=by
 have h1:=xp h;have hl:xs.length=args.length:=by have:=congrArg mR h1;simpa using this.symm
 refine⟨hl,fun i x tv hx htv=>hρ x tv ?_⟩;have h2:=congrArg (fun l=>l[i]?) h1;simp only[aH,hx,htv,bN]at h2;exact aa h2
theorem Oe{f:FuncId}{first captured:Array Operand}(ho:o.op=.makeFunc (.func f) first captured)(hf:first.isEmpty=true)(hI:Inv S K w0 Kn φ (aB H) w)
  (hρ:∀x tv,kU e x=some tv->gr S w Kn φ tv (ρ x)) (h:cQ call (.I8 f) (captured.toList.map (kU e)) H nxt=some (v,u,aA,n')):dK P o ρ S K w0 w Kn φ (aB H) nxt n' v u:=by
 change (match eM (captured.toList.map (kU e))with
  |some xs=>(match eM (xs.map fun(x:TV)=>match x with|.c c=>some c|_=>none)with|some cs=>some (TV.c (.o5 f cs),([]:fF),([]:List Nat),nxt)|none=>none)
  |none=>none)=_ at h
 split at h
 .rename_i xs hxs;split at h
  .rename_i cs hcs;obtain⟨rfl,rfl,rfl,rfl⟩:TV.c (.o5 f cs)=v/\[]=u/\[]=aA/\nxt=n':=by simpa using h
   obtain⟨hl,hr⟩:=vN hρ hxs;have h2:=xp hcs;have hl2:cs.length=xs.length:=by have:=congrArg mR h2;simpa using this.symm
   have hf':first= #[]:=by simpa using hf
   refine dK.pure (val:=.func (.func f) #[] (captured.map ρ)) hI (by simp[execOp,ho,Instr.makeFunc,hf']) (.c (.o5 (by simp[hl2,hl]) fun j c hj=>?_));have hj':j<xs.length:=by rw[<-hl2];exact(ak.1 hj).1
   have h3:=congrArg (fun l=>l[j]?) h2;simp only[aH,hj,bN,aw hj']at h3;have h4:=aa h3;have hcap:j<captured.size:=by rw[hl]at hj';simpa using hj'
   have hx:=hr j captured[j] xs[j] (by simp[hcap]) (aw hj');have e1:(captured.map ρ).getD j undef=ρ captured[j]:=by simp[hcap]
   rw[e1];cases hy:xs[j]with
   |c y=>
    rw[hy]at h4 hx;obtain rfl:y=c:=by simpa using h4
    cases hx with|c hx=>exact hx
   |_=>rw[hy]at h4;simp at h4
  .simp at h
 .simp at h
theorem ux{n:Int}(h0:0<=n)(h1:n<=2147483648):IntKind.i64.wrap n=n:=by unfold IntKind.wrap IntKind.bits IntKind.signed;simp only[Bool.true_and,decide_eq_true_eq];have:n %(2^64:Int)=n:=Int.emod_eq_of_lt h0 (by omega);rw[this];split<;>omega
theorem wi{v:Value}{k:IntKind}{n:Int}(h:v=.int k n):(asInt v).run P w=.ok n w:=by subst h;simp[asInt,asIntOf]
theorem ou{v:Value}{k:IntKind}{n:Int}(h:v=.int k n):(asIntOf v).run P w=.ok (k,n) w:=by subst h;simp[asIntOf]
theorem jq{tv:Option TV}{val:Value}{n:Int}(h:cE tv=some n)(hr:∀y,tv=some y->gr S w Kn φ y val):∃k,val=.int k n:=by
 unfold cE at h;split at h
 .obtain rfl:=aa h;obtain⟨hv,_⟩:=(hr _ rfl).lit;exact⟨_,hv⟩
 .simp at h
theorem jZ{v:Value}{k:IntKind}{n:Int}{y:Nat}{code:BoundsCode}(h:v=.int k n)(h0:0<=n)(h1:n<=y):(Instr.sliceBound v y code).run P w=.ok n.toNat w:=by simp only[Instr.sliceBound,Sem.run_bind,ou h,Result.andThen_ok,h0,h1,and_self,if_true,Sem.run_pure]
theorem rx{Ea:Bool}{len cap:Nat}{lo hi:Option Value}{l h:Option Int}(hlo':lo.isSome=l.isSome)(hl1:∀x,lo=some x->∃k n,x=.int k n/\l=some n)
  (hhi':hi.isSome=h.isSome) (hhi:∀x,hi=some x->∃k n,x=.int k n/\h=some n)
  (h0:0<=l.getD 0) (h1:l.getD 0<=h.getD len) (h2:h.getD len<=cap):
  (Instr.sliceBounds Ea len cap lo hi none).run P w=.ok ((l.getD 0).toNat,(h.getD len).toNat,cap) w:=by
 unfold Instr.sliceBounds;cases hi with
 |none=>
  cases h with
  |some _=>simp at hhi'
  |none=>
   cases lo with
   |none=>cases l with|some _=>simp at hlo'|none=>simp
   |some x=>obtain⟨k,n,rfl,rfl⟩:=hl1 x rfl;simp only[fK,Option.getD_none]at h0 h1;have:=jZ (P:=P) (w:=w) (v:=.int k n) (y:=len) (code:=.sliceB) rfl h0 h1;simp[this]
 |some y=>
  obtain⟨k,n,rfl,rfl⟩:=hhi y rfl;simp only[fK]at h1 h2;have hb:=jZ (P:=P) (w:=w) (v:=.int k n) (y:=cap) (code:=if Ea then .sliceAcap else .sliceAlen) rfl (by omega) h2;cases lo with
  |none=>cases l with|some _=>simp at hlo'|none=>simp[hb]
  |some x=>obtain⟨k',n',rfl,rfl⟩:=hl1 x rfl;simp only[fK]at h0 h1;have:=jZ (P:=P) (w:=w) (v:=.int k' n') (y:=n.toNat) (code:=.sliceB) rfl h0 (by omega);simp[hb,this]
theorem De{str:Bool}{sz:Nat}{t:TypeId}{x y:C}{val:Value}{lo hi:Option Value}{l h:Option Int}
  (hu:if str then P.underlying t=some .string else∃el,P.underlying t=some (.slice el)/\fQ P el=some sz) (hr:RC S w Kn φ x val)
  (hlo':lo.isSome=l.isSome) (hl1:∀x,lo=some x->∃k n,x=.int k n/\l=some n) (hhi':hi.isSome=h.isSome) (hhi:∀x,hi=some x->∃k n,x=.int k n/\h=some n)
  (hs:fV str sz x l h=some y):∃val',(Instr.sliceAt t val lo hi none).run P w=.ok val' w/\RC S w Kn φ y val':=by
 unfold fV at hs;cases str with
 |true=>
  simp only[if_true]at hs hu;split at hs
  .rename_i s;split at hs
   .rename_i hb;obtain⟨hb1,hb2,hb3⟩:=hb;obtain rfl:=aa hs;cases hr with
    |d hd=>cases hd with|lit hp=>have:=rx (P:=P) (w:=w) (Ea:=false) (len:=s.size) (cap:=s.size) hlo' hl1 hhi' hhi hb1 hb2 hb3;exact⟨.string (s.extract (l.getD 0).toNat (h.getD s.size).toNat),by simp[Instr.sliceAt,Instr.slice,cg hu,this],.d (.lit rfl)⟩
   .simp at hs
  .simp at hs
 |false=>
  simp only[aT,if_false]at hs hu;obtain⟨el,hu,hsz⟩:=hu
  have run:∀(a:Addr)(len cap:Nat),val=.slice (some a) len cap->0<=l.getD 0->l.getD 0<=h.getD len->h.getD len<=cap->(cap≠(l.getD 0).toNat->a.spot=none)->
    (Instr.sliceAt t val lo hi none).run P w=.ok (.slice (some (if cap=(l.getD 0).toNat then a else⟨a.block,a.off+(l.getD 0).toNat*sz,none⟩))
     ((h.getD len).toNat-(l.getD 0).toNat) (cap-(l.getD 0).toNat)) w:=by
   intro a len cap hv h0 h1 h2 hsp;have hb:=rx (P:=P) (w:=w) (Ea:=true) (len:=len) (cap:=cap) hlo' hl1 hhi' hhi h0 h1 h2;simp only[Instr.sliceAt,Instr.slice,Sem.run_bind,cg hu,Result.andThen_ok,hv,hb,ic hsz,Sem.run_pure];congr 2;split
   .rfl
   .rename_i hne;obtain⟨b,off,spot⟩:=a;obtain rfl:spot=none:=hsp hne;simp[pR]
  split at hs
  .split at hs
   .rename_i hb;obtain⟨hb1,hb2,hb3⟩:=hb;obtain rfl:=aa hs;cases hr with
    |d hd=>cases hd with
     |lit hp=>
      have e1:l.getD 0=0:=by omega
      have e2:h.getD 0=0:=by omega
      have hb:=rx (P:=P) (w:=w) (Ea:=true) (len:=0) (cap:=0) hlo' hl1 hhi' hhi hb1 (by simpa using hb2) (by simpa using hb3);refine⟨.slice none 0 0,?_,.d (.lit rfl)⟩;have e3:h.getD (((0:Nat):Int))=0:=e2;rw[e1,e3]at hb;simp only[Instr.sliceAt,Instr.slice,Sem.run_bind,cg hu,Result.andThen_ok,hb,ic hsz,Sem.run_pure];rfl
   .simp at hs
  .rename_i sz' id off len;split at hs
   .rename_i hb;obtain⟨hb0,hb1,hb2,hb3⟩:=hb;obtain rfl:=aa hs;cases hr with
    |@fy _ _ _ cap addr hk hcap haddr hext hcl=>
     subst hb0;refine⟨_,run _ len cap rfl hb1 hb2 (by omega) (fun _=>rfl),?_⟩;have hle:(l.getD 0).toNat<=cap:=by omega
     by_cases e:cap=(l.getD 0).toNat
     .rw [if_pos e];exact .fy hk (by omega) (fun h=>by omega) (by rw[<-e,Nat.sub_self];omega) (by omega)
     .rw [if_neg e];have ha:=haddr (by omega);refine .fy hk (by omega) (fun _=>?_) ?_ (by omega)
      .show addr+_=_;rw[ha,bP];omega
      .have:(l.getD 0).toNat*(φ id).sz+(cap-(l.getD 0).toNat)*(φ id).sz=cap*(φ id).sz:=by rw[<-bP];congr 1;omega
       show addr+_+_<=_;omega
   .simp at hs
  .rename_i sz' aq;split at hs
   .rename_i hb;obtain⟨hb0,hb1,hb2,hb3⟩:=hb;obtain rfl:=aa hs;cases hr with
    |d hd=>
     cases hd with
     |@sl _ _ b off cap g hb hsz0 hcap hrow hcell hrd=>
      subst hb0;refine⟨_,run _ aq.length cap rfl hb1 hb2 (by omega) (fun _=>rfl),?_⟩;have hR:cW S w sz' (fun i=>w.cell? ⟨b,i,none⟩) off aq:=⟨hrow,fun i r hi j x hj=>⟨_,hcell i r hi j x hj,hrd i r hi j x hj⟩⟩
      have hlen:((aq.drop (l.getD 0).toNat).take ((h.getD aq.length).toNat-(l.getD 0).toNat)).length=(h.getD aq.length).toNat-(l.getD 0).toNat:=by simp;omega
      by_cases e:cap=(l.getD 0).toNat
      .rw [if_pos e];exact .d (.AN hb hsz0 hlen (by omega) (hR.xx _ _ fun h=>by omega))
      .rw [if_neg e];exact .d (.AN hb hsz0 hlen (by omega) (hR.xx _ _ fun _=>rfl))
     |@tK _ a hsz0=>
      subst hb0;simp only[kF]at hb1 hb2 hb3;have e1:l.getD 0=0:=by have h2:l.getD 0<=h.getD 0:=hb2;have h3:h.getD 0<=0:=hb3;omega
      refine⟨_,run _ 0 0 rfl hb1 hb2 (by simpa using hb3) (fun hne=>absurd (by rw[e1];rfl) hne),?_⟩;rw[if_pos (by rw[e1];rfl)];have e2:(([]:List (List D)).drop (l.getD 0).toNat).take ((h.getD ([]:List (List D)).length).toNat-(l.getD 0).toNat)=[]:=by simp
      rw[e2];have e3:(h.getD ((0:Nat):Int)).toNat-(l.getD 0).toNat=0:=by have h3:h.getD 0<=0:=hb3;have h4:h.getD ((0:Nat):Int)=h.getD 0:=rfl;rw[h4];omega
      have e4:(0:Nat)-(l.getD 0).toNat=0:=by omega
      first
       |(rw[e3,e4];exact .d (.tK hsz0))
       |(simp[e1]at hb3|-;exact .d (.tK hsz0))
   .simp at hs
  .simp at hs
theorem yv{str:Bool}{sz:Nat}{t:TypeId}{x y:C}{val:Value}{lo:Option Value}{hi:Value}{k2:IntKind}{l:Option Int}{h:Int}{aA:List Nat}(hI:Inv S K w0 Kn φ (aB H) w)
  (hu:if str then P.underlying t=some .string else∃el,P.underlying t=some (.slice el)/\fQ P el=some sz) (hr:RC S w Kn φ x val)
  (hlo':lo.isSome=l.isSome) (hl1:∀x,lo=some x->∃k n,x=.int k n/\l=some n) (hhi:hi=.int k2 h) (hs:nZ str sz x (l.getD 0) h H=some (y,aA)):∃val',(Instr.sliceAt t val lo (some hi) none).run P w=.ok val' w/\RC S w Kn φ y val':=by
 unfold nZ at hs;split at hs
 case h_2=>simp at hs
 rename_i sz' id off len;simp only[aT,if_false]at hu;obtain⟨el,hu,hsz⟩:=hu
 have key:sz'=sz/\0<=l.getD 0/\l.getD 0<=h/\off+h.toNat<=(φ id).cap/\y=.fy sz id (off+(l.getD 0).toNat) (h.toNat-(l.getD 0).toNat):=by
  split at hs
  .rename_i szo aq hob;split at hs
   case isFalse=>simp at hs
   rename_i hb;obtain⟨hb0,hb1,hb2,hb3⟩:=hb;obtain⟨rfl,_⟩:=ad (aa hs);obtain⟨_,h0⟩:=hI.iR _ _ hob;have hvis:aq.length<=(φ id).cap:=by cases h0 with|aM hsz0 hl hS hK hown hext hfit hrr hvis=>exact hvis
   exact⟨hb0,hb1,hb2,by omega,rfl⟩
  .rename_i szo aq cp hob;split at hs
   case isFalse=>simp at hs
   rename_i hb;obtain⟨hb0,hb1,hb2,hb3⟩:=hb;obtain⟨rfl,_⟩:=ad (aa hs);obtain⟨_,h0⟩:=hI.iR _ _ hob;have hvis:(φ id).cap=cp:=by cases h0 with|cap hsz0 hl hS hK hown hext hfit hrr hvis hc=>exact hc
   exact⟨hb0,hb1,hb2,by omega,rfl⟩
  .simp at hs
 obtain⟨hb0,hb1,hb2,hvis,rfl⟩:=key;cases hr with
 |@fy _ _ _ cap addr hk hcap haddr hext hcl=>
  subst hb0;have hc:h<=cap:=by omega
  have hbd:=rx (P:=P) (w:=w) (Ea:=true) (len:=len) (cap:=cap) (lo:=lo) (hi:=some hi) (l:=l) (h:=some h) hlo' hl1 rfl (fun x hx=>⟨k2,h,by rw[<-aa hx,hhi],rfl⟩) hb1 hb2 hc;simp only[fK]at hbd;generalize l.getD 0=l at*;refine⟨.slice (some (if cap=l.toNat then⟨(φ id).bY,addr,none⟩else⟨(φ id).bY,addr+l.toNat*(φ id).sz,none⟩)) (h.toNat-l.toNat) (cap-l.toNat),?_,?_⟩
  .simp only[Instr.sliceAt,Instr.slice,Sem.run_bind,cg hu,Result.andThen_ok,hbd,ic hsz,Sem.run_pure];congr 2;split
   .rfl
   .simp [pR]
  .have hle:l.toNat<=cap:=by omega
   by_cases e:cap=l.toNat
   .rw [if_pos e];exact .fy hk (by omega) (fun h=>by omega) (by rw[<-e,Nat.sub_self];omega) (by omega)
   .rw [if_neg e];have ha:=haddr (by omega);refine .fy hk (by omega) (fun _=>?_) ?_ (by omega)
    .rw [ha,bP];omega
    .have:l.toNat*(φ id).sz+(cap-l.toNat)*(φ id).sz=cap*(φ id).sz:=by rw[<-bP];congr 1;omega
     omega
theorem IV{sz:Nat}{t:TypeId}{el:TypeId}{x a b c:Operand}(ho:o.op=.slice t x (some a) (some b) (some c))
  (hu:P.underlying t=some (.slice el)) (hsz:fQ P el=some sz) (hI:Inv S K w0 Kn φ (aB H) w) (hn0:nxt<n'->¬Kn nxt)
  (hρ:∀x tv,kU e x=some tv->gr S w Kn φ tv (ρ x))
  (h:cQ call (.BQ sz) ([x,a,b,c].map (kU e)) H nxt=some (v,u,aA,n')):dK P o ρ S K w0 w Kn φ (aB H) nxt n' v u:=by
 simp only[aD,aW]at h;cases hx:kU e x with
 |none=>rw[hx]at h;simp[cQ]at h
 |some tv=>
  rw[hx]at h;cases tv with
  |agg cs=>simp[cQ]at h
  |iT xs=>simp[cQ]at h
  |c xc=>
   have hr:=hρ x _ hx;cases hr with
   |c hr=>
   change (match cE (kU e a),cE (kU e b),cE (kU e c)with
    |some l,some u,some m=>(match Mt sz xc l u m nxt with|some y=>some (TV.c y,([]:fF),([]:List Nat),nxt+1)|none=>none)
    |_,_,_=>none)=_ at h
   split at h
   .rename_i l hh m hl hhh hm;obtain⟨k1,e1⟩:=jq hl (hρ a);obtain⟨k2,e2⟩:=jq hhh (hρ b);obtain⟨k3,e3⟩:=jq hm (hρ c);split at h
    .rename_i y hy;obtain⟨rfl,rfl,rfl,rfl⟩:TV.c y=v/\[]=u/\[]=aA/\nxt+1=n':=by simpa using h
     unfold Mt at hy;split at hy
     .rename_i sz' id off len;split at hy
      .rename_i hb;obtain⟨hb0,hb1,hb2,hb3,hb4⟩:=hb;obtain rfl:=aa hy;have hn:=hn0 (aY _);generalize hv0:ρ x=val at hr;cases hr with
       |@fy _ _ _ cap addr hk hcap haddr hext hcl=>
        subst hb0;have s1:=jZ (P:=P) (w:=w) (v:=.int k3 m) (y:=cap) (code:=.slice3Acap) rfl (by omega) (by omega);have s2:=jZ (P:=P) (w:=w) (v:=.int k2 hh) (y:=m.toNat) (code:=.slice3B) rfl (by omega) (by omega);have s3:=jZ (P:=P) (w:=w) (v:=.int k1 l) (y:=hh.toNat) (code:=.slice3C) rfl (by omega) (by omega);have hbd:(Instr.sliceBounds true len cap (some (.int k1 l)) (some (.int k2 hh)) (some (.int k3 m))).run P w=.ok (l.toNat,hh.toNat,m.toNat) w:=by unfold Instr.sliceBounds;simp[s1,s2,s3]
        let loc:gO:=⟨(φ id).bY,if m.toNat=l.toNat then addr else addr+l.toNat*(φ id).sz,(φ id).sz,(φ id).ext,m.toNat-l.toNat⟩
        have hlt:l.toNat*(φ id).sz+(m.toNat-l.toNat)*(φ id).sz<=cap*(φ id).sz:=by rw[<-bP];exact aI _ (by omega)
        refine⟨.value (.slice (some (if m.toNat=l.toNat then⟨(φ id).bY,addr,none⟩else⟨(φ id).bY,addr+l.toNat*(φ id).sz,none⟩)) (hh.toNat-l.toNat) (m.toNat-l.toNat)),_,w,?_,.inl rfl,bH _,S,ext φ nxt loc,hC.refl _ _,⟨fun _ h=>.inl h,(jQ _ hn).eC⟩,.c ?_,?_⟩
        .simp only[execOp,ho,bN,hv0,e1,e2,e3,Instr.sliceAt,Instr.slice,Sem.run_bind,cg hu,Result.andThen_ok,hbd,ic hsz,Sem.run_pure];congr 3;split
         .rfl
         .simp [pR]
        .have e:ext φ nxt loc nxt=loc:=by simp[ext]
         have:=RC.fy (S:=S) (w:=w) (Kn:=pn Kn nxt (nxt+1)) (φ:=ext φ nxt loc) (id:=nxt) (off:=0) (len:=hh.toNat-l.toNat) (cap:=m.toNat-l.toNat) (addr:=loc.aR)
          (.inr (by omega)) (by omega) (by rw[e];simp) (by
           rw[e];show(if m.toNat=l.toNat then addr else addr+l.toNat*(φ id).sz)+(m.toNat-l.toNat)*(φ id).sz<=(φ id).ext;split
           .rename_i q;rw[q,Nat.sub_self];omega
           .omega) (by rw[e];exact bL _)
         rw[e]at this;have e4:(if m.toNat=l.toNat then(⟨(φ id).bY,addr,none⟩:Addr)else⟨(φ id).bY,addr+l.toNat*(φ id).sz,none⟩)=⟨(φ id).bY,if m.toNat=l.toNat then addr else addr+l.toNat*(φ id).sz,none⟩:=by split<;>rfl
         rw[e4];exact this
        .have hren:=jQ (Kn:=Kn) (φ:=φ) loc hn;have:=hI.kM (hC.refl _ _) hren hI.u6 hI.sk hI.nB (hf':=aB H) (fun i o ho=>.inl ⟨ho,fun hown=>⟨rfl,((hI.iR i o ho).2.bv hown).1⟩⟩) (fun i j a b hi hj oa ob hne=>by rw[hren.eC _ (hI.iR i a hi).1,hren.eC _ (hI.iR j b hj).1];exact hI.eR i j a b hi hj oa ob hne) (hI.Dl hren fun _ _=>rfl);exact this.xA fun j=>pH j
      .simp at hy
     .simp at hy
    .simp at h
   .simp at h
theorem DD{str:Bool}{sz:Nat}{t:TypeId}{x:Operand}{lo hi:Option Operand}(ho:o.op=.slice t x lo hi none)
  (hu:if str then P.underlying t=some .string else∃el,P.underlying t=some (.slice el)/\fQ P el=some sz) (hI:Inv S K w0 Kn φ (aB H) w)
  (hρ:∀x tv,kU e x=some tv->gr S w Kn φ tv (ρ x))
  (h:cQ call (.slice str sz lo.isSome hi.isSome) ((x::lo.toList++hi.toList).map (kU e)) H nxt=some (v,u,aA,n')):dK P o ρ S K w0 w Kn φ (aB H) nxt n' v u:=by
 simp only[List.cons_append,aD,List.map_append]at h;cases hx:kU e x with
 |none=>rw[hx]at h;cases lo<;>cases hi<;>simp[cQ]at h
 |some tv=>
  rw[hx]at h;cases tv with
  |agg cs=>cases lo<;>cases hi<;>simp[cQ]at h
  |iT xs=>cases lo<;>cases hi<;>simp[cQ]at h
  |c c=>
   have hr:=hρ x _ hx;cases hr with
   |c hr=>
   have fin:∀l h',lo.isSome=l.isSome->(∀y,lo=some y->cE (kU e y)=l)->hi.isSome=h'.isSome->(∀y,hi=some y->cE (kU e y)=h')->
     (match fV str sz c l h' with|some y=>some (TV.c y,([]:fF),([]:List Nat),nxt)|none=>none)=some (v,u,aA,n')->dK P o ρ S K w0 w Kn φ (aB H) nxt n' v u:=by
    intro l h' e1 e2 e3 e4 hm;split at hm
    .rename_i y hy;obtain⟨rfl,rfl,rfl,rfl⟩:TV.c y=v/\[]=u/\[]=aA/\nxt=n':=by simpa using hm
     have conv:∀(q:Option Operand)(l:Option Int),q.isSome=l.isSome->(∀y,q=some y->cE (kU e y)=l)->∀x,q.map ρ=some x->∃k n,x=.int k n/\l=some n:=by
      intro q l e1 e2 x hq;cases q with
      |none=>simp at hq
      |some y=>
       obtain rfl:ρ y=x:=by simpa using hq
       cases l with|none=>simp at e1|some n=>obtain⟨k,hk⟩:=jq (e2 y rfl) (hρ y);exact⟨k,n,hk,rfl⟩
     obtain⟨val',h1,h2⟩:=De (P:=P) (lo:=lo.map ρ) (hi:=hi.map ρ) hu hr (by simpa using e1) (conv lo l e1 e2) (by simpa using e3) (conv hi h' e3 e4) hy;exact dK.pure hI (by simp[execOp,ho,h1]) (.c h2)
    .simp at hm
   cases lo with
   |none=>
    cases hi with
    |none=>exact fin none none rfl (fun y hy=>by simp at hy) rfl (fun y hy=>by simp at hy) h
    |some z=>
     change (match cE (kU e z)with|some u=>(match fV str sz c none (some u)with|some y=>some (TV.c y,([]:fF),([]:List Nat),nxt)|none=>(match nZ str sz c 0 u H with|some (y,aA)=>some (TV.c y,([]:fF),aA,nxt)|none=>none))|none=>none)=_ at h;split at h
     .rename_i n hn;split at h
      .rename_i y hy;exact fin none (some n) rfl (fun y hy=>by simp at hy) rfl (fun y hy=>aa hy▸hn) (by rw[hy];exact h)
      .split at h
       .rename_i y ids1 hy;obtain⟨rfl,rfl,_,rfl⟩:TV.c y=v/\[]=u/\ids1=aA/\nxt=n':=by simpa using h
        obtain⟨k2,e2⟩:=jq hn (hρ z);obtain⟨val',h1,h2⟩:=yv (P:=P) (t:=t) (lo:=none) (l:=none) hI hu hr rfl (fun x hx=>by simp at hx) e2 hy;exact dK.pure hI (by simp[execOp,ho,h1]) (.c h2)
       .simp at h
     .simp at h
   |some q=>
    cases hi with
    |none=>
     change (match cE (kU e q)with|some l=>(match fV str sz c (some l) none with|some y=>some (TV.c y,([]:fF),([]:List Nat),nxt)|none=>none)|none=>none)=_ at h;split at h
     .rename_i n hn;exact fin (some n) none rfl (fun y hy=>aa hy▸hn) rfl (fun y hy=>by simp at hy) h
     .simp at h
    |some z=>
     change (match cE (kU e q),cE (kU e z)with
      |some l,some u=>(match fV str sz c (some l) (some u)with
       |some y=>some (TV.c y,([]:fF),([]:List Nat),nxt)
       |none=>(match nZ str sz c l u H with|some (y,aA)=>some (TV.c y,([]:fF),aA,nxt)|none=>none))
      |_,_=>none)=_ at h
     split at h
     .rename_i m n hm hn;split at h
      .rename_i y hy;exact fin (some m) (some n) rfl (fun y hy=>aa hy▸hm) rfl (fun y hy=>aa hy▸hn) (by rw[hy];exact h)
      .split at h
       .rename_i y ids1 hy;obtain⟨rfl,rfl,_,rfl⟩:TV.c y=v/\[]=u/\ids1=aA/\nxt=n':=by simpa using h
        obtain⟨k1,e1⟩:=jq hm (hρ q);obtain⟨k2,e2⟩:=jq hn (hρ z);obtain⟨val',h1,h2⟩:=yv (P:=P) (t:=t) (lo:=some (ρ q)) (l:=some m) hI hu hr rfl (fun x hx=>⟨k1,m,by rw[<-aa hx,e1],rfl⟩) e2 hy;exact dK.pure hI (by simp[execOp,ho,h1]) (.c h2)
       .simp at h
     .simp at h
theorem vp{t:TypeId}{x i:Operand}{aM:Option Nat}{sz:Nat}(ho:o.op=.indexAddr t x i)
  (hu:match aM with|none=>∃el,P.underlying t=some (.slice el)/\fQ P el=some sz|some len=>∃el,P.underlying t=some (.array len el)/\fQ P el=some sz)
  (hI:Inv S K w0 Kn φ (aB H) w) {tx ti:Option TV} (hx:∀y,tx=some y->gr S w Kn φ y (ρ x)) (hi:∀y,ti=some y->gr S w Kn φ y (ρ i))
  (h:cQ call (.indexAddr aM sz) [tx,ti] H nxt=some (v,u,aA,n')):dK P o ρ S K w0 w Kn φ (aB H) nxt n' v u:=by
 match tx,h,hx with
 |some (.c c),h,hx=>
  change (match cE ti with|some i=>(match iM aM sz c i with|some y=>some (TV.c y,([]:fF),([]:List Nat),nxt)|none=>none)|none=>none)=_ at h;split at h
  .rename_i n hn;obtain⟨k,hk⟩:=jq hn hi;split at h
   .rename_i y hy;obtain⟨rfl,rfl,rfl,rfl⟩:TV.c y=v/\[]=u/\[]=aA/\nxt=n':=by simpa using h
    have hr:=hx _ rfl;generalize hv0:ρ x=val at hr;cases hr with
    |c hr=>
    cases aM with
    |none=>
     obtain⟨el,hu,hsz⟩:=hu;simp only[iM]at hy;have run:∀b off len cap,val=.slice (some ⟨b,off,none⟩) len cap->0<=n->n<len->(execOp ρ o).run P w=.ok (.value (.pointer (some ⟨b,off+n.toNat*sz,none⟩))) w:=by intro b off len cap hv h0 h1;simp[execOp,ho,hv0,hv,Instr.indexAt,ou hk,cg hu,h0,h1,ic hsz,pR]
     split at hy
     .rename_i sz' id off len;split at hy
      .rename_i hb;obtain⟨h0,h1,rfl⟩:=hb;obtain rfl:=aa hy;cases hr with
       |@fy _ _ _ cap addr hkn hcap haddr hext=>
        refine dK.pure hI (run _ _ _ _ rfl h0 h1) (.c ?_);have ha:=haddr (by omega);have e1:addr+n.toNat*(φ id).sz=(φ id).aR+(off+n.toNat)*(φ id).sz+0:=by rw[ha,bP];omega
        rw[e1];exact .ep hkn
      .simp at hy
     .rename_i sz' aq;split at hy
      .rename_i hb;obtain⟨h0,rfl⟩:=hb;split at hy
       .rename_i r hr';obtain rfl:=aa hy;cases hr with
        |d hd=>cases hd with|@sl _ _ b off cap g hb hsz0 hcap hrow hcell hrd=>have hlt:n.toNat<aq.length:=(ak.1 hr').1;refine dK.pure hI (run _ _ _ _ rfl h0 (by omega)) (.c (.d (.yG hb fun j z hj=>⟨_,hcell _ _ hr' j z hj,hrd _ _ hr' j z hj⟩)))|tK=>simp at hr'
       .simp at hy
      .simp at hy
     .simp at hy
    |some len=>
     obtain⟨el,hu,hsz⟩:=hu;simp only[iM]at hy;split at hy
     .rename_i hb;obtain⟨h0,h1⟩:=hb;have run:∀b off,val=.pointer (some ⟨b,off,none⟩)->(execOp ρ o).run P w=.ok (.value (.pointer (some ⟨b,off+n.toNat*sz,none⟩))) w:=by intro b off hv;have hu':∀w,(underlying t).run P w=.ok (.array len el) w:=cg hu;simp only[execOp,ho,hv0,hv,Instr.indexAt,Sem.run_bind,ou hk,Result.andThen_ok,hu',Instr.sureAddr,Sem.run_pure,h0,h1,and_self,if_true,ic hsz,pR]
      split at hy
      .rename_i id off;obtain rfl:=aa hy;cases hr with|op hkn=>refine dK.pure hI (run _ _ rfl) (.c ?_);rw[cP];exact .op hkn
      .rename_i id dl off;obtain rfl:=aa hy;cases hr with|ep hkn=>refine dK.pure hI (run _ _ rfl) (.c ?_);rw[cP];exact .ep hkn
      .rename_i cells;split at hy
       .obtain rfl:=aa hy;cases hr with
        |d hd=>
         cases hd with
         |@pt _ b off g hb hcell hrd=>
          refine dK.pure hI (run _ _ rfl) (.c (.d (.yG hb fun j z hj=>?_)));rw[eO]at hj;split at hj
          .rw [bQ]at hj;exact⟨_,by rw[cP];exact hcell _ _ hj,hrd _ _ hj⟩
          .simp at hj
       .simp at hy
      .simp at hy
     .simp at hy
   .simp at h
  .simp at h
theorem DG{t:TypeId}{x i:Operand}(ho:o.op=.index t x i)(hu:P.underlying t=some .string)(hI:Inv S K w0 Kn φ (aB H) w)
  {tx ti:Option TV} (hx:∀y,tx=some y->gr S w Kn φ y (ρ x)) (hi:∀y,ti=some y->gr S w Kn φ y (ρ i))
  (h:cQ call .pI [tx,ti] H nxt=some (v,u,aA,n')):dK P o ρ S K w0 w Kn φ (aB H) nxt n' v u:=by
 match tx,h,hx with
 |some (.c (.d (.lit (.string s)))),h,hx=>
  change (match cE ti with|some i=>(match(if 0<=i then s[i.toNat]?else none)with|some b=>some (lv (.int .u8 b.toNat),([]:fF),([]:List Nat),nxt)|none=>none)|none=>none)=_ at h;split at h
  .rename_i n hn;obtain⟨k,hk⟩:=jq hn hi;split at h
   .rename_i b hb;obtain⟨rfl,rfl,rfl,rfl⟩:lv (.int .u8 b.toNat)=v/\[]=u/\[]=aA/\nxt=n':=by simpa using h
    obtain⟨hv,_⟩:=(hx _ rfl).lit;exact dK.pure hI (by simp[execOp,ho,hv,Instr.index,ou hk,cg hu,hb]) (.oN rfl)
   .simp at h
  .simp at h
theorem Dd{t:TypeId}{agg:Bool}{n off:Nat}(ha:fW P t=some agg)(hn:fQ P t=some n){cs:List C}{aM:Array Value}{v:TV}(hlen:cs.length=aM.size)
  (hc:∀(i:Nat)(x:C),cs[i]?=some x->RC S w Kn φ x (aM.getD i undef)) (h:D5 agg n (cs.drop off)=some v):∃val,(part t aM off).run P w=.ok val w/\gr S w Kn φ v val:=by
 unfold D5 at h;cases agg with
 |true=>
  simp only[if_true]at h;split at h
  .rename_i hle;obtain rfl:=aa h;simp only[List.length_drop]at hle;refine⟨.agg (aM.extract off (off+n)),by simp[part,tM ha,ic hn],.agg ?_ fun i x hi=>?_⟩
   .simp;omega
   .rw [eO]at hi;split at hi
    .rename_i hin;rw[bQ]at hi;have hlt:off+i<aM.size:=by rw[<-hlen];exact(ak.1 hi).1
     have e1:(aM.extract off (off+n)).getD i undef=aM.getD (off+i) undef:=by
      have h1:(aM.extract off (off+n))[i]?=aM[off+i]?:=by rw[Array.getElem?_extract,if_pos (by omega)]
      simp only[Array.getD_eq_getD_getElem?,h1]
     rw[e1];exact hc _ _ hi
    .simp at hi
  .simp at h
 |false=>
  simp only[aT,if_false]at h;split at h
  .rename_i x r hd;obtain rfl:=aa h;have hx:cs[off]?=some x:=by have:=congrArg (fun l=>l[0]?) hd;simpa using this
   have hlt:off<aM.size:=by rw[<-hlen];exact(ak.1 hx).1
   refine⟨aM.getD off undef,?_,.c (hc _ _ hx)⟩;simp[part,tM ha,hlt]
  .simp at h
theorem K4{s:TypeId}{f n:Nat}{agg:Bool}{fields:Array Field}{fl:Field}{x:Operand}(ho:o.op=.field s x f)(hu:P.underlying s=some (.struct fields))(hf:fields[f]?=some fl)
  (ha:fW P fl.type=some agg) (hs:fQ P fl.type=some n) (hI:Inv S K w0 Kn φ (aB H) w) {tv:Option TV} (hx:∀y,tv=some y->gr S w Kn φ y (ρ x))
  (h:cQ call (.field agg fl.offset n) [tv] H nxt=some (v,u,aA,n')):dK P o ρ S K w0 w Kn φ (aB H) nxt n' v u:=by
 match tv,h,hx with
 |some (.agg cs),h,hx=>
  change (match D5 agg n (cs.drop fl.offset)with|some v=>some (v,([]:fF),([]:List Nat),nxt)|none=>none)=_ at h;split at h
  .rename_i y hy;obtain⟨rfl,rfl,rfl,rfl⟩:y=v/\[]=u/\[]=aA/\nxt=n':=by simpa using h
   have hr:=hx _ rfl;generalize hv0:ρ x=val at hr;cases hr with|agg hlen hc=>obtain⟨val,h1,h2⟩:=Dd ha hs hlen hc hy;exact dK.pure hI (by simp[execOp,ho,hv0,Instr.field,cg hu,hf,asAgg,h1]) h2
  .simp at h
theorem K3{t el:TypeId}{len n:Nat}{agg:Bool}{x i:Operand}(ho:o.op=.index t x i)(hu:P.underlying t=some (.array len el))
  (ha:fW P el=some agg) (hs:fQ P el=some n) (hI:Inv S K w0 Kn φ (aB H) w) {tx ti:Option TV} (hx:∀y,tx=some y->gr S w Kn φ y (ρ x)) (hi:∀y,ti=some y->gr S w Kn φ y (ρ i))
  (h:cQ call (.index agg len n) [tx,ti] H nxt=some (v,u,aA,n')):dK P o ρ S K w0 w Kn φ (aB H) nxt n' v u:=by
 match tx,h,hx with
 |some (.agg cs),h,hx=>
  change (match cE ti with|some i=>(if 0<=i/\i<len then(match D5 agg n (cs.drop (i.toNat*n))with|some v=>some (v,([]:fF),([]:List Nat),nxt)|none=>none)else none)|none=>none)=_ at h;split at h
  .rename_i m hm;obtain⟨k,hk⟩:=jq hm hi;split at h
   .rename_i hb;split at h
    .rename_i y hy;obtain⟨rfl,rfl,rfl,rfl⟩:y=v/\[]=u/\[]=aA/\nxt=n':=by simpa using h
     have hr:=hx _ rfl;generalize hv0:ρ x=val at hr;cases hr with|agg hlen hc=>obtain⟨val,h1,h2⟩:=Dd ha hs hlen hc hy;exact dK.pure hI (by simp[execOp,ho,hv0,Instr.index,ou hk,cg hu,hb.1,hb.2,ic hs,h1]) h2
    .simp at h
   .simp at h
  .simp at h
end
section
variable{P:Program}{S K:Nat->Prop}{w0 w:World}{Kn:Nat->Prop}{φ:Nat->gO}{H:bF}{e:jP}{ρ:Operand->Value}{o:Oper}{call:Call}
 {nxt n':Nat} {v:TV} {u:fF} {aA:List Nat}
def RP(m:Bool):Value->Value->Sem Value:=if m then Builtin.max2 else Builtin.min2
theorem NW{m:Bool}{x y z:Value}(h:S8 m x y=some z):(RP m x y).run P w=.ok z w/\eu z=true:=by
 unfold S8 at h;split at h
 .rename_i k a k' b;split at h
  .obtain rfl:=aa h;cases m<;>simp[RP,Builtin.max2,Builtin.min2,eu]
  .simp at h
 .rename_i k a k' b;split at h
  .rename_i hk;subst hk;split at h
   .simp at h
   .rename_i ho;obtain rfl:=aa h;cases m<;>simp[RP,Builtin.max2,Builtin.min2,eu,ho]
   .rename_i ho;obtain rfl:=aa h;cases m<;>simp[RP,Builtin.max2,Builtin.min2,eu,ho]
   .rename_i ho;obtain rfl:=aa h;cases m<;>simp[RP,Builtin.max2,Builtin.min2,eu,ho]
  .simp at h
 .simp at h
theorem NV{m:Bool}(hρ:∀x tv,kU e x=some tv->gr S w Kn φ tv (ρ x)):∀(r:List Operand)(x z:Value),eu x=true->Pv m x (r.map (kU e))=some z->
  ((r.map ρ).foldlM (RP m) x).run P w=.ok z w/\eu z=true:=by
 intro r;induction r with
 |nil=>
  intro x z hp h;obtain rfl:x=z:=by simpa[Pv]using h
  exact⟨rfl,hp⟩
 |cons a r ih=>
  intro x z hp h;simp only[aD]at h|-
  match ha:kU e a,h with
  |some (.c (.d (.lit y))),h=>
   simp only[Pv]at h;split at h
   .rename_i z' hz;obtain⟨h1,h2⟩:=NW (P:=P) (w:=w) hz;obtain⟨hv,_⟩:=(hρ a _ ha).lit;obtain⟨h3,h4⟩:=ih z' z h2 h;refine⟨?_,h4⟩;simp only[List.foldlM_cons,Sem.run_bind,hv,h1,Result.andThen_ok,h3]
   .simp at h
theorem AY{m:Bool}{c:Go.Call}(ho:o.op=.call c)(hcal:c.callee=.builtin (if m then .max else .min))(hI:Inv S K w0 Kn φ (aB H) w)
  (hρ:∀x tv,kU e x=some tv->gr S w Kn φ tv (ρ x)) (h:cQ call (.uP m) (c.args.toList.map (kU e)) H nxt=some (v,u,aA,n')):dK P o ρ S K w0 w Kn φ (aB H) nxt n' v u:=by
 generalize hargs:c.args.toList=args at h;cases args with
 |nil=>simp[cQ]at h
 |cons a r=>
  simp only[aD]at h
  match ha:kU e a,h with
  |some (.c (.d (.lit x))),h=>
   change (match Pv m x (r.map (kU e))with|some v=>some (lv v,([]:fF),([]:List Nat),nxt)|none=>none)=_ at h;split at h
   .rename_i z hz;obtain⟨rfl,rfl,rfl,rfl⟩:lv z=v/\[]=u/\[]=aA/\nxt=n':=by simpa using h
    obtain⟨hv,hp⟩:=(hρ a _ ha).lit;obtain⟨h1,h2⟩:=NV (P:=P) hρ r x z hp hz;refine dK.pure hI ?_ (.oN h2);have e1:List.map ρ c.args.toList=x::r.map ρ:=by rw[hargs,aD,hv]
    cases m
    .simp only[aT,if_false]at hcal;have h1':((r.map ρ).foldlM Builtin.min2 x).run P w=.ok z w:=h1;simp[execOp,ho,hcal,resolve,invoke,builtin,Builtin.min_,e1,h1']
    .simp only[if_true]at hcal;have h1':((r.map ρ).foldlM Builtin.max2 x).run P w=.ok z w:=h1;simp[execOp,ho,hcal,resolve,invoke,builtin,Builtin.max_,e1,h1']
   .simp at h
def CR(S:Nat->Prop)(w:World)(Kn:Nat->Prop)(φ:Nat->gO)(cs:List C)(vs:List Value):Prop:=cs.length=vs.length/\∀(i:Nat)(x:C)(y:Value),cs[i]?=some x->vs[i]?=some y->RC S w Kn φ x y
theorem CR.aV{cs ds:List C}{vs us:List Value}(h1:CR S w Kn φ cs vs)(h2:CR S w Kn φ ds us)(off:Nat)(hfit:off+ds.length<=cs.length):
  CR S w Kn φ (aV cs off ds) (aV vs off us):=by
 have hl1:=h1.1;have hl2:=h2.1;refine⟨by rw[eU _ _ _ hfit,eU _ _ _ (by omega)];exact h1.1,fun i x y hx hy=>?_⟩;rw[jD _ _ _ hfit]at hx;rw[jD _ _ _ (by omega)]at hy;by_cases c1:i<off
 .rw [if_pos c1]at hx hy;exact h1.2 i x y hx hy
 .rw [if_neg c1]at hx hy;by_cases c2:i<off+ds.length
  .rw [if_pos c2]at hx;rw[if_pos (by omega)]at hy;exact h2.2 _ x y hx hy
  .rw [if_neg c2]at hx;rw[if_neg (by omega)]at hy;exact h1.2 i x y hx hy
theorem gr.cr{tv:TV}{val:Value}{cs:List C}(h:gr S w Kn φ tv val)(hc:cellsOf tv=some cs):CR S w Kn φ cs val.cells.toList:=by
 obtain⟨h1,h2,_⟩:=h.cells hc;refine⟨by simpa using h1,fun i x y hx hy=>?_⟩;have:=h2 i x hx;have e1:val.cells.getD i undef=y:=by rw[a_]at hy;simp[hy]
 rwa[e1]at this
theorem Cq{cs:List C}{aM:Array Value}(h:CR S w Kn φ cs aM.toList):cs.length=aM.size/\∀(i:Nat)(x:C),cs[i]?=some x->RC S w Kn φ x (aM.getD i undef):=by
 have hl:cs.length=aM.size:=by simpa using h.1
 refine⟨hl,fun i x hx=>?_⟩;have hlt:i<aM.size:=by rw[<-hl];exact(ak.1 hx).1
 refine h.2 i x _ hx ?_;simp[hlt]
theorem LA:∀(l:List Value)(k:Nat)(aM:Array Value)(off:Nat),off+k+l.length<=aM.size->
  ((l.zipIdx k).foldl (fun(cs:Array Value)(p:Value×Nat)=>cs.setIfInBounds (off+p.2) p.1) aM).toList=aV aM.toList (off+k) l:=by
 intro l;induction l with
 |nil=>intro k aM off _;simp[aV]
 |cons a l ih=>
  intro k aM off hfit;simp only[db]at hfit;simp only[List.zipIdx_cons,List.foldl_cons];rw[ih (k+1) (aM.setIfInBounds (off+k) a) off (by simp;omega)];apply List.ext_getElem?;intro i;rw[jD _ _ _ (by simp;omega),jD _ _ _ (by simp;omega)];simp only[Array.toList_setIfInBounds,List.getElem?_set,db];by_cases c1:i<off+k
  .have c3:i<off+(k+1):=by omega
   have c4:¬off+k=i:=by omega
   simp[c1,c3,c4]
  .by_cases c2:i=off+k
   .subst c2;have:off+k<off+(k+1):=by omega
    have c5:off+k<aM.size:=by omega
    simp[this,c5]
   .have c3:¬i<off+(k+1):=by omega
    have c4:¬off+k=i:=by omega
    by_cases c5:i<off+k+(l.length+1)
    .have c6:i<off+(k+1)+l.length:=by omega
     have c7:i-(off+k)=(i-(off+(k+1)))+1:=by omega
     simp[c1,c3,c5,c6,c7]
    .have c6:¬i<off+(k+1)+l.length:=by omega
     simp[c1,c3,c4,c5,c6]
theorem O7(vs aM:Array Value)(off:Nat)(hfit:off+vs.size<=aM.size):
  (vs.zipIdx.foldl (fun(cs:Array Value)(p:Value×Nat)=>cs.setIfInBounds (off+p.2) p.1) aM).toList=aV aM.toList off vs.toList:=by
 rw[<-Array.foldl_toList,Array.toList_zipIdx];have:=LA vs.toList 0 aM off (by simpa using hfit);simpa using this
theorem zr(sP:Nat->Option (Nat×Nat)):∀(parts:List (Nat×Operand))(pl:List (Nat×Nat))(xs:List TV)(cs cs':List C)(aM:Array Value),
  pl.length=parts.length->(∀(i:Nat)(p:Nat×Operand)(q:Nat×Nat),parts[i]?=some p->pl[i]?=some q->sP p.1=some q)->
  xs.length=parts.length->(∀(i:Nat)(p:Nat×Operand)(x:TV),parts[i]?=some p->xs[i]?=some x->gr S w Kn φ x (ρ p.2))->
  CR S w Kn φ cs aM.toList->nk cs (pl.zip xs)=some cs'->
  ∃arr',Instr.fill sP aM (parts.map fun p=>(p.1,ρ p.2))=some arr'/\CR S w Kn φ cs' arr'.toList:=by
 intro parts;induction parts with
 |nil=>
  intro pl xs cs cs' aM h1 _ h2 _ hcr h;have e1:pl=[]:=List.length_eq_zero_iff.1 h1;subst e1;obtain rfl:cs=cs':=by simpa[nk]using h
  exact⟨aM,rfl,hcr⟩
 |cons p parts ih=>
  intro pl xs cs cs' aM h1 hpl h2 hxs hcr h;cases pl with
  |nil=>simp at h1
  |cons q pl=>
   cases xs with
   |nil=>simp at h2
   |cons x xs=>
    obtain⟨off,n⟩:=q;simp only[List.zip_cons_cons,nk]at h;split at h
    .rename_i ds hds;split at h
     .rename_i hb;obtain⟨hb1,hb2⟩:=hb;have hp:=hpl 0 p (off,n) rfl rfl;have hx:=(hxs 0 p x rfl rfl).cr hds;have hsz:(ρ p.2).cells.size=n:=by have:=hx.1;simp at this;omega
      have hal:cs.length=aM.size:=by simpa using hcr.1
      have hcr':=hcr.aV hx off (by omega);rw[<-O7 (ρ p.2).cells aM off (by omega)]at hcr'
      obtain⟨arr',h3,h4⟩:=ih pl xs _ cs' _ (by simpa using h1) (fun i p q hp hq=>hpl (i+1) p q (by simpa using hp) (by simpa using hq)) (by simpa using h2)
       (fun i p x hp hx=>hxs (i+1) p x (by simpa using hp) (by simpa using hx)) hcr' h
      refine⟨arr',?_,h4⟩;simp only[aD,Instr.fill,hp];rw[if_neg (by simp[hsz];omega)];exact h3
     .simp at h
    .simp at h
theorem HB{z:List Value}(hp:∀x∈z,eu x=true):CR S w Kn φ (fz z) z:=by refine⟨by simp[fz],fun i x y hx hy=>?_⟩;simp only[fz,aH,hy,bN]at hx;obtain rfl:=aa hx;exact .d (.lit (hp y (aX hy)))
theorem FM{fields:Array Field}:∀{is:List Nat}{pl:List (Nat×Nat)},j4 P fields is=some pl->pl.length=is.length/\
  ∀(k i:Nat)(q:Nat×Nat),is[k]?=some i->pl[k]?=some q->∃f,fields[i]?=some f/\q.1=f.offset/\fQ P f.type=some q.2:=by
 intro is;induction is with
 |nil=>
  intro pl h;obtain rfl:[]=pl:=by simpa[j4]using h
  exact⟨rfl,fun k i q hk=>by simp at hk⟩
 |cons i is ih=>
  intro pl h;simp only[j4]at h;split at h
  .rename_i f l hf hl;split at h
   .rename_i n hn;obtain rfl:=aa h;obtain⟨h1,h2⟩:=ih hl;refine⟨by simp[h1],fun k j q hk hq=>?_⟩;cases k with
    |zero=>
     obtain rfl:i=j:=by simpa using hk
     obtain rfl:(f.offset,n)=q:=by simpa using hq
     exact⟨f,hf,rfl,hn⟩
    |succ k=>exact h2 k j q (by simpa using hk) (by simpa using hq)
   .simp at h
  .simp at h
theorem Fy(g:Field->Nat×Nat):∀(l:List Field),(∀f∈l,∃n,fQ P f.type=some n/\g f=(f.offset,n))->
  (l.mapM fun f=>(do pure (f.offset,<-sizeOf f.type):Sem (Nat×Nat))).run P w=.ok (l.map g) w:=by
 intro l;induction l with|nil=>intro _;rfl|cons f l ih=>intro h;obtain⟨n,hn,hg⟩:=h f (by simp);have:=ih fun f hf=>h f (by simp[hf]);simp only[List.mapM_cons,Sem.run_bind,ic hn,Result.andThen_ok,Sem.run_pure,this,aD,hg]
theorem DK{t:TypeId}{parts:Array (Nat×Operand)}{z:List Value}{pl:List (Nat×Nat)}(ho:o.op=.build t parts)(hz:jX P t=some z)
  (hu:(∃fields,P.underlying t=some (.struct fields)/\j4 P fields (parts.toList.map (·.1))=some pl/\fields.toList.all (fun f=>(fQ P f.type).isSome)=true)\/
   (∃len el n,P.underlying t=some (.array len el)/\fQ P el=some n/\pl=parts.toList.map fun p=>(p.1*n,n)))
  (hI:Inv S K w0 Kn φ (aB H) w) (hρ:∀x tv,kU e x=some tv->gr S w Kn φ tv (ρ x))
  (h:cQ call (.build z pl) ((parts.toList.map (·.2)).map (kU e)) H nxt=some (v,u,aA,n')):dK P o ρ S K w0 w Kn φ (aB H) nxt n' v u:=by
 change (match eM ((parts.toList.map (·.2)).map (kU e))with
  |some xs=>(match nk (fz z) (pl.zip xs)with|some cs=>some (TV.agg cs,([]:fF),([]:List Nat),nxt)|none=>none)
  |none=>none)=_ at h
 split at h
 .rename_i xs hxs;split at h
  .rename_i cs hcs;obtain⟨rfl,rfl,rfl,rfl⟩:TV.agg cs=v/\[]=u/\[]=aA/\nxt=n':=by simpa using h
   obtain⟨hl,hr⟩:=vN hρ hxs;obtain⟨zv,hzr,hzl,hzp⟩:=py hz w
   have key:∀sP:Nat->Option (Nat×Nat),pl.length=parts.toList.length->(∀(i:Nat)(p:Nat×Operand)(q:Nat×Nat),parts.toList[i]?=some p->pl[i]?=some q->sP p.1=some q)->
     ∃arr',Instr.fill sP zv.cells ((parts.map fun p=>(p.1,ρ p.2)).toList)=some arr'/\CR S w Kn φ cs arr'.toList:=by
    intro sP h1 h2
    have:=zr (S:=S) (w:=w) (Kn:=Kn) (φ:=φ) (ρ:=ρ) sP parts.toList pl xs (fz z) cs zv.cells h1 h2 (by simpa using hl) (fun i p x hp hx=>hr i p.2 x (by simp only[aH,hp,bN]) hx)
     (by rw[hzl];exact HB hzp) hcs
    simpa using this
   rcases hu with⟨fields,hu,hpl,hall⟩|⟨len,el,n,hu,hn,rfl⟩
   .obtain ⟨h1,h2⟩:=FM hpl;let g:Field->Nat×Nat:=fun f=>(f.offset,(fQ P f.type).getD 0)
    have hg:(fields.mapM fun f=>(do pure (f.offset,<-sizeOf f.type):Sem (Nat×Nat))).run P w=.ok (fields.map g) w:=by
     rw[Array.mapM_eq_mapM_toList];have:=Fy (P:=P) (w:=w) g fields.toList fun f hf=>by have:=bd.1 hall f hf;obtain⟨n,hn⟩:=Option.isSome_iff_exists.1 this;exact⟨n,hn,by simp[g,hn]⟩
     simp only[Sem.run_map,this,Result.andThen_ok];congr 1;apply Array.ext';rw[Array.toList_map]
    obtain⟨arr',h3,h4⟩:=key (fun i=>(fields.map g)[i]?) (by simpa using h1) (fun i p q hp hq=>by obtain⟨f,hf,hq1,hq2⟩:=h2 i p.1 q (by simp only[aH,hp,bN]) hq;simp only[Array.getElem?_map,hf,bN,g,hq2,fK,<-hq1]);obtain⟨h5,h6⟩:=Cq h4;refine dK.pure (val:=.agg arr') hI ?_ (.agg h5 h6);simp only[execOp,ho,Sem.run_bind,Instr.build,hzr,Result.andThen_ok,cg hu,hg,h3,Sem.run_pure]
   .obtain ⟨arr',h3,h4⟩:=key (fun i=>some (i*n,n)) (by simp) (fun i p q hp hq=>by simp only[aH,hp,bN]at hq;exact hq);obtain⟨h5,h6⟩:=Cq h4;refine dK.pure (val:=.agg arr') hI ?_ (.agg h5 h6);simp only[execOp,ho,Sem.run_bind,Instr.build,hzr,Result.andThen_ok,cg hu,ic hn,h3,Sem.run_pure]
  .simp at h
 .simp at h
theorem lx.from{S1:Nat->Prop}{hf hf1:Nat->Option Ob}{u1 u2:fF}{val:Value}{w':World}(hs:hC S w S1 w)(he:hf1=bm u1 hf)(h:lx S1 K w0 w Kn φ hf1 nxt n' v u2 val w'):
  lx S K w0 w Kn φ hf nxt n' v (u2++u1) val w':=by
 obtain⟨h1,S',φ',h2,h3,h4,h5⟩:=h;exact⟨h1,S',φ',hs.trans h2,h3,h4,by rw[eD,<-he];exact h5⟩
theorem GM{α:Type}(sz:Nat):∀(n:Nat)(l:List α),n*sz<=l.length->(mF sz n l).length=n/\∀i r,(mF sz n l)[i]?=some r->r=(l.drop (i*sz)).take sz/\r.length=sz:=by
 intro n;induction n with
 |zero=>intro l _;exact⟨rfl,fun i r hi=>by simp[mF]at hi⟩
 |succ n ih=>
  intro l hl;have e1:(n+1)*sz=n*sz+sz:=dR n sz;obtain⟨h1,h2⟩:=ih (l.drop sz) (by simp;omega);refine⟨by simp[mF,h1],fun i r hi=>?_⟩;cases i with
  |zero=>
   obtain rfl:l.take sz=r:=by simpa[mF]using hi
   exact⟨by simp,by simp;omega⟩
  |succ i=>obtain⟨h3,h4⟩:=h2 i r (by simpa[mF]using hi);refine⟨?_,h4⟩;rw[h3,List.drop_drop];congr 2;rw[dR];omega
theorem u7{zc:Array Value}{z:List Value}{sz n:Nat}(hz:zc.toList=z)(hl:z.length=sz)(hpos:0<sz):
  ((Array.range n).map (fun i=>zc[i %zc.size]!)).toList=(aL n).map fun i=>z.getD (i %sz) undef:=by
 simp only[Array.toList_map,Array.toList_range];apply List.map_congr_left;intro i _;have e1:zc.size=sz:=by rw[<-hl,<-hz];simp
 have hlt:i %sz<zc.size:=by rw[e1];exact Nat.mod_lt _ hpos
 rw[e1,<-hz];have:i %sz<zc.toList.length:=by simpa using hlt
 simp[hlt]
theorem Ai{t el:TypeId}{len n:Nat}{parts:Array (Nat×Operand)}{z:List Value}(ho:o.op=.buildSlice t len parts)(hu:P.underlying t=some (.slice el))
  (hs:fQ P el=some (n+1)) (hz:jX P el=some z) (hlim:len*(n+1)<=4096/\z.length=n+1)
  (hI:Inv S K w0 Kn φ (aB H) w) (hn0:nxt<n'->¬Kn nxt) (hρ:∀x tv,kU e x=some tv->gr S w Kn φ tv (ρ x))
  (h:cQ call (.buildSlice (n+1) len ((aL (len*(n+1))).map fun i=>z.getD (i %(n+1)) undef) (parts.toList.map (·.1))) ((parts.toList.map (·.2)).map (kU e)) H nxt=some (v,u,aA,n')):
  dK P o ρ S K w0 w Kn φ (aB H) nxt n' v u:=by
 generalize hzs:((aL (len*(n+1))).map fun i=>z.getD (i %(n+1)) undef)=zs at h
 change (match eM ((parts.toList.map (·.2)).map (kU e))with
  |some xs=>
   (match nk (fz zs) (((parts.toList.map fun(p:Nat×Operand)=>p.1).map fun i=>(i*(n+1),n+1)).zip xs)with
   |some cs=>
    (match dW H cs with
    |some (ds,aA)=>(match eh H aA aA with|some u=>some (TV.c (.fy (n+1) nxt 0 len),(nxt,some (Ob.aM (n+1) (mF (n+1) len ds)))::u,aA,nxt+1)|none=>none)
    |none=>none)
   |none=>none)
  |none=>none)=_ at h
 split at h
 .rename_i xs hxs;split at h
  .rename_i cs hcs;split at h
   .rename_i ds ids' hv;split at h
    .rename_i u' hfz;obtain⟨rfl,rfl,rfl,rfl⟩:TV.c (.fy (n+1) nxt 0 len)=v/\(nxt,some (Ob.aM (n+1) (mF (n+1) len ds)))::u'=u/\ids'=aA/\nxt+1=n':=by simpa using h
     have hn:=hn0 (aY _);obtain⟨hl,hr⟩:=vN hρ hxs;obtain⟨zv,hzr,hzl,hzp⟩:=py hz w
     have hzp':∀x∈zs,eu x=true:=by
      intro x hx;rw[<-hzs]at hx;obtain⟨i,_,rfl⟩:=cj.1 hx;have hlt:i %(n+1)<z.length:=by rw[hlim.2];exact Nat.mod_lt _ (dC _)
      have:z.getD (i %(n+1)) undef=z[i %(n+1)]:=by simp[lP,hlt]
      rw[this];exact hzp _ (List.getElem_mem hlt)
     have hzero:∃zc:Array Value,(len*(n+1)=0->zc= #[])/\(¬len*(n+1)=0->zc=zv.cells)/\
       ((Array.range (len*(n+1))).map (fun i=>zc[i %zc.size]!)).toList=zs:=by
      by_cases hc:len*(n+1)=0
      .refine ⟨#[],fun _=>rfl,fun h=>absurd hc h,?_⟩;rw[<-hzs,hc];simp
      .refine ⟨zv.cells,fun h=>absurd h hc,fun _=>rfl,?_⟩;rw[u7 hzl hlim.2 (dC _),hzs]
     obtain⟨zc,hzc,hzc1,hzc2⟩:=hzero
     obtain⟨arr',h3,h4⟩:=zr (S:=S) (w:=w) (Kn:=Kn) (φ:=φ) (ρ:=ρ) (fun i=>some (i*(n+1),n+1)) parts.toList _ xs (fz zs) cs ((Array.range (len*(n+1))).map (fun i=>zc[i %zc.size]!))
      (by simp) (fun i p q hp hq=>by simp only[aH,hp,bN]at hq;exact hq) (by simpa using hl)
      (fun i p x hp hx=>hr i p.2 x (by simp only[aH,hp,bN]) hx) (by rw[hzc2];exact HB hzp') hcs
     obtain⟨h5,h6⟩:=Cq h4
     have hcl:cs.length=len*(n+1):=by
      have:∀(l:List ((Nat×Nat)×TV))(a b:List C),nk a l=some b->b.length=a.length:=by
       intro l;induction l with
       |nil=>
        intro a b h;obtain rfl:a=b:=by simpa[nk]using h
        rfl
       |cons p l ih=>
        intro a b h;obtain⟨⟨off,m⟩,x⟩:=p;simp only[nk]at h;split at h
        .split at h
         .rename_i hb;rw[ih _ _ h,eU _ _ _ (by omega)]
         .simp at h
        .simp at h
      rw[this _ _ _ hcs,<-hzs];simp[fz]
     obtain⟨h7,h8⟩:=rl hI cs ds ids' hv (fun i=>arr'[i]?) (fun i c hi=>by
      have hlt:i<arr'.size:=by rw[<-h5];exact(ak.1 hi).1
      exact⟨arr'.getD i undef,by simp[hlt],h6 i c hi⟩)
     obtain⟨h9,h10⟩:=GM (n+1) len ds (by omega);have hI1:=hI.Gs hfz
     have hrows:cW (SB S w φ (aB H) ids') w (n+1) (fun i=>arr'[i]?) 0 (mF (n+1) len ds):=by
      refine⟨fun i r hi=>(h10 i r hi).2,fun i r hi j x hj=>?_⟩;rw[(h10 i r hi).1,eO]at hj;split at hj
      .rw [bQ]at hj;obtain⟨y,hy,hd⟩:=h8 _ x hj;exact⟨y,by rw[<-hy];simp,hd⟩
      .simp at hj
     have hD:=lx.aM (K:=K) (w0:=w0) hI1 hn (cap:=len) (aM:=arr') (sz:=n+1) el (dC n) (by omega) (by omega) hrows;rw[h9]at hD;refine⟨.value _,_,_,?_,.inl rfl,lx.from (u1:=u') (SB.uC _) rfl hD⟩;have h3':Instr.fill (fun i=>some (i*(n+1),n+1)) ((Array.range (len*(n+1))).map (fun i=>zc[i %zc.size]!)) (parts.map fun p=>(p.1,ρ p.2)).toList=some arr':=by rw[<-h3];simp
     have hlim':¬len*(n+1)>2^24:=by have:=hlim.1;omega
     simp only[execOp,ho,Sem.run_bind,Instr.buildSlice,cg hu,Result.andThen_ok,ic hs,if_neg hlim'];by_cases hc:len*(n+1)=0
     .rw [hzc hc]at h3';simp only[if_pos hc,Sem.run_bind,Sem.run_pure,Result.andThen_ok,h3',newRow,run_newObj]
     .rw [hzc1 hc]at h3';simp only[if_neg hc,Sem.run_bind,hzr,Sem.run_pure,Result.andThen_ok,h3',newRow,run_newObj]
    .simp at h
   .simp at h
  .simp at h
 .simp at h
end
section
variable{P:Program}{S K:Nat->Prop}{w0 w:World}{Kn:Nat->Prop}{φ:Nat->gO}{H:bF}{e:jP}{ρ:Operand->Value}{o:Oper}{call:Call}
 {nxt n':Nat} {v:TV} {u:fF} {aA:List Nat}
theorem tq{el:TypeId}(h:pk P el=true):∃i,P.info? el=some i/\0<i.bytes/\i.bytes<=16384:=by
 unfold pk at h;split at h
 .rename_i i hi;simp only[Bool.and_eq_true,decide_eq_true_eq]at h;exact⟨i,hi,h.1,h.2⟩
 .simp at h
theorem vo{t el:TypeId}{n:Nat}{l c:Operand}{z:List Value}(ho:o.op=.makeSlice t l c)(hu:P.underlying t=some (.slice el))
  (hs:fQ P el=some (n+1)) (hz:jX P el=some z) (hzl:z.length=n+1) (hb:pk P el=true)
  (hI:Inv S K w0 Kn φ (aB H) w) (hn0:nxt<n'->¬Kn nxt) {tl tc:Option TV} (hl:∀y,tl=some y->gr S w Kn φ y (ρ l)) (hc:∀y,tc=some y->gr S w Kn φ y (ρ c))
  (h:cQ call (.makeSlice z) [tl,tc] H nxt=some (v,u,aA,n')):dK P o ρ S K w0 w Kn φ (aB H) nxt n' v u:=by
 change (match cE tl,cE tc with
  |some l,some c=>if 0<=l/\l<=c/\c<=D1 then some (TV.c (.fy z.length nxt 0 l.toNat),[(nxt,some (Ob.aM z.length (az l.toNat (cF z))))],([]:List Nat),nxt+1)else none
  |_,_=>none)=_ at h
 split at h
 .rename_i a b ha hb';split at h
  .rename_i hle;obtain⟨h0,h1,h2⟩:=hle;obtain⟨rfl,rfl,rfl,rfl⟩:TV.c (.fy z.length nxt 0 a.toNat)=v/\[(nxt,some (Ob.aM z.length (az a.toNat (cF z))))]=u/\[]=aA/\nxt+1=n':=by simpa using h
   have hn:=hn0 (aY _);obtain⟨k1,hk1⟩:=jq ha hl;obtain⟨k2,hk2⟩:=jq hb' hc;obtain⟨i,hi,hby0,hby⟩:=tq hb;obtain⟨zv,hzr,hzv,hzp⟩:=py hz w;simp only[D1]at h2;have hwa:IntKind.i64.wrap a=a:=ux h0 (by omega);have hwb:IntKind.i64.wrap b=b:=ux (by omega) (by omega);have hmul:(i.bytes:Int)*b<=16384*2147483648:=Int.mul_le_mul (by omega) (by omega) (by omega) (by omega);have hsz:(z.length)=zv.cells.size:=by rw[<-hzv];simp
   let aM:Array Value:=(Array.range (b.toNat*(n+1))).map (fun i=>zv.cells[i %zv.cells.size]!);have harr:aM.toList=(aL (b.toNat*(n+1))).map fun i=>z.getD (i %(n+1)) undef:=u7 hzv hzl (dC _);have hsize:aM.size=b.toNat*(n+1):=by simp[aM]
   have hrows:cW S w (n+1) (fun i=>aM[i]?) 0 (az a.toNat (cF z)):=by
    refine⟨fun i r hi=>?_,fun i r hi j x hj=>?_⟩
    .obtain ⟨_,rfl⟩:i<a.toNat/\cF z=r:=by
      rw[dF]at hi;split at hi
      .rename_i hlt;exact⟨hlt,aa hi⟩
      .simp at hi
     simp[cF,hzl]
    .obtain ⟨hlt,rfl⟩:i<a.toNat/\cF z=r:=by
      rw[dF]at hi;split at hi
      .rename_i hlt;exact⟨hlt,aa hi⟩
      .simp at hi
     simp only[cF,aH]at hj;obtain⟨y,hy,rfl⟩:=aF.1 hj;have hjl:j<n+1:=by rw[<-hzl];exact(ak.1 hy).1
     refine⟨y,?_,.lit (hzp y (aX hy))⟩;have hidx:i*(n+1)+j<b.toNat*(n+1):=by have:(i+1)*(n+1)<=b.toNat*(n+1):=aI _ (by omega);rw[dR]at this;omega
     show aM[0+i*(n+1)+j]?=some y;rw[<-a_,harr,bL,aH,jW hidx];have e1:(i*(n+1)+j) %(n+1)=j:=by rw[Nat.add_comm,Nat.add_mul_mod_self_right];exact Nat.mod_eq_of_lt hjl
     simp[e1,lP,hy]
   have hD:=lx.aM (K:=K) (w0:=w0) hI hn (cap:=b.toNat) (aM:=aM) el (dC n) (by simp;omega) (by rw[hsize];exact au _) hrows;rw[dh]at hD;rw[hzl];refine⟨.value (.slice (some ⟨w.heap.size,0,none⟩) a.toNat b.toNat),_,_,?_,.inl rfl,hD⟩;have hinfo:∀w:World,(typeInfo el).run P w=.ok i w:=fun w=>by simp[typeInfo,hi]
   have harr0:∀zc:Array Value,(b.toNat*(n+1)=0->zc= #[])->(¬b.toNat*(n+1)=0->zc=zv.cells)->((Array.range (b.toNat*(n+1))).map (fun i=>zc[i %zc.size]!))=aM:=by
    intro zc h1 h2;by_cases hc0:b.toNat*(n+1)=0
    .apply Array.ext';rw[harr,hc0];simp
    .rw [h2 hc0]
   have hnl:¬(decide (b<0)||decide ((i.bytes:Int)*b>2^48))=true:=by simp only[cM,decide_eq_true_eq,not_or];constructor<;>omega
   simp only[execOp,ho,Sem.run_bind,Instr.makeSlice,cg hu,Result.andThen_ok,wi hk1,wi hk2,hinfo,hwa,hwb];rw[Sem.run_ite,if_neg (by simp only[cM,decide_eq_true_eq];simp only[cM,decide_eq_true_eq]at hnl;omega)];simp only[Sem.run_pure,Result.andThen_ok,Sem.run_bind,run_askRoom,ic hs];by_cases hc0:b.toNat*(n+1)=0
   .have:=harr0 #[] (fun _=>rfl) (fun h=>absurd hc0 h);simp only[if_pos hc0,Sem.run_bind,Sem.run_pure,Result.andThen_ok,newRow,run_newObj,this]
   .have:=harr0 zv.cells (fun h=>absurd h hc0) (fun _=>rfl);simp only[if_neg hc0,Sem.run_bind,hzr,Sem.run_pure,Result.andThen_ok,newRow,run_newObj,this]
  .simp at h
 .simp at h
theorem KZ{t el:TypeId}{n m:Nat}{l c:Operand}{z:List Value}(ho:o.op=.makeSlice t l c)(hu:P.underlying t=some (.slice el))
  (hs:fQ P el=some (n+1)) (hz:jX P el=some z) (hzl:z.length=n+1) (hb:pk P el=true) (hz1:Gf z=true) (hm:0<m)
  (hI:Inv S K w0 Kn φ (aB H) w) (hn0:nxt<n'->¬Kn nxt) {tl tc:Option TV} (hl:∀y,tl=some y->gr S w Kn φ y (ρ l)) (hc:∀y,tc=some y->gr S w Kn φ y (ρ c))
  (h:cQ call (.A3 m) [tl,tc] H nxt=some (v,u,aA,n')):dK P o ρ S K w0 w Kn φ (aB H) nxt n' v u:=by
 obtain rfl:z=[.slice none 0 0]:=by
  unfold Gf at hz1;split at hz1
  .rfl
  .simp at hz1
 change (match cE tl,cE tc with
  |some l,some c=>if 0<=l/\l<=c/\c<=D1 then some (TV.c (.fy 1 nxt 0 l.toNat),[(nxt,some (Ob.nst m (az l.toNat .nil)))],([]:List Nat),nxt+1)else none
  |_,_=>none)=_ at h
 split at h
 .rename_i a b ha hb';split at h
  .rename_i hle;obtain⟨rfl,rfl,rfl,rfl⟩:TV.c (.fy 1 nxt 0 a.toNat)=v/\[(nxt,some (Ob.nst m (az a.toNat .nil)))]=u/\[]=aA/\nxt+1=n':=by simpa using h
   have hev:cQ call (.makeSlice [.slice none 0 0]) [tl,tc] H nxt=some (TV.c (.fy 1 nxt 0 a.toNat),[(nxt,some (Ob.aM 1 (az a.toNat (cF [.slice none 0 0]))))],[],nxt+1):=by
    show(match cE tl,cE tc with
     |some l,some c=>if 0<=l/\l<=c/\c<=D1 then some (TV.c (.fy ([.slice none 0 0]:List Value).length nxt 0 l.toNat),[(nxt,some (Ob.aM ([.slice none 0 0]:List Value).length (az l.toNat (cF [.slice none 0 0]))))],([]:List Nat),nxt+1)else none
     |_,_=>none)=_
    rw[ha,hb'];show(if 0<=a/\a<=b/\b<=D1 then _ else _)=_;rw[if_pos hle];rfl
   obtain⟨nx,val,w',h1,h2,h3,S',φ',h4,h5,h6,h7⟩:=vo ho hu hs hz hzl hb hI hn0 hl hc hev;refine⟨nx,val,w',h1,h2,h3,S',φ',h4,h5,h6,?_⟩;have e1:bm [(nxt,some (Ob.aM 1 (az a.toNat (cF [.slice none 0 0]))))] (aB H) nxt=some (.aM 1 (az a.toNat (cF [.slice none 0 0]))):=by rw[bT,if_pos rfl]
   obtain⟨_,hro⟩:=h7.iR nxt _ e1
   have h8:=h7.Tf (o':=.nst m (az a.toNat .nil)) e1 rfl (fun sz sl k aq e hk=>by
    cases e;rw[dF]at hk;split at hk<;>cases hk) (by
    cases hro with
    |aM hsz hl hS hK hown hext hfit hrr hv=>
     rw[dh]at hv hfit;refine .nst hm hl hS hK hown hext (by rw[dh];omega) (fun i s hi=>?_) (by rw[dh];exact hv);rw[dF]at hi;split at hi
     .rename_i hlt;obtain rfl:=aa hi;obtain⟨v,q1,q2⟩:=hrr.2 i (cF [.slice none 0 0]) (by rw[dF,if_pos hlt]) 0 _ rfl;cases q2 with|lit _=>exact⟨_,by rw[<-q1];simp,.nil⟩
     .cases hi)
   have e2:bm [(nxt,some (Ob.nst m (az a.toNat .nil)))] (bm [(nxt,some (Ob.aM 1 (az a.toNat (cF [.slice none 0 0]))))] (aB H))=bm [(nxt,some (Ob.nst m (az a.toNat .nil)))] (aB H):=by
    funext j;simp only[bT,fP];by_cases e:nxt=j
    .rw [if_pos e,if_pos e]
    .rw [if_neg e,if_neg e,if_neg e]
   rw[e2]at h8;exact h8
  .simp at h
 .simp at h
theorem CR.mono{S':Nat->Prop}{w':World}{Kn':Nat->Prop}{φ':Nat->gO}(hs:hC S w S' w')(hr:Ren Kn φ Kn' φ'){cs:List C}{vs:List Value}(h:CR S w Kn φ cs vs):CR S' w' Kn' φ' cs vs:=⟨h.1,fun i x y hx hy=>(h.2 i x y hx hy).mono hs hr⟩
theorem Rr{cs:List C}{aM:Array Value}(h1:cs.length=aM.size)(h2:∀(i:Nat)(x:C),cs[i]?=some x->RC S w Kn φ x (aM.getD i undef)):CR S w Kn φ cs aM.toList:=by
 refine⟨by simpa using h1,fun i x y hx hy=>?_⟩;have:=h2 i x hx;rw[a_]at hy;have e1:aM.getD i undef=y:=by simp[hy]
 rwa[e1]at this
theorem nP{b o n:Nat}{aM:Array Value}{vs:List Value}(ho:nw w b aM)(hn:vs.length=n):
  nw (w.setRow b (aM.toList.take o++vs++aM.toList.drop (o+n)).toArray) b (aV aM.toList o vs).toArray/\
  (∀c,c≠b->(w.setRow b (aM.toList.take o++vs++aM.toList.drop (o+n)).toArray).heap[c]?=w.heap[c]?)/\
  (w.setRow b (aM.toList.take o++vs++aM.toList.drop (o+n)).toArray).heap.size=w.heap.size/\
  (∀a,(w.setRow b (aM.toList.take o++vs++aM.toList.drop (o+n)).toArray).frozen? a=w.frozen? a)/\
  (o+n<=aM.size->∀arr1,nw w b arr1->∃arr',nw (w.setRow b (aM.toList.take o++vs++aM.toList.drop (o+n)).toArray) b arr'/\arr'.size=arr1.size):=by
 rw[Qh hn];refine⟨yL ho,fun c hc=>setRow_other w b c _ hc,by simp,As ho,fun hle arr1 h1=>⟨_,yL ho,?_⟩⟩;obtain⟨t1,h1⟩:=h1;obtain⟨t2,h2⟩:=ho;rw[h1]at h2;obtain rfl:arr1=aM:=by simp at h2;exact h2.1
 simp only[cV];rw[eU _ _ _ (by simp;omega)];simp
theorem Inv.CL{hf hf':Nat->Option Ob}{S':Nat->Prop}{w':World}(_:Inv S K w0 Kn φ hf w)(hs:hC S w S' w')(hI:Inv S' K w0 Kn φ hf' w'){u:fF}{n:Nat}(he:hf'=bm u hf):
  lx S K w0 w Kn φ hf n n (.iT []) u undef w':=
 ⟨au _,S',φ,hs,tP _ _,.iT rfl (fun i x hi=>by simp at hi),he▸hI.kn fun _ h=>.inl h⟩
theorem Dg{sz aR dl off:Nat}{aq:List (List D)}{r ds:List D}{aM:Array Value}{vs:List Value}(h:cW S w sz (fun i=>aM[i]?) aR aq)(hrow:aq[dl]?=some r)
  (hfit:off+ds.length<=r.length) (hl:ds.length=vs.length) (hd:∀(i:Nat)(x:D),ds[i]?=some x->∃y,vs[i]?=some y/\RD S w x y) (hsz:aR+aq.length*sz<=aM.size):
  cW S w sz (fun i=>(aV aM.toList (aR+dl*sz+off) vs).toArray[i]?) aR (aq.set dl (aV r off ds)):=by
 have hrl:=h.1 dl r hrow;have hlt:dl<aq.length:=(ak.1 hrow).1;have hmul:(dl+1)*sz<=aq.length*sz:=aI _ (by omega);rw[dR]at hmul;have hget:∀k,(aV aM.toList (aR+dl*sz+off) vs).toArray[k]?=if k<aR+dl*sz+off then aM[k]?else if k<aR+dl*sz+off+vs.length then vs[k-(aR+dl*sz+off)]?else aM[k]?:=by intro k;rw[<-a_];show(aV aM.toList _ vs)[k]?=_;rw[jD _ _ _ (by simp;omega)];simp only[a_]
 have hsetr:∀i q,(aq.set dl (aV r off ds))[i]?=some q->(i=dl/\q=aV r off ds)\/(i≠dl/\aq[i]?=some q):=by
  intro i q hi;by_cases e1:i=dl
  .subst e1;rw[kx hlt]at hi;exact .inl ⟨rfl,(aa hi).symm⟩
  .rw [List.getElem?_set_ne (fun e=>e1 e.symm)]at hi;exact .inr ⟨e1,hi⟩
 refine⟨fun i q hi=>?_,fun i q hi j z hj=>?_⟩
 .rcases hsetr i q hi with⟨rfl,rfl⟩|⟨_,h1⟩
  .rw [eU _ _ _ hfit];exact hrl
  .exact h.1 i q h1
 .simp only[hget];rcases hsetr i q hi with⟨rfl,rfl⟩|⟨hne,h1⟩
  .rw [jD _ _ _ hfit]at hj;by_cases c1:j<off
   .rw [if_pos c1]at hj;rw[if_pos (by omega)];exact h.2 i r hrow j z hj
   .rw [if_neg c1]at hj;by_cases c2:j<off+ds.length
    .rw [if_pos c2]at hj;obtain⟨y,hy,hr⟩:=hd _ z hj;rw[if_neg (by omega),if_pos (by omega)];refine⟨y,?_,hr⟩;rw[<-hy];congr 1;omega
    .rw [if_neg c2]at hj;rw[if_neg (by omega),if_neg (by omega)];exact h.2 i r hrow j z hj
  .have hjl:j<sz:=by rw[<-h.1 i q h1];exact(ak.1 hj).1
   have hout:aR+i*sz+j<aR+dl*sz+off\/aR+dl*sz+off+vs.length<=aR+i*sz+j:=by
    rcases Nat.lt_or_gt_of_ne hne with hlt2|hgt
    .have:(i+1)*sz<=dl*sz:=aI _ (by omega);rw[dR]at this;omega
    .have:(dl+1)*sz<=i*sz:=aI _ (by omega);rw[dR]at this;omega
   rcases hout with c|c
   .rw [if_pos c];exact h.2 i q h1 j z hj
   .rw [if_neg (by omega),if_neg (by omega)];exact h.2 i q h1 j z hj
theorem NN{α:Type}{l:List α}{o:Nat}{v:α}(h:o<l.length):aV l o [v]=l.set o v:=by rw[List.set_eq_take_append_cons_drop,if_pos h];simp[aV]
theorem N4{id dl sz:Nat}{slots:List k8}{cs:List C}{vs:List Value}{u:fF}{aA:List Nat}{aM:Array Value}(hI:Inv S K w0 Kn φ (aB H) w)(hob:aB H id=some (.nst sz slots))(hrow:dl<slots.length)
  (hcr:CR S w Kn φ cs vs) (hlen:cs.length=1) (hown:nw w (φ id).bY aM) (hfit:(φ id).aR+dl<aM.size) (h:rO id dl sz slots cs H=some (u,aA)):
  hC S w S (w.setRow (φ id).bY (aM.toList.take ((φ id).aR+dl)++vs++aM.toList.drop ((φ id).aR+dl+1)).toArray)/\
   Inv S K w0 Kn φ (bm u (aB H)) (w.setRow (φ id).bY (aM.toList.take ((φ id).aR+dl)++vs++aM.toList.drop ((φ id).aR+dl+1)).toArray):=by
 have hvl:vs.length=1:=by rw[<-hcr.1];exact hlen
 obtain⟨p1,p2,p3,p4,_⟩:=nP (w:=w) (b:=(φ id).bY) (o:=(φ id).aR+dl) (n:=1) (vs:=vs) hown hvl;have hio:Io w (w.setRow (φ id).bY (aM.toList.take ((φ id).aR+dl)++vs++aM.toList.drop ((φ id).aR+dl+1)).toArray):=⟨rfl,rfl,rfl,au _⟩
 generalize w.setRow (φ id).bY (aM.toList.take ((φ id).aR+dl)++vs++aM.toList.drop ((φ id).aR+dl+1)).toArray=w' at*
 obtain⟨x,rfl⟩:∃x,vs=[x]:=by
  match vs,hvl with|[x],_=>exact⟨x,rfl⟩
 rw[NN (by simpa using hfit)]at p1
 have key:∀s',(hC S w S w'->zQ S K w' Kn φ sz s' x)->(∀aq,s'≠.bv aq)->hC S w S w'/\Inv S K w0 Kn φ (bm [(id,some (.nst sz (slots.set dl s')))] (aB H)) w':=fun s' h1 h2=>
  hI.T7 hob hown p1 (by simp) p2 p3 p4 hio (fun i hi=>by
   rw[cS,List.getElem?_set_ne (by omega),a_]) (fun _=>by
   rw[cS,kx (by simpa using hfit)]) h1 h2
 unfold rO at h;split at h
 .obtain ⟨rfl,rfl⟩:[(id,some (Ob.nst sz (slots.set dl .nil)))]=u/\[id]=aA:=by simpa using h
  have hx:=hcr.2 0 _ x rfl rfl;cases hx with
  |d hd=>cases hd with|lit _=>exact key .nil (fun _=>.nil) (fun _ e=>by cases e)
 .rename_i sz' id2 len;split at h
  .rename_i sz2 aq h2;split at h
   .rename_i hc;obtain⟨rfl,rfl,hne⟩:=hc;obtain⟨rfl,rfl⟩:[(id,some (Ob.nst sz' (slots.set dl (.bv aq)))),(id2,none)]=u/\[id,id2]=aA:=by simpa using h
    obtain⟨q1,q2⟩:=key (.eg id2 aq.length) (fun hs=>.eg ((hcr.2 0 _ x rfl rfl).mono hs (Ren.refl _ _))) (fun _ e=>by cases e);refine⟨q1,?_⟩;have e1:bm [(id,some (Ob.nst sz' (slots.set dl (.eg id2 aq.length))))] (aB H) id=some (.nst sz' (slots.set dl (.eg id2 aq.length))):=by rw[bT,if_pos rfl]
    have e2:bm [(id,some (Ob.nst sz' (slots.set dl (.eg id2 aq.length))))] (aB H) id2=some (.aM sz2 aq):=by rw[bT,if_neg (fun e=>hne e.symm),fP,h2]
    have q3:=q2.Nb e1 (kx hrow) e2;rw[List.set_set]at q3
    have e3:bm [(id,some (Ob.nst sz' (slots.set dl (.bv aq)))),(id2,none)] (bm [(id,some (Ob.nst sz' (slots.set dl (.eg id2 aq.length))))] (aB H))=bm [(id,some (Ob.nst sz' (slots.set dl (.bv aq)))),(id2,none)] (aB H):=by
     funext j;simp only[bT,fP];by_cases e:id=j
     .rw [if_pos e,if_pos e]
     .rw [if_neg e,if_neg e,if_neg e]
    rw[e3]at q3;exact q3
   .simp at h
  .simp at h
 .simp at h
theorem KY{t:TypeId}{n:Nat}{a x:Operand}(ho:o.op=.store t a x)(hs:fQ P t=some n)(hI:Inv S K w0 Kn φ (aB H) w)
  {ta tx:Option TV} (ha:∀y,ta=some y->gr S w Kn φ y (ρ a)) (hx:∀y,tx=some y->gr S w Kn φ y (ρ x))
  (h:cQ call (.store n) [ta,tx] H nxt=some (v,u,aA,n')):dK P o ρ S K w0 w Kn φ (aB H) nxt n' v u:=by
 match ta,tx,h,ha,hx with
 |some (.c p),some tv,h,ha,hx=>
  change (match mu n p tv H with|some (u,aA)=>some (TV.iT [],u,aA,nxt)|none=>none)=_ at h;split at h
  .rename_i u' ids' eQ;obtain⟨rfl,rfl,rfl,rfl⟩:TV.iT []=v/\u'=u/\ids'=aA/\nxt=n':=by simpa using h
   unfold mu at eQ;split at eQ
   .simp at eQ
   .rename_i cs hcs;split at eQ
    .rename_i hlen;have hcr:=(hx _ rfl).cr hcs;obtain⟨_,_,hone⟩:=(hx _ rfl).cells hcs;have hvl:(ρ x).cells.size=n:=by have:=hcr.1;simp at this;omega
     have hr:=ha _ rfl;generalize hv0:ρ a=val at hr
     have run:∀b off aM,val=.pointer (some ⟨b,off,none⟩)->nw w b aM->off+n<=aM.size->
       (execOp ρ o).run P w=.ok .skip (w.setRow b (aM.toList.take off++(ρ x).cells.toList++aM.toList.drop (off+n)).toArray):=by
      intro b off aM hv hown hfit;simp[execOp,ho,hv0,hv,Instr.storeAt,Instr.sureAddr,NU hs hown hvl hfit hone]
     cases hr with
     |c hr=>
     split at eQ
     .rename_i id dl off;split at eQ
      .rename_i sz aq hob;split at eQ
       .rename_i r ds ids1 hrow hvw;split at eQ
        .rename_i u1 hfz;split at eQ
         .rename_i hb;obtain⟨hb1,hb2⟩:=hb;obtain⟨rfl,rfl⟩:(id,some (Ob.aM sz (aq.set dl (aV r off ds))))::u1=u'/\id::ids1=ids':=by simpa using eQ
          have hnm:id∉ids1:=by simpa using hb2
          obtain⟨hdl,hds⟩:=rl hI cs ds ids1 hvw (fun i=>(ρ x).cells.toList[i]?) (fun i c hi=>by
           have hlt:i<(ρ x).cells.toList.length:=by rw[<-hcr.1];exact(ak.1 hi).1
           exact⟨_,aw hlt,hcr.2 i c _ hi (aw hlt)⟩)
          have hI1:=hI.Gs hfz;have hob1:bm u1 (aB H) id=some (.aM sz aq):=by simp only[bm,(lp ids1 u1 hfz id).2 hnm,hob]
          obtain⟨hk,h0⟩:=hI1.iR _ _ hob1;generalize hphi:φ id=l at*;cases h0 with
          |@aM _ _ aM hsz hl hS hK hown hext hfit hrr hvis=>
           cases hr with
           |ep hk'=>
            rw[hphi]at run;subst hl;have hrl:=hrr.1 dl r hrow;have hrowlt:dl<aq.length:=(ak.1 hrow).1;have hmul:(dl+1)*l.sz<=aq.length*l.sz:=aI _ (by omega);rw[dR]at hmul;have hfit2:l.aR+dl*l.sz+off+n<=aM.size:=by rw[hext];omega
            obtain⟨p1,p2,p3,p4,p5⟩:=nP (w:=w) (b:=l.bY) (o:=l.aR+dl*l.sz+off) (n:=n) (vs:=(ρ x).cells.toList) hown (by simpa using hvl);have hset:=hI1.set (o':=.aM l.sz (aq.set dl (aV r off ds))) hob1 rfl (by rw[hphi];exact p2) p3 p4 (by rw[hphi];exact p5 hfit2) ⟨rfl,rfl,rfl,au _⟩ (fun eQ=>by rw[hphi];have h5:=(Dg (off:=off) (vs:=(ρ x).cells.toList) hrr hrow (by omega) (by rw[hdl];exact hcr.1) hds (by omega)).mono eQ;exact .aM hsz rfl hS hK p1 (by simp only[cV];rw[eU _ _ _ (by simp;omega)];simpa using hext) (by simpa using hfit) h5 (by simpa using hvis));refine⟨.skip,undef,_,run _ _ _ rfl hown hfit2,.inr ⟨rfl,rfl⟩,hI.CL ((SB.uC ids1).trans hset.1) hset.2 ?_⟩;rw[<-eD];rfl
         .simp at eQ
        .simp at eQ
       .simp at eQ
      .rename_i sz slots hob;split at eQ
       .rename_i hc;obtain⟨rfl,rfl,hrow⟩:=hc;obtain⟨hk,h0⟩:=hI.iR _ _ hob;cases h0 with
        |@nst _ _ aM hsz hl hS hK hown hext hfit hrr hvis=>cases hr with|ep hk'=>obtain⟨q1,q2⟩:=N4 hI hob hrow hcr hlen hown (by omega) eQ;have hrun:=run (φ id).bY ((φ id).aR+dl*(φ id).sz+0) aM rfl hown (by rw[hl];omega);rw[hl,ly,dT]at hrun;refine⟨.skip,undef,_,hrun,.inr ⟨rfl,rfl⟩,hI.CL q1 q2 rfl⟩
       .simp at eQ
      .simp at eQ
     .rename_i id off;split at eQ
      .rename_i cells hob;split at eQ
       .rename_i hb;obtain⟨rfl,rfl⟩:[(id,some (Ob.box (aV cells off cs)))]=u'/\[id]=ids':=by simpa using eQ
        obtain⟨hk,h0⟩:=hI.iR _ _ hob;generalize hphi:φ id=l at*;cases h0 with
        |@box _ aM hbase hS hK hown hlen2 hrr=>cases hr with|op hk'=>rw[hphi,hbase,bL]at run;obtain⟨p1,p2,p3,p4,p5⟩:=nP (w:=w) (b:=l.bY) (o:=off) (n:=n) (vs:=(ρ x).cells.toList) hown (by simpa using hvl);have hset:=hI.set (o':=.box (aV cells off cs)) hob rfl (by rw[hphi];exact p2) p3 p4 (by rw[hphi];exact p5 (by omega)) ⟨rfl,rfl,rfl,au _⟩ (fun eQ=>by rw[hphi];have h5:=((Rr hlen2 hrr).aV hcr off (by omega)).mono eQ (Ren.refl _ _);obtain⟨h6,h7⟩:=Cq (aM:=(aV aM.toList off (ρ x).cells.toList).toArray) (by rw[List.toList_toArray];exact h5);exact .box hbase hS hK p1 h6 h7);exact⟨.skip,undef,_,run _ _ _ rfl hown (by omega),.inr ⟨rfl,rfl⟩,hI.CL hset.1 hset.2 rfl⟩
       .simp at eQ
      .simp at eQ
     .simp at eQ
    .simp at eQ
  .simp at h
end
section
variable{P:Program}{S K:Nat->Prop}{w0 w:World}{Kn:Nat->Prop}{φ:Nat->gO}{H:bF}{e:jP}{ρ:Operand->Value}{o:Oper}{call:Call}
 {nxt n':Nat} {v:TV} {u:fF} {aA:List Nat}
theorem qQ{sz b addr:Nat}{aq:List (List D)}(hsz:0<sz)(h:cW S w sz (fun i=>w.cell? ⟨b,i,none⟩) addr aq):
  ∃aM,(∀w':World,w'.heap=w.heap->(loadCells ⟨b,addr,none⟩ (aq.length*sz)).run P w'=.ok aM w')/\aM.size=aq.length*sz/\cW S w sz (fun i=>aM[i]?) 0 aq/\∀x∈aM.toList,one x=true:=by
 have hcell:∀k,k<aq.length*sz->∃y,w.cell? ⟨b,addr+k,none⟩=some y/\one y=true:=by
  intro k hk;have h1:k/sz<aq.length:=Nat.div_lt_of_lt_mul (by rw[jB];exact hk);have h2:=h.1 (k/sz) aq[k/sz] (aw h1);have h3:k %sz<aq[k/sz].length:=by rw[h2];exact Nat.mod_lt _ hsz
  obtain⟨y,hy,hr⟩:=h.2 (k/sz) aq[k/sz] (aw h1) (k %sz) _ (aw h3);refine⟨y,?_,hr.one⟩;rw[<-hy];have:=Nat.div_add_mod k sz;rw[jB]at this;show w.cell? ⟨b,addr+k,none⟩=w.cell? ⟨b,addr+k/sz*sz+k %sz,none⟩;congr 2;omega
 refine⟨((aL (aq.length*sz)).map fun j=>(w.cell? ⟨b,addr+j,none⟩).getD undef).toArray,fun w' hw=>run_loadCells w' ⟨b,addr,none⟩ _ (fun j=>(w.cell? ⟨b,addr+j,none⟩).getD undef) fun j hj=>?_,by simp,
  ⟨h.1,fun i r hi j x hj=>?_⟩,fun x hx=>?_⟩
 .obtain ⟨y,hy,_⟩:=hcell j hj;have:w'.cell? ⟨b,addr+j,none⟩=w.cell? ⟨b,addr+j,none⟩:=by unfold World.cell?;rw[hw]
  rw[pR,this,hy];rfl
 .obtain ⟨y,hy,hr⟩:=h.2 i r hi j x hj;refine⟨y,?_,hr⟩;have hil:i<aq.length:=(ak.1 hi).1;have hjl:j<sz:=by rw[<-h.1 i r hi];exact(ak.1 hj).1
  have hm:(i+1)*sz<=aq.length*sz:=aI _ hil;rw[dR]at hm;simp only at hy;have hlt:0+i*sz+j<aq.length*sz:=by omega
  have e1:addr+(0+i*sz+j)=addr+i*sz+j:=by omega
  show(((aL (aq.length*sz)).map fun j=>(w.cell? ⟨b,addr+j,none⟩).getD undef).toArray)[0+i*sz+j]?=some y;rw[<-a_,aH,jW hlt];simp only[bN,e1,hy,fK]
 .simp only[cj,List.mem_range]at hx;obtain⟨k,hk,rfl⟩:=hx;obtain⟨y,hy,h1⟩:=hcell k hk;rw[hy];exact h1
def Nk(P:Program)(S:Nat->Prop)(w:World)(sz:Nat)(xv:Value)(new:List (List D))(aM:Array Value):Prop:=
 (∀w':World,w'.heap=w.heap->(Builtin.lenOf xv).run P w'=.ok new.length w'/\(Builtin.firstCells sz new.length xv).run P w'=.ok aM w')/\
 aM.size=new.length*sz/\cW S w sz (fun i=>aM[i]?) 0 new/\∀x∈aM.toList,one x=true
theorem Bn{sz b addr len cap:Nat}{new:List (List D)}(hsz:0<sz)(hl:new.length=len)(h:cW S w sz (fun i=>w.cell? ⟨b,i,none⟩) addr new):
  ∃aM,Nk P S w sz (.slice (some ⟨b,addr,none⟩) len cap) new aM:=by
 subst hl;obtain⟨aM,h1,h2,h3,h4⟩:=qQ (P:=P) hsz h;exact⟨aM,fun w' hw=>⟨rfl,h1 w' hw⟩,h2,h3,h4⟩
theorem Fx{sz:Nat}{x:C}{xv:Value}{new:List (List D)}(hsz:0<sz)(hI:Inv S K w0 Kn φ (aB H) w)(hr:RC S w Kn φ x xv)(h:jk sz H x=some (new,aA)):
  ∃aM,Nk P S w sz xv new aM:=by
 unfold jk at h;split at h
 .obtain ⟨rfl,rfl⟩:[]=new/\[]=aA:=by simpa using h
  cases hr with
  |d hd=>cases hd with|lit hp=>exact⟨#[],fun w' _=>⟨rfl,rfl⟩,by simp,⟨fun i r hi=>by simp at hi,fun i r hi=>by simp at hi⟩,fun x hx=>by simp at hx⟩
 .rename_i sz' aq;split at h
  .rename_i e1;subst e1;obtain⟨rfl,rfl⟩:aq=new/\[]=aA:=by simpa using h
   cases hr with
   |d hd=>cases hd with
    |sl f hb hsz0 hcap hrow hcell hrd=>exact Bn hsz rfl ⟨hrow,fun i r hi j x hj=>⟨_,hcell i r hi j x hj,hrd i r hi j x hj⟩⟩
    |tK hsz0=>exact⟨#[],fun w' _=>⟨rfl,by
      have h0:([]:List (List D)).length*sz'=0:=by simp
      simp only[Builtin.firstCells,h0];rfl⟩,by simp,⟨fun i r hi=>by simp at hi,fun i r hi=>by simp at hi⟩,fun x hx=>by simp at hx⟩
  .simp at h
 .rename_i sz' id off len
  have key:∀szo aq,(aB H id=some (.aM szo aq)\/aB H id=some (.pJ szo aq))->(if sz'=sz/\off+len<=aq.length then some ((aq.drop off).take len,[id])else none)=some (new,aA)->
    ∃aM,Nk P S w sz xv new aM:=by
   intro szo aq ho hq;split at hq
   .rename_i hb;obtain⟨e1,hle⟩:=hb;subst e1;obtain⟨rfl,rfl⟩:=ad (aa hq);obtain⟨hsz1,hl,hR⟩:=nM hI ho;subst hl;cases hr with|fy hk hcap haddr hext=>exact Bn hsz1 (by simp;omega) (hR.xx off len fun h=>haddr (by omega))
   .simp at hq
  split at h
  .exact key _ _ (.inl (by assumption)) h
  .exact key _ _ (.inr (by assumption)) h
  .simp at h
 .simp at h
theorem OC(need:Nat)(c:Nat):Builtin.growBy need 4 c<=3*c+3072:=by
 simp only[Builtin.growBy]
 repeat' split
 all_goals omega
theorem Lb{need cap:Nat}(h1:need<=2147483648)(h2:cap<need):Builtin.nextslicecap need cap<=6442454016:=by
 unfold Builtin.nextslicecap;split
 .omega
 .split
  .omega
  .have:=OC need cap;omega
theorem Inv.Pr{hf:Nat->Option Ob}{w':World}{b:Nat}(h:Inv S K w0 Kn φ hf w)(hS:¬S b)(hK:¬K b)(hfree:∀i o,hf i=some o->cX o=true->b∉iw w φ hf i)
  (hother:∀c,c≠b->w'.heap[c]?=w.heap[c]?) (hsize:w'.heap.size=w.heap.size) (hfrz:∀a,w'.frozen? a=w.frozen? a)
  (hsz:∀aM,nw w b aM->∃arr',nw w' b arr'/\arr'.size=aM.size) (hio:Io w w'):hC S w S w'/\Inv S K w0 Kn φ hf w':=by
 have hs:hC S w S w':=⟨fun _ h=>h,fun c hc=>hother c (fun e=>hS (e▸hc))⟩
 refine⟨hs,h.kM hs (Ren.refl _ _) (fun c hc=>hsize▸h.u6 c hc) h.sk ⟨h.nB.Gb,fun c hc=>(hother c (fun e=>hK (e▸hc))).trans (h.nB.nc c hc),hsize▸h.nB.grow,fun a ha=>(hfrz a).trans (h.nB.Bc a ha),h.nB.yK hother hsz,h.nB.io.trans hio⟩ ?_ h.eR fun id sz sl hi=>⟨hi,hother _ fun e=>hfree id _ hi rfl (e▸kW id),fun k x hp=>⟨hother x fun e=>hfree id _ hi rfl (dX.2 (.inr ⟨sz,sl,k,hi,e▸hp⟩)),(h.IK hi hp).1,(h.xe id sz sl k x hi hp).1⟩⟩⟩;intro id o ho;exact .inl ⟨ho,fun hown=>⟨hother _ fun e=>hfree id o ho hown (e▸kW id),((h.iR id o ho).2.bv hown).1⟩⟩
theorem Bz{w':World}{hf:Nat->Option Ob}{i:Nat}(h:w'.heap[(φ i).bY]?=w.heap[(φ i).bY]?):iw w' φ hf i=iw w φ hf i:=by
 have key:∀(l:gO),w'.heap[l.bY]?=w.heap[l.bY]?->∀(sl:List k8)(k:Nat),rC w' l sl k=rC w l sl k:=by
  intro l hl sl;induction sl with
  |nil=>intro k;rfl
  |cons s sl ih=>intro k;cases s with|bv aq=>simp only[rC,ih,mG hl]|_=>exact ih (k+1)
 unfold iw;congr 1;split
 .exact key _ h _ _
 .rfl
theorem qd{sz aR:Nat}{a b:List (List D)}{get:Nat->Option Value}(h1:cW S w sz get aR a)(h2:cW S w sz get (aR+a.length*sz) b):cW S w sz get aR (a++b):=by
 have key:∀(i:Nat)(r:List D),(a++b)[i]?=some r->a[i]?=some r\/(a.length<=i/\b[i-a.length]?=some r):=by
  intro i r hi;by_cases hc:i<a.length
  .rw [List.getElem?_append_left hc]at hi;exact .inl hi
  .rw [List.getElem?_append_right (by omega)]at hi;exact .inr ⟨by omega,hi⟩
 refine⟨fun i r hi=>?_,fun i r hi j x hj=>?_⟩
 .rcases key i r hi with h|⟨_,h⟩
  .exact h1.1 i r h
  .exact h2.1 _ r h
 .rcases key i r hi with h|⟨hle,h⟩
  .exact h1.2 i r h j x hj
  .obtain ⟨y,hy,hr⟩:=h2.2 _ r h j x hj;refine⟨y,?_,hr⟩;rw[<-hy];congr 1;have:a.length*sz+(i-a.length)*sz=i*sz:=by rw[<-bP];congr 1;omega
   omega
theorem RC.ko{sz id off len:Nat}{v:Value}(h:RC S w Kn φ (.fy sz id off len) v):∃cap addr,v=.slice (some ⟨(φ id).bY,addr,none⟩) len cap/\(φ id).sz=sz/\Kn id/\len<=cap/\
  (0<cap->addr=(φ id).aR+off*(φ id).sz)/\addr+cap*(φ id).sz<=(φ id).ext/\off+cap=(φ id).cap:=by
 cases h with|fy hk hcap haddr hext hc=>exact⟨_,_,rfl,rfl,hk,hcap,haddr,hext,hc⟩
theorem IY{c:Go.Call}{s x:Operand}{st xt el el2:TypeId}{n:Nat}{z:List Value}(ho:o.op=.call c)(hcal:c.callee=.builtin .append)(hargs:c.args= #[s,x])(hts:c.argTypes= #[st,xt])
  (hus:P.underlying st=some (.slice el)) (hux:P.underlying xt=some (.slice el2)) (hsz:fQ P el=some (n+1)) (hz:jX P el=some z) (hzl:z.length=n+1) (hby:pk P el=true)
  (hI:Inv S K w0 Kn φ (aB H) w) (hn0:nxt<n'->¬Kn nxt) {ta tx:Option TV} (ha:∀y,ta=some y->gr S w Kn φ y (ρ s)) (hx:∀y,tx=some y->gr S w Kn φ y (ρ x))
  (h:cQ call (.append (n+1)) [ta,tx] H nxt=some (v,u,aA,n')):dK P o ρ S K w0 w Kn φ (aB H) nxt n' v u:=by
 obtain⟨inf,hinf,hb0,hb1⟩:=tq hby;obtain⟨zv,hzr,hzv,_⟩:=py hz w
 match ta,tx,h,ha,hx with
 |some (.c sc),some (.c xc),h,ha,hx=>
  change oH (n+1) sc xc H nxt=_ at h;unfold oH at h;split at h
  .simp at h
  .rename_i new ids1 hrx;cases hx _ rfl with
   |c hxr=>
   obtain⟨narr,hel,hns,hnR,hnone⟩:=Fx (P:=P) (sz:=n+1) (dC n) hI hxr hrx;have hinfo:∀w:World,(typeInfo el).run P w=.ok inf w:=fun w=>by simp[typeInfo,hinf]
   have hzr':∀w:World,(zeroValue el).run P w=.ok zv w:=by intro w';simp only[zeroValue,typeInfo,Sem.run_bind,run_program,Result.andThen_ok,hinf,Sem.run_pure]at hzr|-;cases hzz:inf.zero with|none=>rw[hzz]at hzr;simp at hzr|some q=>rw[hzz]at hzr;simp at hzr|-;exact hzr
   have hunx:∀w:World,(underlying xt).run P w=.ok (.slice el2) w:=cg hux
   -- what the model does where there is no iW
   have grows:∀(aR:Option Addr)(sLen sCap:Nat)(old:Array Value),ρ s=.slice aR sLen sCap->sCap<sLen+new.length->sLen+new.length<=2147483648->
     (∀w':World,w'.heap=w.heap->(Builtin.firstCells (n+1) sLen (.slice aR sLen sCap)).run P w'=.ok old w')->
     ∃newCap,sLen+new.length<=newCap/\(execOp ρ o).run P w=.ok (.value (.slice (some ⟨w.heap.size,0,none⟩) (sLen+new.length) newCap))
      {({w with drawn:=w.drawn+1}:World)with heap:=w.heap.push (.cells (old++narr++Builtin.zeroCells zv.cells (newCap-(sLen+new.length))) el)}:=by
    intro aR sLen sCap old hs hlt hle hold;refine⟨(Question.appendCap (sLen+new.length) sCap el).cut (w.tape w.drawn (.appendCap (sLen+new.length) sCap el)),by simp[Question.cut],?_⟩;have hcap:¬Builtin.nextslicecap (sLen+new.length) sCap*inf.bytes>2^48:=by have h1:=Lb hle hlt;have h2:Builtin.nextslicecap (sLen+new.length) sCap*inf.bytes<=6442454016*16384:=Nat.mul_le_mul h1 hb1;omega
    have hbz:¬inf.bytes=0:=by omega
    have hnle:¬sLen+new.length<=sCap:=by omega
    have ho2:=hold {w with drawn:=w.drawn+1} rfl;have hn2:=(hel {w with drawn:=w.drawn+1} rfl).2;have hl2:=(hel w rfl).1
    simp only[execOp,ho,hcal,resolve,hargs,Sem.run_bind,Sem.run_pure,Result.andThen_ok,invoke,builtin,Builtin.append_,hts,eW,aD,aW,hs,cS,
     de,fx,cg hus,ic hsz,hunx,hl2,hnle,if_false,hinfo,hcap,hbz,aT,or_self,and_false,run_choose,Question.forced,run_askRoom,ho2,hn2,hzr',newRow,run_newObj,dV,if_true]
   have room_new:¬Kn nxt->∀(k:Nat)(_:w.drawn<=k)(hf:Nat->Option Ob)(aq:List (List D))(aM:Array Value)(cap:Nat),Inv S K w0 Kn φ hf w->aq.length<=cap->cap*(n+1)<=aM.size->cW S w (n+1) (fun i=>aM[i]?) 0 aq->
     lx S K w0 w Kn φ hf nxt (nxt+1) (.c (.fy (n+1) nxt 0 aq.length)) [(nxt,some (.aM (n+1) aq))] (.slice (some ⟨w.heap.size,0,none⟩) aq.length cap)
      {({w with drawn:=k}:World)with heap:=w.heap.push (.cells aM el)}:=by
    intro hn k hk hf aq aM cap hI1 h1 h2 h3;obtain⟨a1,S',φ',a2,a3,a4,a5⟩:=lx.aM (hI1.xD k hk) hn el (dC n) h1 h2 (h3.mono (hC.xD S w k));exact⟨a1,S',φ',(hC.xD S w k).trans a2,a3,a4,a5⟩
   have zsize:∀m,(Builtin.zeroCells zv.cells m).size=m*(n+1):=by
    intro m;have:zv.cells.size=n+1:=by rw[<-hzl,<-hzv];simp
    simp[Builtin.zeroCells,this]
   split at h
   .--a nil slice
    split at h
    .rename_i hle;simp only[D1]at hle;obtain⟨hv,_⟩:=(ha _ rfl).lit;cases new with
     |nil=>
      obtain⟨rfl,rfl,rfl,rfl⟩:TV.c (.d (.lit (.slice none 0 0)))=v/\[]=u/\ids1=aA/\nxt=n':=by simpa using h
      refine dK.pure hI ?_ (ha _ rfl);have hl2:=(hel w rfl).1;have hn2:=(hel w rfl).2;simp only[kF]at hl2 hn2
      simp only[execOp,ho,hcal,resolve,hargs,Sem.run_bind,Sem.run_pure,Result.andThen_ok,invoke,builtin,Builtin.append_,hts,eW,aD,aW,hv,cS,
       de,fx,cg hus,ic hsz,hunx,hl2,au,if_true,dV,hn2,aT,if_false,dT]
     |cons q new=>
      obtain⟨rfl,rfl,rfl,rfl⟩:TV.c (.fy (n+1) nxt 0 (q::new).length)=v/\[(nxt,some (Ob.aM (n+1) (q::new)))]=u/\ids1=aA/\nxt+1=n':=by simpa using h
      obtain⟨newCap,hnc,hrun⟩:=grows none 0 0 #[] hv (by simp) (by simpa using hle) (fun w' _=>rfl);rw[bL]at hrun hnc;refine⟨.value _,_,_,hrun,.inl rfl,room_new (hn0 (aY _)) _ (bH _) _ _ _ _ hI hnc ?_ ?_⟩
      .simp only[iq,hns,zsize,cV,kF];rw[bL,<-bP];exact aI _ (by omega)
      .refine ⟨hnR.1,fun i r hi j x hj=>?_⟩;obtain⟨y,hy,hr⟩:=hnR.2 i r hi j x hj;refine⟨y,?_,hr⟩;have hlt:=(bi.1 hy).1;simp only at hy|-;rw[cJ (by simp;omega)];simpa using hy
    .simp at h
   .--a slice of one's bv
    rename_i sz' id off len;split at h
    .rename_i szo aq hob;split at h
     .rename_i hb;obtain⟨e1,hle,hlim⟩:=hb;subst e1;simp only[D1]at hlim;obtain⟨rfl,rfl,rfl,rfl⟩:TV.c (.fy (n+1) nxt 0 (len+new.length))=v/\[(id,none),(nxt,some (Ob.aM (n+1) ((aq.drop off).take len++new++aq.drop (off+len+new.length))))]=u/\id::ids1=aA/\nxt+1=n':=by simpa using h
      have hn:=hn0 (aY _);have hr:=ha _ rfl;generalize hv0:ρ s=val at hr;cases hr with
      |c hr=>
      have hlen:((aq.drop off).take len).length=len:=by simp;omega
      have hlen2:((aq.drop off).take len++new).length=len+new.length:=by simp;omega
      have hku:∀hf:Nat->Option Ob,bm [(id,none),(nxt,some (Ob.aM (n+1) ((aq.drop off).take len++new++aq.drop (off+len+new.length))))] hf=bm [(nxt,some (Ob.aM (n+1) ((aq.drop off).take len++new++aq.drop (off+len+new.length))))] (bm [(id,none)] hf):=by intro hf;have hne:id≠nxt:=fun e=>hn (e▸(hI.iR _ _ hob).1);rw[<-eD];exact mJ (u:=[(id,none)]) fun p hp q hq=>by obtain rfl:=ao.1 hp;obtain rfl:=ao.1 hq;exact hne
      have hkill:Inv S K w0 Kn φ (bm [(id,none)] (aB H)) w:=hI.md fun i o ho=>by
       rw[bT]at ho;split at ho
       .simp at ho
       .exact ho
      obtain⟨hk0,h0⟩:=hI.iR _ _ hob;generalize hphi:φ id=l at*;cases h0 with
      |@aM _ _ aM hsz0 hl hS hK hown hext hfit hrr hvis=>
      obtain⟨cap,addr,rfl,hszl,hk,hcap,haddr,hextc,hcl⟩:=hr.ko;rw[hphi]at hv0 haddr hextc hszl hcl;have e2:szo=n+1:=by rw[<-hl,hszl]
      subst e2;rw[hl]at haddr hextc;have hR:∀len',len'=len->cW S w (n+1) (fun i=>aM[i]?) addr ((aq.drop off).take len'):=fun len' e=>by subst e;exact hrr.xx off len' fun h=>haddr (by omega)
      have hRc:cW S w (n+1) (fun i=>w.cell? ⟨l.bY,i,none⟩) addr ((aq.drop off).take len):=⟨(hR len rfl).1,fun i r hi j x hj=>let⟨y,hy,hd⟩:=(hR len rfl).2 i r hi j x hj;⟨y,(hown.cell _).trans hy,hd⟩⟩
      by_cases hroom:len+new.length<=cap
      .--there is iW
       have hl2:=(hel w rfl).1;have hn2:=(hel w rfl).2;have hcm:(len+new.length)*(n+1)<=cap*(n+1):=aI _ hroom;rw[bP]at hcm;obtain⟨ty,hty⟩:=hown;have eQ:=run_storeCells_at P l.bY (addr+len*(n+1)) ty narr.toList 0 aM w hty (by simp only[cK,hns];omega) (fun v hv=>by rw[pD];exact hnone v hv);simp only[dT,cK,hns]at eQ;have hown:nw w l.bY aM:=⟨ty,hty⟩
       obtain⟨p1,p2,p3,p4,p5⟩:=nP (w:=w) (b:=l.bY) (o:=addr+len*(n+1)) (n:=new.length*(n+1)) (vs:=narr.toList) hown (by simpa using hns);have hio:Io w (w.setRow l.bY (aM.toList.take (addr+len*(n+1))++narr.toList++aM.toList.drop (addr+len*(n+1)+new.length*(n+1))).toArray):=⟨rfl,rfl,rfl,au _⟩
       generalize hw':w.setRow l.bY (aM.toList.take (addr+len*(n+1))++narr.toList++aM.toList.drop (addr+len*(n+1)+new.length*(n+1))).toArray=w' at*
       have hrun:(execOp ρ o).run P w=.ok (.value (.slice (some ⟨l.bY,addr,none⟩) (len+new.length) cap)) w':=by
        simp only[execOp,ho,hcal,resolve,hargs,Sem.run_bind,Sem.run_pure,Result.andThen_ok,invoke,builtin,Builtin.append_,hts,eW,aD,aW,hv0,cS,
         de,fx,cg hus,ic hsz,hunx,hl2,hroom,if_true,dV,hn2,aT,if_false,pR,eQ]
       have hfree:∀i o,bm [(id,none)] (aB H) i=some o->cX o=true->l.bY∉iw w φ (bm [(id,none)] (aB H)) i:=by
        intro i o hi ho hm;have hi':=hi;rw[bT]at hi';split at hi'
        .simp at hi'
        .rename_i hne;rw[gF rfl (hi.trans hi'.symm)]at hm;exact od hI hi' hob ho rfl (fun e=>hne e.symm) hm (by rw[<-hphi];exact kW id)
       obtain⟨hs1,hI1⟩:=hkill.Pr hS hK hfree p2 p3 p4 (p5 (by omega)) hio;have hget:∀k,(aV aM.toList (addr+len*(n+1)) narr.toList).toArray[k]?=if k<addr+len*(n+1)then aM[k]?else if k<addr+len*(n+1)+narr.size then narr[k-(addr+len*(n+1))]?else aM[k]?:=by intro k;rw[<-a_];show(aV aM.toList _ narr.toList)[k]?=_;rw[jD _ _ _ (by simp only[cK,hns];omega)];simp only[a_,cK]
       have hrows:cW S w' (n+1) (fun i=>(aV aM.toList (addr+len*(n+1)) narr.toList).toArray[i]?) addr ((aq.drop off).take len++new):=by
        refine qd (cW.mono hs1 ⟨(hR len rfl).1,fun i r hi j x hj=>?_⟩) (cW.mono hs1 ⟨hnR.1,fun i r hi j x hj=>?_⟩)
        .obtain ⟨y,hy,hd⟩:=(hR len rfl).2 i r hi j x hj;refine⟨y,?_,hd⟩;have hil:i<len:=by rw[<-hlen];exact(ak.1 hi).1
         have hjl:j<n+1:=by rw[<-(hR len rfl).1 i r hi];exact(ak.1 hj).1
         have hm:(i+1)*(n+1)<=len*(n+1):=aI _ hil;rw[dR]at hm;show(aV aM.toList (addr+len*(n+1)) narr.toList).toArray[_]?=_;rw[hget,if_pos (by omega)];exact hy
        .obtain ⟨y,hy,hd⟩:=hnR.2 i r hi j x hj;refine⟨y,?_,hd⟩;have hlt:=(bi.1 hy).1;show(aV aM.toList (addr+len*(n+1)) narr.toList).toArray[_]?=_;rw[hlen,hget,if_neg (by omega),if_pos (by omega)];rw[<-hy];show narr[_]?=narr[_]?;congr 1;omega
       have hsz':(aV aM.toList (addr+len*(n+1)) narr.toList).toArray.size=l.ext:=by simp only[cV];rw[eU _ _ _ (by simp only[cK,hns];omega)];simpa using hext
       have hLl:(aq.drop (off+len+new.length)).length=aq.length-(off+len+new.length):=by simp
       have hLR:cW S w (n+1) (fun i=>aM[i]?) (addr+(len+new.length)*(n+1)) (aq.drop (off+len+new.length)):=by
        have h7:=hrr.xx (addr:=addr+(len+new.length)*(n+1)) (off+len+new.length) (aq.length-(off+len+new.length)) fun h=>by have:=haddr (by omega);rw[this,cP off len new.length,bP off (len+new.length)];omega
        rwa[List.take_of_length_le (by rw[hLl];omega)]at h7
       have hrows2:cW S w' (n+1) (fun i=>(aV aM.toList (addr+len*(n+1)) narr.toList).toArray[i]?) addr ((aq.drop off).take len++new++aq.drop (off+len+new.length)):=by refine qd hrows ?_;rw[hlen2];refine cW.mono hs1 ⟨hLR.1,fun i r hi j x hj=>?_⟩;obtain⟨y,hy,hd⟩:=hLR.2 i r hi j x hj;refine⟨y,?_,hd⟩;show(aV aM.toList (addr+len*(n+1)) narr.toList).toArray[_]?=_;rw[hget,if_neg (by rw[bP];omega),if_neg (by rw[hns,bP];omega)];exact hy
       have hlen3:((aq.drop off).take len++new++aq.drop (off+len+new.length)).length<=cap:=by rw[List.length_append,hlen2,hLl];omega
       have hname:=hI1.name hn ⟨l.bY,addr,n+1,l.ext,cap⟩ (.aM (n+1) ((aq.drop off).take len++new++aq.drop (off+len+new.length))) (fun _ j b hj hb hm=>hfree j b hj hb (by rwa[Bz (p2 _ fun e=>hfree j b hj hb (e▸kW j))]at hm))
        (.aM (dC n) rfl hS hK p1 hsz' (by have h8:=aI (n+1) hlen3;simp only;omega) hrows2 hlen3)
       refine⟨.value _,_,_,hrun,.inl rfl,bH _,S,_,hs1,⟨fun _ h=>.inl h,(jQ _ hn).eC⟩,.c ?_,(hku (aB H)▸hname).xA fun j=>pH j⟩;have e:ext φ nxt ⟨l.bY,addr,n+1,l.ext,cap⟩ nxt=⟨l.bY,addr,n+1,l.ext,cap⟩:=by simp[ext]
       have:=RC.fy (S:=S) (w:=w') (Kn:=pn Kn nxt (nxt+1)) (φ:=ext φ nxt ⟨l.bY,addr,n+1,l.ext,cap⟩) (id:=nxt) (off:=0) (len:=len+new.length) (cap:=cap) (addr:=addr)
        (.inr (by omega)) hroom (by rw[e];simp) (by rw[e];exact hextc) (by rw[e];simp)
       rw[e]at this;exact this
      .--there is none
       obtain⟨old,hold,hos,hoR,hoone⟩:=qQ (P:=P) (sz:=n+1) (dC n) hRc;rw[hlen]at hold hos;obtain⟨newCap,hnc,hrun⟩:=grows (some ⟨l.bY,addr,none⟩) len cap old hv0 (by omega) hlim (fun w' hw=>hold w' hw);refine⟨.value _,_,_,hrun,.inl rfl,?_⟩
       have hD:=room_new hn (w.drawn+1) (bH _) (bm [(id,none)] (aB H)) ((aq.drop off).take len++new) (old++narr++Builtin.zeroCells zv.cells (newCap-(len+new.length))) newCap hkill (by rw[hlen2];exact hnc)
        (by simp only[iq,hos,hns,zsize];rw[<-bP,<-bP];exact aI _ (by omega))
        (by
         refine qd ⟨hoR.1,fun i r hi j x hj=>?_⟩ ⟨hnR.1,fun i r hi j x hj=>?_⟩
         .obtain ⟨y,hy,hd⟩:=hoR.2 i r hi j x hj;refine⟨y,?_,hd⟩;have hlt:=(bi.1 hy).1;show(old++narr++_)[_]?=_;rw[cJ (by rw[iq];omega),cJ hlt];exact hy
         .obtain ⟨y,hy,hd⟩:=hnR.2 i r hi j x hj;refine⟨y,?_,hd⟩;have hlt:=(bi.1 hy).1;show(old++narr++_)[_]?=_;rw[hlen,cJ (by rw[iq,hos];omega),Array.getElem?_append_right (by rw[hos];omega)];rw[<-hy,hos];show narr[_]?=narr[_]?;congr 1;omega)
       rw[hlen2]at hD;obtain⟨q1,S',φ',q2,q3,q4,q5⟩:=hD;have hL0:aq.drop (off+len+new.length)=[]:=List.drop_eq_nil_of_le (by omega);exact⟨q1,S',φ',q2,q3,q4,by rw[hku,hL0,List.append_nil];exact q5⟩
     .simp at h
    .simp at h
   .simp at h
end
end Go.Ev
