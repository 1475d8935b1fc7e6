/- The model's operations, one by one, against the abstract machine's. Conditions: the relation of XEvC. -/
import Derived.Test.YthcplpfiidlinaaEvF
namespace Go.Ev
abbrev Sig:=FuncId->Bool×List Bool
def q32(P:Program)(fields:Array Field):List Nat->Option (List (Nat×Nat))
 | []=>some []
 | i :: r=>
  match fields[i]?,q32 P fields r with
  | some f,some l=>match szOf P f.type with | some n=>some ((f.offset,n) :: l) | none=>none
  | _,_=>none
def nilOf:Nat->Value
 | 0=> .slice none 0 0
 | 1=> .pointer none
 | _=> .nilFunc
def qcc:Nat->Operand->Bool
 | 0, .const (.slice none 0 0) | 1, .const (.pointer none) | 2, .const .nilFunc=>true
 | _,_=>false
def tyF(P:Program)(g:TypeId->Option (List Kd)):List Field->Nat->Option (List Kd)
 | [],_=>some []
 | f :: r,o=>
  if f.offset = o ∧ f.name ≠ "_" then
   match g f.type with
   | some ks=>if szOf P f.type=some ks.length then (match tyF P g r (o+ks.length)with | some l=>some (ks++l) | none=>none)else none
   | none=>none
  else none
def tyK(P:Program):Nat->TypeId->Option (List Kd)
 | 0,_=>none
 | d+1,t=>
  match P.underlying t with
  | some .bool=>if szOf P t=some 1 then some [.b]else none
  | some (.int q)=>if szOf P t=some 1 then some [.i q]else none
  | some .string=>if szOf P t=some 1 then some [.s]else none
  | some (.array n e)=>
   match tyK P d e with
   | some ks=>if szOf P e=some ks.length/\szOf P t=some (n * ks.length)then some (List.replicate n ks).flatten else none
   | none=>none
  | some (.struct fs)=>
   match tyF P (tyK P d) fs.toList 0 with
   | some ks=>if P.stoodInHeld t=false/\szOf P t=some ks.length then some ks else none
   | none=>none
  | _=>none
def qno(P:Program)(t:TypeId):Option Bool:=((P.info? t).bind (·.zero)).map λ| .agg _=>true | _=>false
def mapOk(P:Program)(k e:TypeId):Option (Bool×List Kd×Bool×List Value):=
 match aggOf P k,tyK P 8 k,aggOf P e,q37 P e with
 | some ka,some ks,some va,some z=>if qno P e=some va then some (ka,ks,va,z)else none
 | _,_,_,_=>none
def q75(kind:Nat)(neg:Bool)(x y:Operand):K×List Operand:=
 if qcc kind y then (.eqNil kind neg, [x])else if qcc kind x then (.eqNil kind neg, [y])else (.bad, [])
def qo7(P:Program)(op:BinOp)(t:TypeId)(x y:Operand):K×List Operand:=
 match op with
 | .eql | .neq=>
  match P.underlying t with
  | some .bool=>(.eqBool (op == .neq), [x,y])
  | some (.int _) | some (.float _) | some .string=>(.bin op, [x,y])
  | some (.slice _)=>q75 0 (op == .neq) x y
  | some (.pointer _)=>q75 1 (op == .neq) x y
  | some (.func _ _ _)=>q75 2 (op == .neq) x y
  | some (.struct _) | some (.array _ _)=>
   match tyK P 8 t with
   | some ks=>if P.eqGuardType P.depth t=false then (.eqAgg (op == .neq) ks, [x,y])else (.bad, [])
   | none=>(.bad, [])
  | _=>(.bad, [])
 | op=>(.bin op, [x,y])
def q5w(P:Program)(e:TypeId):Bool:=match P.info? e with | some i=>decide (0 < i.bytes) && decide (i.bytes<=16384) | none=>false
def q8f(P:Program)(b:Builtin)(args:List Operand)(ts:List TypeId):K×List Operand:=
 match b,ts with
 | .len, [t]=>match P.underlying t with | some .string=>(.len true,args) | some (.slice _)=>(.len false,args) | _=>(.bad, [])
 | .max,_=>(.minmax true,args)
 | .min,_=>(.minmax false,args)
 | .append, [s,x]=>
  match P.underlying s,P.underlying x with
  | some (.slice e),some (.slice _)=>match szOf P e,q37 P e with | some (n+1),some z=>if q5w P e=true/\z.length=n+1 then (.append (n+1),args)else (.bad, []) | _,_=>(.bad, [])
  | some (.slice e),some (.int _)=>match szOf P e,q37 P e with | some (n+1),some z=>if q5w P e=true/\z.length=n+1 then (.apm z,args)else (.bad, []) | _,_=>(.bad, [])
  | _,_=>(.bad, [])
 | .cap, [t]=>match P.underlying t with | some (.slice _)=>(.capK,args) | _=>(.bad, [])
 | .copy, [d,_]=>
  match P.underlying d with
  | some (.slice e)=>match szOf P e with | some (n+1)=>(.copy (n+1),args) | _=>(.bad, [])
  | _=>(.bad, [])
 | .clear, [s]=>
  match P.underlying s with
  | some (.slice e)=>match szOf P e,q37 P e with | some (n+1),some z=>if z.length=n+1 then (.clear z,args)else (.bad, []) | _,_=>(.bad, [])
  | _=>(.bad, [])
 | _,_=>(.bad, [])
def isOvl(P:Program)(f:FuncId):Bool:=
 match P.funcs[f]? with
 | some fn=>
  !(fn.name == "runtime.NumGoroutine") && fn.body.isNone && (Extern.findNext fn).isNone && (Extern.allGenericRows.lookup fn.name).isNone && (Extern.allTypedRows.lookup fn.name).isNone && (Extern.allRows.lookup fn.name).isNone && fn.origin == "slices.overlaps" &&
  (match fn.params.toList with
   | t :: _=>(match P.underlying t with | some (.slice e)=>(match szOf P e with | some (_+1)=>true | _=>false) | _=>false)
   | []=>false)
 | none=>false
def qo3:List Value->Bool
 | [.slice none 0 0]=>true
 | _=>false
def nstOf(P:Program)(sig:Sig)(e:TypeId)(z:List Value):Option Nat:=
 if (sig 1000000000).1=true/\qo3 z=true then (match P.underlying e with | some (.slice ee)=>(match szOf P ee with | some (m+1)=>some (m+1) | _=>none) | _=>none)else none
def isSl(P:Program)(t:TypeId):Bool:=match P.underlying t with | some (.slice _)=>true | _=>false
def compK(P:Program)(sig:Sig):Op->K×List Operand
 | .move x | .assign x=>(.mv, [x])
 | .pick c a b=>(.pick, [c,a,b])
 | .alloc e=>match q37 P e with | some z=>(.alloc z, []) | none=>(.bad, [])
 | .box _ x=>(.box, [x])
 | .build t parts=>
  match P.underlying t,q37 P t with
  | some (.struct fields),some z=>
   match q32 P fields (parts.toList.map (·.1))with
   | some pl=>if fields.toList.all (λf=>(szOf P f.type).isSome)then (.build z pl,parts.toList.map (·.2))else (.bad, [])
   | none=>(.bad, [])
  | some (.array _ e),some z=>match szOf P e with | some n=>(.build z (parts.toList.map λp=>(p.1 * n,n)),parts.toList.map (·.2)) | none=>(.bad, [])
  | _,_=>(.bad, [])
 | .buildSlice t len parts=>
  match P.underlying t with
  | some (.slice e)=>
   match szOf P e,q37 P e with
   | some (n+1),some z=>if len * (n+1)<=4096/\z.length=n+1 then (.buildSlice (n+1) len ((List.range (len * (n+1))).map λi=>z.getD (i % (n+1)) undef) (parts.toList.map (·.1)),parts.toList.map (·.2))else (.bad, [])
   | _,_=>(.bad, [])
  | _=>(.bad, [])
 | .load t a=>match aggOf P t,szOf P t with | some g,some n=>(if (sig 1000000000).1=true/\isSl P t=true/\g=false/\n=1 then .loadN else .load g n, [a]) | _,_=>(.bad, [])
 | .store t a x=>match szOf P t with | some n=>(.store n, [a,x]) | none=>(.bad, [])
 | .nilCheck x=>(.nilCheck, [x])
 | .binOp op t x y _=>qo7 P op t x y
 | .unOp op _ x=>(.un op, [x])
 | .convert s d x=>
  match P.underlying s,P.underlying d with
  | some (.int _),some (.int k)=>(.convInt k, [x])
  | some .string,some .string=>(.convSame, [x])
  | _,_=>(.bad, [])
 | .makeFunc (.func f) first captured=>if first.isEmpty then (.mkFn f,captured.toList)else (.bad, [])
 | .makeSlice t l c=>
  match P.underlying t with
  | some (.slice e)=>match szOf P e,q37 P e with | some (n+1),some z=>if z.length=n+1/\q5w P e=true then (match nstOf P sig e z with | some m=> .mkNst m | none=> .makeSlice z, [l,c])else (.bad, []) | _,_=>(.bad, [])
  | _=>(.bad, [])
 | .slice t x lo hi none=>
  match P.underlying t with
  | some .string=>(.slice true 1 lo.isSome hi.isSome,x :: lo.toList++hi.toList)
  | some (.slice e)=>match szOf P e with | some n=>(.slice false n lo.isSome hi.isSome,x :: lo.toList++hi.toList) | none=>(.bad, [])
  | _=>(.bad, [])
 | .slice t x (some l) (some u) (some m)=>
  match P.underlying t with
  | some (.slice e)=>match szOf P e with | some n=>(.slice3 n, [x,l,u,m]) | none=>(.bad, [])
  | _=>(.bad, [])
 | .fieldAddr s x f=>
  match P.underlying s with
  | some (.struct fields)=>match fields[f]? with | some fl=>(match szOf P fl.type with | some (m+1)=>(.fieldAddr fl.offset (m+1), [x]) | _=>(.bad, [])) | none=>(.bad, [])
  | _=>(.bad, [])
 | .field s x f=>
  match P.underlying s with
  | some (.struct fields)=>match fields[f]? with | some fl=>(match aggOf P fl.type,szOf P fl.type with | some g,some n=>(.field g fl.offset n, [x]) | _,_=>(.bad, [])) | none=>(.bad, [])
  | _=>(.bad, [])
 | .indexAddr t x i=>
  match P.underlying t with
  | some (.slice e)=>match szOf P e with | some n=>(.indexAddr none n, [x,i]) | none=>(.bad, [])
  | some (.array len e)=>match szOf P e with | some n=>(.indexAddr (some len) n, [x,i]) | none=>(.bad, [])
  | _=>(.bad, [])
 | .index t x i=>
  match P.underlying t with
  | some .string=>(.indexStr, [x,i])
  | some (.array len e)=>match aggOf P e,szOf P e with | some g,some n=>(.index g len n, [x,i]) | _,_=>(.bad, [])
  | _=>(.bad, [])
 | .extract x i=>(.extract i, [x])
 | .makeMap t none=>
  match P.underlying t with
  | some (.map k e)=>match aggOf P k,aggOf P e with | some ka,some va=>(.makeMap ka va, []) | _,_=>(.bad, [])
  | _=>(.bad, [])
 | .lookup t x ix ok=>
  match P.underlying t with
  | some (.map k e)=>match mapOk P k e with | some (ka,ks,va,z)=>(.lookup ka ks va z ok, [x,ix]) | none=>(.bad, [])
  | _=>(.bad, [])
 | .mapEntry t m k=>
  match P.underlying t with
  | some (.map kt e)=>match mapOk P kt e with | some (ka,ks,va,z)=>(.mapEntry ka ks va z, [m,k]) | none=>(.bad, [])
  | _=>(.bad, [])
 | .entryStore t m s x=>
  match P.underlying t with
  | some (.map kt e)=>match mapOk P kt e with | some (_,_,va,z)=>(.entryStore va z.length, [m,s,x]) | none=>(.bad, [])
  | _=>(.bad, [])
 | .call c=>
  match c.callee with
  | .builtin b=>q8f P b c.args.toList c.argTypes.toList
  | .value (.func f)=>if (sig f).2.length=9 then (if isOvl P f=true then (.ovl,c.args.toList)else (.bad, []))else (.call (sig f).1 (sig f).2, .func f :: c.args.toList)
  | .value f=>(.call false [],f :: c.args.toList)
  | .invoke _ _=>(.bad, [])
 | _=>(.bad, [])
section
variable {P:Program}{S K:Nat->Prop}{w0 w:World}{Kn:Nat->Prop}{φ:Nat->Loc}{hf:Nat->Option Ob}
def Done(S K:Nat->Prop)(w0 w:World)(Kn:Nat->Prop)(φ:Nat->Loc)(hf:Nat->Option Ob)(nxt n':Nat)(v:TV)(u:Upd)(val:Value)(w':World):Prop:=
 nxt ≤ n' ∧ ∃ S' φ', Stp S w S' w' ∧ Ren Kn φ (KnU Kn nxt n') φ' ∧ RTV S' w' (KnU Kn nxt n') φ' v val ∧ Inv S' K w0 (KnU Kn nxt n') φ' (updF u hf) w'
theorem RTV.kn{Kn':Nat->Prop}{c:TV}{v:Value}(h:RTV S w Kn φ c v)(hs:∀i,Kn i->Kn' i):RTV S w Kn' φ c v:=h.mono (Stp.refl _ _) ⟨hs,λ_ _=>rfl⟩
theorem Done.pure{n:Nat}{v:TV}{val:Value}(hI:Inv S K w0 Kn φ hf w)(h:RTV S w Kn φ v val):Done S K w0 w Kn φ hf n n v [] val w:=
 ⟨Nat.le_refl _,S,φ,Stp.refl _ _,q9a _ _,h.kn λ_ hi=> .inl hi,hI.kn λ_ hi=> .inl hi⟩
def Runs(P:Program)(o:Oper)(ρ:Operand->Value)(S K:Nat->Prop)(w0 w:World)(Kn:Nat->Prop)(φ:Nat->Loc)(hf:Nat->Option Ob)(nxt n':Nat)(v:TV)(u:Upd):Prop:=
 ∃nx val w',(execOp ρ o).run P w= .ok nx w'/\(nx= .value val\/(nx= .skip/\val=undef))/\Done S K w0 w Kn φ hf nxt n' v u val w'
theorem qpz{v:Value}{tv:TV}(h:cv v=some tv):RTV S w Kn φ tv v:=by
 unfold cv at h
 split at h
 ·rename_i cs
  split at h
  ·rename_i hp
   obtain rfl:=Option.some.inj h
   refine .agg (by simp) λi x hi=> ?_
   rw [List.getElem?_map]at hi
   obtain ⟨y,hy,rfl⟩:=Option.map_eq_some_iff.1 hi
   have hlt:i < cs.size:=by simpa using (List.getElem?_eq_some_iff.1 hy).1
   have e:cs.getD i undef=y:=by
    rw [Array.getElem?_toList]at hy
    simp [hy]
   rw [e]
   exact .d (.lit (List.all_eq_true.1 hp y (List.mem_of_getElem? hy)))
  ·simp at h
 ·split at h
  ·rename_i hp
   obtain rfl:=Option.some.inj h
   exact .c (.d (.lit hp))
  ·simp at h
def Env.ok(S:Nat->Prop)(w:World)(Kn:Nat->Prop)(φ:Nat->Loc)(e:Env)(tmps:Array Value):Prop:=∀t x,fnd e t=some x->RTV S w Kn φ x (tmps.getD t undef)
theorem q8z{e:Env}{a:Act}(hg:Glob S w)(hE:Env.ok S w Kn φ e a.tmps){x:Operand}{tv:TV}(h:opv e x=some tv):RTV S w Kn φ tv (a.eval x):=by
 cases x with
 | tmp t=>exact hE t tv h
 | const v=>exact qpz h
 | global g=>
  obtain ⟨d,hd,rfl⟩:=Option.map_eq_some_iff.1 (show (glb g).map (λd=>TV.c (.d d))=some tv from h)
  exact .c (.d (hg g d hd))
 | func f=>
  obtain rfl:TV.c (.d (.fn f []))=tv:=by simpa [opv]using h
  exact .c (.d (.fn rfl λj x hj=>by simp at hj))
theorem RTV.lit{v val:Value}(h:RTV S w Kn φ (.c (.d (.lit v))) val):val=v/\plain v=true:=by
 cases h with
 | c h=>cases h with
  | d h=>cases h with
   | lit h=>exact ⟨rfl,h⟩
theorem RTV.of_lit{v:Value}(h:plain v=true):RTV S w Kn φ (lv v) v:= .c (.d (.lit h))
theorem qqy{op:BinOp}{t:TypeId}{x y v:Value}(h:binV op x y=some v):(binOp op t x y).run P w= .ok v w/\plain v=true/\(∀ a b,(eqGuard op t a b x y).run P w= .ok () w):=by
 have hg:∀a b,(match x,y with | .nilIface, .nilIface=>False | .agg _, .agg _=>False | _,_=>True)->(eqGuard op t a b x y).run P w= .ok () w:=by
  intro a b hxy
  unfold eqGuard
  cases op <;> simp <;> (cases x <;> cases y <;> simp_all)
 unfold binV at h
 split at h
 ·rename_i k a k' b
  refine (λ⟨h1,h2⟩=>⟨h1,h2,λa b=>hg a b trivial⟩:(_/\_)->_) ?_
  split at h
  ·split at h
   ·simp at h
   ·rename_i hb
    obtain rfl:=Option.some.inj h
    simp [binOp,Op.shift,hb,plain]
  ·split at h
   ·simp at h
   ·rename_i hb
    obtain rfl:=Option.some.inj h
    simp [binOp,Op.shift,hb,plain]
  ·rename_i op hshl hshr
   split at h
   ·rename_i hk
    subst hk
    split at h <;> first
     | (simp at h; done)
     | (split at h
        ·simp at h
        ·rename_i hb
         obtain rfl:=Option.some.inj h
         simp [binOp,Op.intDiv,hb,plain])
     | (obtain rfl:=Option.some.inj h
        simp [binOp,Op.intArith,Op.intBits,Op.intCmp,plain])
   ·simp at h
 ·rename_i k a k' b
  refine (λ⟨h1,h2⟩=>⟨h1,h2,λa b=>hg a b trivial⟩:(_/\_)->_) ?_
  split at h
  ·rename_i hk
   subst hk
   split at h <;> first
    | (simp at h; done)
    | (obtain ⟨r,hr,rfl⟩:=Option.map_eq_some_iff.1 h
       simp [binOp,Op.floatArith,hr,plain])
    | (obtain rfl:=Option.some.inj h
       simp [binOp,Op.floatCmp,plain])
  ·simp at h
 ·rename_i x y
  refine (λ⟨h1,h2⟩=>⟨h1,h2,λa b=>hg a b trivial⟩:(_/\_)->_) ?_
  split at h <;> first
   | (simp at h; done)
   | (split at h
      ·simp at h
      ·rename_i hb
       obtain rfl:=Option.some.inj h
       refine ⟨?_,rfl⟩
       simp only [binOp,Op.stringOp,if_neg hb,Sem.run_pure])
   | (obtain rfl:=Option.some.inj h
      simp [binOp,Op.stringOp,plain])
 ·simp at h
theorem qtn{op:UnOp}{x v:Value}(h:unV op x=some v):(Op.unary op x).run P w= .ok v w/\plain v=true:=by
 unfold unV at h
 split at h
 ·split at h
  ·obtain rfl:=Option.some.inj h
   simp [Op.unary,plain]
  ·simp at h
 ·split at h
  ·obtain rfl:=Option.some.inj h
   simp [Op.unary,Op.intArith,plain]
  ·obtain rfl:=Option.some.inj h
   simp [Op.unary,Op.intBits,plain]
  ·simp at h
 ·split at h
  ·obtain rfl:=Option.some.inj h
   simp [Op.unary,plain]
  ·simp at h
 ·simp at h
end
end Go.Ev

namespace Go.Ev
section
variable {P:Program}{S K:Nat->Prop}{w0 w:World}{Kn:Nat->Prop}{φ:Nat->Loc}{H:Heap}{e:Env}{ρ:Operand->Value}{o:Oper}{call:Call}
 {nxt n':Nat} {v:TV} {u:Upd} {ids:List Nat}
theorem q6d(j:Nat):(Kn j\/j=nxt)↔KnU Kn nxt (nxt+1) j:=by
 unfold KnU; constructor
 ·rintro (h | rfl)
  ·exact .inl h
  ·exact .inr (by omega)
 ·rintro (h | h)
  ·exact .inl h
  ·exact .inr (by omega)
theorem qlr(hI:Inv S K w0 Kn φ (look H) w):¬S w.heap.size/\¬K w.heap.size:=
 ⟨λh=>Nat.lt_irrefl _ (hI.slt _ h),λh=>by have:=hI.frm.klt _ h; have:=hI.frm.grow; omega⟩
theorem Done.box{hf:Nat->Option Ob}(hI:Inv S K w0 Kn φ (look H) w)(hh:hf=look H)(hn:¬Kn nxt){cs:List C}{arr:Array Value}(t:TypeId)(hlen:cs.length=arr.size)
  (h:∀(i:Nat) (x:C),cs[i]? =some x->RC S w Kn φ x (arr.getD i undef)):
  Done S K w0 w Kn φ hf nxt (nxt+1) (.c (.op nxt 0)) [(nxt,some (.box cs))] (.pointer (some ⟨w.heap.size,0,none⟩)) { w with heap:=w.heap.push (.cells arr t) }:=by
 subst hh
 obtain ⟨nS,nK⟩:=qlr hI
 have hs:=Stp.push (w:=w) hI.slt (.cells arr t)
 refine ⟨Nat.le_succ _,S,_,hs,⟨λ_ h=> .inl h,(q2v _ hn).same⟩, .c ?_,(hI.alloc hn arr t 1 0 (.box cs) (.box rfl nS nK (qik w arr t) hlen λi x hi=>
  (h i x hi).mono hs (q2v _ hn))).knEq λj=>q6d j⟩
 have:=RC.op (S:=S) (w:= { w with heap:=w.heap.push (.cells arr t) }) (Kn:=KnU Kn nxt (nxt+1)) (φ:=ext φ nxt ⟨w.heap.size,0,1,arr.size,0⟩) (id:=nxt) (off:=0) (.inr (by omega))
 simpa [ext]using this
theorem Done.arr{hf:Nat->Option Ob}(hI:Inv S K w0 Kn φ hf w)(hn:¬Kn nxt){sz cap:Nat}{rows:List (List D)}{arr:Array Value}(t:TypeId)(hsz:0 < sz)
  (hcap:rows.length<=cap) (hfit:cap * sz<=arr.size) (h:RowsAt S w sz (λi=>arr[i]?) 0 rows):
  Done S K w0 w Kn φ hf nxt (nxt+1) (.c (.osl sz nxt 0 rows.length)) [(nxt,some (.arr sz rows))] (.slice (some ⟨w.heap.size,0,none⟩) rows.length cap) { w with heap:=w.heap.push (.cells arr t) }:=by
 have nS:¬S w.heap.size:=λh=>Nat.lt_irrefl _ (hI.slt _ h)
 have nK:¬K w.heap.size:=λh=>by have:=hI.frm.klt _ h; have:=hI.frm.grow; omega
 have hs:=Stp.push (w:=w) hI.slt (.cells arr t)
 have hrl:rows.length * sz<=cap * sz:=Nat.mul_le_mul_right _ hcap
 refine ⟨Nat.le_succ _,S,_,hs,⟨λ_ h=> .inl h,(q2v _ hn).same⟩, .c ?_,(hI.alloc hn arr t sz cap (.arr sz rows) (.arr hsz rfl nS nK (qik w arr t) rfl (by simp only; omega) (h.mono hs) hcap)).knEq λj=>q6d j⟩
 have e:ext φ nxt ⟨w.heap.size,0,sz,arr.size,cap⟩ nxt=⟨w.heap.size,0,sz,arr.size,cap⟩:=by simp [ext]
 have:=RC.osl (S:=S) (w:= { w with heap:=w.heap.push (.cells arr t) }) (Kn:=KnU Kn nxt (nxt+1)) (φ:=ext φ nxt ⟨w.heap.size,0,sz,arr.size,cap⟩) (id:=nxt) (off:=0) (len:=rows.length) (cap:=cap) (addr:=0)
  (.inr (by omega)) hcap (by rw [e]; simp) (by rw [e]; simpa using hfit) (by rw [e]; simp)
 rw [e]at this
 simpa using this
theorem qcj(t:TypeId)(val:Value):(newVar t val).run P w= .ok ⟨w.heap.size,0,none⟩ { w with heap:=w.heap.push (.cells val.cells t) }:=by
 simp [newVar,newRow,newObj,Sem.run]
theorem qqm{z:List Value}{arr:Array Value}(hz:arr.toList=z)(hp:∀x∈z,plain x=true):(lits z).length=arr.size/\∀(i:Nat) (x:C),(lits z)[i]? =some x->RC S w Kn φ x (arr.getD i undef):=by
 subst hz
 refine ⟨by simp [lits],λi x hi=> ?_⟩
 simp only [lits,List.getElem?_map]at hi
 obtain ⟨y,hy,rfl⟩:=Option.map_eq_some_iff.1 hi
 have e:arr.getD i undef=y:=by
  rw [Array.getElem?_toList]at hy
  simp [hy]
 rw [e]
 exact .d (.lit (hp y (List.mem_of_getElem? hy)))
theorem qry{t:TypeId}{z:List Value}(ho:o.op= .alloc t)(hz:q37 P t=some z)(hI:Inv S K w0 Kn φ (look H) w)(hn0:nxt < n'->¬Kn nxt)
  (h:ev1 call (.alloc z) [] H nxt=some (v,u,ids,n')):Runs P o ρ S K w0 w Kn φ (look H) nxt n' v u:=by
 obtain ⟨rfl,rfl,rfl,rfl⟩:TV.c (.op nxt 0)=v/\ [(nxt,some (.box (lits z)))]=u/\ []=ids/\nxt+1=n':=by simpa [ev1]using h
 have hn:=hn0 (Nat.lt_succ_self _)
 obtain ⟨val,hv,hc,hp⟩:=q6l hz w
 obtain ⟨h1,h2⟩:=qqm (S:=S) (w:=w) (Kn:=Kn) (φ:=φ) hc hp
 refine ⟨.value _,_,_, ?_, .inl rfl,Done.box hI rfl hn t h1 h2⟩
 simp [execOp,ho,Instr.alloc,hv,qcj]
theorem qvk{t:TypeId}{x:Operand}(ho:o.op= .box t x)(hI:Inv S K w0 Kn φ (look H) w)(hn0:nxt < n'->¬Kn nxt){tv:Option TV}(hx:∀y,tv=some y->RTV S w Kn φ y (ρ x))
  (h:ev1 call .box [tv] H nxt=some (v,u,ids,n')):Runs P o ρ S K w0 w Kn φ (look H) nxt n' v u:=by
 cases tv with
 | none=>simp [ev1]at h
 | some y=>
  simp only [ev1]at h
  split at h
  ·rename_i cs hcs
   obtain ⟨rfl,rfl,rfl,rfl⟩:TV.c (.op nxt 0)=v/\ [(nxt,some (.box cs))]=u/\ []=ids/\nxt+1=n':=by simpa using h
   have hn:=hn0 (Nat.lt_succ_self _)
   obtain ⟨h1,h2,_⟩:=(hx y rfl).cells hcs
   refine ⟨.value _,_,_, ?_, .inl rfl,Done.box hI rfl hn t h1 h2⟩
   simp [execOp,ho,Instr.box,qcj]
  ·simp at h
theorem qmm{t:TypeId}{agg:Bool}{n:Nat}(ha:aggOf P t=some agg)(hs:szOf P t=some n)(hI:Inv S K w0 Kn φ (look H) w){p:C}{pv:Value}(hp:RC S w Kn φ p pv)(hn0:nxt < n'->¬Kn nxt)
  (h:q3o agg n p H nxt=some (v,u,ids,n')):∃val,(Instr.loadAt t pv).run P w= .ok val w/\Done S K w0 w Kn φ (look H) nxt n' v u val w:=by
 unfold q3o at h
 split at h
 case h_2=>simp at h
 rename_i id row
 split at h
 case h_2=>simp at h
 rename_i sz slots ho
 split at h
 case isFalse=>simp at h
 rename_i hag
 obtain ⟨rfl,rfl⟩:=hag
 obtain ⟨hk,hro⟩:=hI.obj id _ ho
 have hl:(φ id).sz=1:=by cases hro with | nst hsz hl=>exact hl
 cases hp with
 | ep hk'=>
  have ea:(⟨(φ id).blk,(φ id).base+row * (φ id).sz+0,none⟩:Addr)=⟨(φ id).blk,(φ id).base+row,none⟩:=by rw [hl,Nat.mul_one,Nat.add_zero]
  rw [ea]
  split at h
  ·rename_i hsl
   obtain ⟨rfl,rfl,rfl,rfl⟩:TV.c (.d (.lit (.slice none 0 0)))=v/\ []=u/\ [id]=ids/\nxt=n':=by simpa using h
   cases hro with
   | nst hsz hl hS hK hown hext hfit hr hv=>
    obtain ⟨x,h1,h2⟩:=hr row _ hsl
    cases h2
    obtain ⟨val,q1,q2⟩:=qcs (S:=S) (Kn:=Kn) (φ:=φ) ha hs (cells:= [.d (.lit (.slice none 0 0))]) (b:=(φ id).blk) (o:=(φ id).base+row) (λj x hj=>by
     cases j with
     | succ j=>simp at hj
     | zero=>
      obtain rfl:C.d (.lit (.slice none 0 0))=x:=by simpa using hj
      exact ⟨_,(hown.cell _).trans h1, .d (.lit rfl)⟩) (v:=TV.c (.d (.lit (.slice none 0 0)))) rfl
    exact ⟨val,by simp [Instr.loadAt,Instr.sureAddr,q1],Done.pure hI q2⟩
  ·rename_i rows hsl
   obtain ⟨rfl,rfl,rfl,rfl⟩:TV.c (.osl sz nxt 0 rows.length)=v/\ [(nxt,some (Ob.arr sz rows)),(id,some (Ob.nst sz (slots.set row (.out nxt rows.length))))]=u/\ [id]=ids/\nxt+1=n':=by simpa using h
   have hn:=hn0 (Nat.lt_succ_self _)
   obtain ⟨l,x,h1,h2,h3⟩:=hI.split ho hsl hn
   obtain ⟨val,q1,q2⟩:=qcs (S:=S) (Kn:=λj=>Kn j\/j=nxt) (φ:=ext φ nxt l) ha hs (cells:= [.osl sz nxt 0 rows.length]) (b:=(φ id).blk) (o:=(φ id).base+row) (λj x' hj=>by
     cases j with
     | succ j=>simp at hj
     | zero=>
      obtain rfl:C.osl sz nxt 0 rows.length=x':=by simpa using hj
      exact ⟨x,h1,h2⟩) (v:=TV.c (.osl sz nxt 0 rows.length)) rfl
   refine ⟨val,by simp [Instr.loadAt,Instr.sureAddr,q1],Nat.le_succ _,S,ext φ nxt l,Stp.refl _ _,⟨λi hi=> .inl hi,(q2v l hn).same⟩,q2.kn λi=>(q6d i).1,h3.knEq λi=>q6d i⟩
  ·simp at h
theorem qnk{t:TypeId}{x:Operand}{agg:Bool}{n:Nat}(ho:o.op= .load t x)(ha:aggOf P t=some agg)(hs:szOf P t=some n)(hI:Inv S K w0 Kn φ (look H) w)
  {tv:Option TV} (hx:∀y,tv=some y->RTV S w Kn φ y (ρ x)) (h:ev1 call (.load agg n) [tv] H nxt=some (v,u,ids,n')):Runs P o ρ S K w0 w Kn φ (look H) nxt n' v u:=by
 cases tv with
 | none=>simp [ev1]at h
 | some y=>
  cases y with
  | c p=>
   change (match q20 agg n p H with | some (v,ids)=>some (v, [],ids,nxt) | none=>none)=_ at h
   split at h
   ·rename_i v' ids' hl
    obtain ⟨rfl,rfl,rfl,rfl⟩:v'=v/\ []=u/\ids'=ids/\nxt=n':=by simpa using h
    cases hx _ rfl with
    | c hp=>
     obtain ⟨val,h1,h2⟩:=qc5 ha hs hI hp hl
     refine ⟨.value _,_,_, ?_, .inl rfl,Done.pure hI h2⟩
     simp [execOp,ho,h1]
   ·simp at h
  | _=>simp [ev1]at h
theorem qqj{t:TypeId}{x:Operand}(ho:o.op= .load t x)(ha:aggOf P t=some false)(hs:szOf P t=some 1)(hI:Inv S K w0 Kn φ (look H) w)(hn0:nxt < n'->¬Kn nxt)
  {tv:Option TV} (hx:∀y,tv=some y->RTV S w Kn φ y (ρ x)) (h:ev1 call .loadN [tv] H nxt=some (v,u,ids,n')):Runs P o ρ S K w0 w Kn φ (look H) nxt n' v u:=by
 cases tv with
 | none=>simp [ev1]at h
 | some y=>
  cases y with
  | c p=>
   change (match q20 false 1 p H with | some (v,ids)=>some (v, [],ids,nxt) | none=>q3o false 1 p H nxt)=_ at h
   split at h
   ·rename_i v' ids' hl
    exact qnk (call:=call) ho ha hs hI (tv:=some (.c p)) hx (by
     show (match q20 false 1 p H with | some (v,ids)=>some (v, [],ids,nxt) | none=>none)=_
     rw [hl]; exact h)
   ·cases hx _ rfl with
    | c hp=>
     obtain ⟨val,h1,h2⟩:=qmm ha hs hI hp hn0 h
     refine ⟨.value _,_,_, ?_, .inl rfl,h2⟩
     simp [execOp,ho,h1]
  | _=>simp [ev1]at h
theorem Runs.pure{val:Value}(hI:Inv S K w0 Kn φ (look H) w)(hr:(execOp ρ o).run P w= .ok (.value val) w)(h:RTV S w Kn φ v val):Runs P o ρ S K w0 w Kn φ (look H) nxt nxt v []:=
 ⟨.value val,val,w,hr, .inl rfl,Done.pure hI h⟩
theorem op_mv{x:Operand}(ho:o.op= .move x\/o.op= .assign x)(hI:Inv S K w0 Kn φ (look H) w){tv:Option TV}(hx:∀y,tv=some y->RTV S w Kn φ y (ρ x))
  (h:ev1 call .mv [tv] H nxt=some (v,u,ids,n')):Runs P o ρ S K w0 w Kn φ (look H) nxt n' v u:=by
 cases tv with
 | none=>simp [ev1]at h
 | some y=>
  obtain ⟨rfl,rfl,rfl,rfl⟩:y=v/\ []=u/\ []=ids/\nxt=n':=by simpa [ev1]using h
  refine Runs.pure hI ?_ (hx _ rfl)
  rcases ho with ho | ho <;> simp [execOp,ho]
theorem quf{c x y:Operand}(ho:o.op= .pick c x y)(hI:Inv S K w0 Kn φ (look H) w){tc tx ty:Option TV}(hc:∀z,tc=some z->RTV S w Kn φ z (ρ c))
  (hx:∀z,tx=some z->RTV S w Kn φ z (ρ x)) (hy:∀z,ty=some z->RTV S w Kn φ z (ρ y))
  (h:ev1 call .pick [tc,tx,ty] H nxt=some (v,u,ids,n')):Runs P o ρ S K w0 w Kn φ (look H) nxt n' v u:=by
 match tc,h,hc with
 | some (.c (.d (.lit (.bool b)))),h,hc=>
  change (match (if b then tx else ty)with | some v=>some (v, [], [],nxt) | none=>none)=_ at h
  obtain ⟨hb,_⟩:=(hc _ rfl).lit
  cases b
  ·simp only [Bool.false_eq_true,if_false]at h
   cases ty with
   | none=>simp at h
   | some z=>
    obtain ⟨rfl,rfl,rfl,rfl⟩:z=v/\ []=u/\ []=ids/\nxt=n':=by simpa using h
    exact Runs.pure hI (by simp [execOp,ho,hb,asBool]) (hy _ rfl)
  ·simp only [if_true]at h
   cases tx with
   | none=>simp at h
   | some z=>
    obtain ⟨rfl,rfl,rfl,rfl⟩:z=v/\ []=u/\ []=ids/\nxt=n':=by simpa using h
    exact Runs.pure hI (by simp [execOp,ho,hb,asBool]) (hx _ rfl)
theorem qgn{x:Operand}(ho:o.op= .nilCheck x)(hI:Inv S K w0 Kn φ (look H) w){tv:Option TV}(hx:∀y,tv=some y->RTV S w Kn φ y (ρ x))
  (h:ev1 call .nilCheck [tv] H nxt=some (v,u,ids,n')):Runs P o ρ S K w0 w Kn φ (look H) nxt n' v u:=by
 match tv,h,hx with
 | some (.c c),h,hx=>
  have key:(∃ a,ρ x= .pointer (some a))\/(∃ g vs,ρ x= .func (.func g) #[] vs)->some (TV.c c,([]:Upd),([]:List Nat),nxt)=some (v,u,ids,n')->Runs P o ρ S K w0 w Kn φ (look H) nxt n' v u:=by
   intro hc h
   obtain ⟨rfl,rfl,rfl,rfl⟩:TV.c c=v/\ []=u/\ []=ids/\nxt=n':=by simpa using h
   refine Runs.pure hI ?_ (hx _ rfl)
   rcases hc with ⟨a,hc⟩ | ⟨g,vs,hc⟩ <;> simp [execOp,ho,hc]
  have hr:=hx _ rfl
  generalize hv0:ρ x=val at hr
  cases hr with
  | c hr=>
   cases hr with
   | d hd=>
    cases hd with
    | lit hp=>simp [ev1]at h
    | sl=>simp [ev1]at h
    | sl0=>simp [ev1]at h
    | pt f hb=>exact key (.inl ⟨_,hv0⟩) h
    | fn hl hr=>exact key (.inr ⟨_,_,hv0⟩) h
   | osl=>simp [ev1]at h
   | ep hk=>exact key (.inl ⟨_,hv0⟩) h
   | op hk=>exact key (.inl ⟨_,hv0⟩) h
   | ofn hl hr=>exact key (.inr ⟨_,_,hv0⟩) h
   | om hk=>simp [ev1]at h
theorem op_un{t:TypeId}{op:UnOp}{x:Operand}(ho:o.op= .unOp op t x)(hI:Inv S K w0 Kn φ (look H) w){tv:Option TV}(hx:∀y,tv=some y->RTV S w Kn φ y (ρ x))
  (h:ev1 call (.un op) [tv] H nxt=some (v,u,ids,n')):Runs P o ρ S K w0 w Kn φ (look H) nxt n' v u:=by
 match tv,h,hx with
 | some (.c (.d (.lit z))),h,hx=>
  change (match unV op z with | some v=>some (lv v, [], [],nxt) | none=>none)=_ at h
  split at h
  ·rename_i r hr
   obtain ⟨rfl,rfl,rfl,rfl⟩:lv r=v/\ []=u/\ []=ids/\nxt=n':=by simpa using h
   obtain ⟨hb,_⟩:=(hx _ rfl).lit
   obtain ⟨h1,h2⟩:=qtn (P:=P) (w:=w) hr
   exact Runs.pure hI (by simp [execOp,ho,hb,h1]) (.of_lit h2)
  ·simp at h
theorem qws{t ty:TypeId}{op:BinOp}{x y:Operand}(ho:o.op= .binOp op t x y ty)(hI:Inv S K w0 Kn φ (look H) w){tx tz:Option TV}(hx:∀z,tx=some z->RTV S w Kn φ z (ρ x))
  (hy:∀z,tz=some z->RTV S w Kn φ z (ρ y)) (h:ev1 call (.bin op) [tx,tz] H nxt=some (v,u,ids,n')):Runs P o ρ S K w0 w Kn φ (look H) nxt n' v u:=by
 match tx,tz,h,hx,hy with
 | some (.c (.d (.lit a))),some (.c (.d (.lit b))),h,hx,hy=>
  change (match binV op a b with | some v=>some (lv v, [], [],nxt) | none=>none)=_ at h
  split at h
  ·rename_i r hr
   obtain ⟨rfl,rfl,rfl,rfl⟩:lv r=v/\ []=u/\ []=ids/\nxt=n':=by simpa using h
   obtain ⟨ha,_⟩:=(hx _ rfl).lit
   obtain ⟨hb,_⟩:=(hy _ rfl).lit
   obtain ⟨h1,h2,h3⟩:=qqy (P:=P) (w:=w) (t:=t) hr
   exact Runs.pure hI (by simp [execOp,ho,ha,hb,h1,h3]) (.of_lit h2)
  ·simp at h
theorem qd0{t:TypeId}(hu:P.underlying t=some .bool)(a b:Bool):(Op.equal t (.bool a) (.bool b)).run P w= .ok (a == b) w:=by
 show (Op.equalIn (9999+1) t (.bool a) (.bool b)).run P w=_
 unfold Op.equalIn
 rw [Sem.run_bind,q0a hu]
 rfl
theorem qpa{t ty:TypeId}{op:BinOp}{x y:Operand}(ho:o.op= .binOp op t x y ty)(hop:op= .eql\/op= .neq)(hu:P.underlying t=some .bool)(hI:Inv S K w0 Kn φ (look H) w)
  {tx tz:Option TV} (hx:∀z,tx=some z->RTV S w Kn φ z (ρ x)) (hy:∀z,tz=some z->RTV S w Kn φ z (ρ y))
  (h:ev1 call (.eqBool (op == .neq)) [tx,tz] H nxt=some (v,u,ids,n')):Runs P o ρ S K w0 w Kn φ (look H) nxt n' v u:=by
 match tx,tz,h,hx,hy with
 | some (.c (.d (.lit (.bool a)))),some (.c (.d (.lit (.bool b)))),h,hx,hy=>
  obtain ⟨ha,_⟩:=(hx _ rfl).lit
  obtain ⟨hb,_⟩:=(hy _ rfl).lit
  change some (lv (.bool (if (op == .neq)then !(a == b)else a == b)),([]:Upd),([]:List Nat),nxt)=_ at h
  obtain ⟨rfl,rfl,rfl,rfl⟩:lv (.bool (if (op == .neq)then !(a == b)else a == b))=v/\ []=u/\ []=ids/\nxt=n':=by simpa using h
  refine Runs.pure hI ?_ (.of_lit rfl)
  rcases hop with rfl | rfl
  ·simp [execOp,ho,ha,hb,eqGuard,binOp,qd0 hu]
  ·simp [execOp,ho,ha,hb,eqGuard,binOp,qd0 hu]
theorem ql6{s d:TypeId}{k k':IntKind}{x:Operand}(ho:o.op= .convert s d x)(hs:P.underlying s=some (.int k'))(hd:P.underlying d=some (.int k))(hI:Inv S K w0 Kn φ (look H) w)
  {tv:Option TV} (hx:∀y,tv=some y->RTV S w Kn φ y (ρ x)) (h:ev1 call (.convInt k) [tv] H nxt=some (v,u,ids,n')):Runs P o ρ S K w0 w Kn φ (look H) nxt n' v u:=by
 match tv,h,hx with
 | some (.c (.d (.lit (.int k0 n)))),h,hx=>
  obtain ⟨ha,_⟩:=(hx _ rfl).lit
  obtain ⟨rfl,rfl,rfl,rfl⟩:lv (.int k (k.wrap n))=v/\ []=u/\ []=ids/\nxt=n':=by simpa [ev1]using h
  exact Runs.pure hI (by simp [execOp,ho,ha,convert,q0a hs,q0a hd,Conv.intToInt]) (.of_lit rfl)
theorem qgq{s d:TypeId}{x:Operand}(ho:o.op= .convert s d x)(hs:P.underlying s=some .string)(hd:P.underlying d=some .string)(hI:Inv S K w0 Kn φ (look H) w)
  {tv:Option TV} (hx:∀y,tv=some y->RTV S w Kn φ y (ρ x)) (h:ev1 call .convSame [tv] H nxt=some (v,u,ids,n')):Runs P o ρ S K w0 w Kn φ (look H) nxt n' v u:=by
 match tv,h,hx with
 | some (.c (.d (.lit (.string s0)))),h,hx=>
  obtain ⟨ha,_⟩:=(hx _ rfl).lit
  obtain ⟨rfl,rfl,rfl,rfl⟩:lv (.string s0)=v/\ []=u/\ []=ids/\nxt=n':=by simpa [ev1]using h
  exact Runs.pure hI (by simp [execOp,ho,ha,convert,q0a hs,q0a hd]) (.of_lit rfl)
theorem qkb{x:Operand}{i:Nat}(ho:o.op= .extract x i)(hI:Inv S K w0 Kn φ (look H) w){tv:Option TV}(hx:∀y,tv=some y->RTV S w Kn φ y (ρ x))
  (h:ev1 call (.extract i) [tv] H nxt=some (v,u,ids,n')):Runs P o ρ S K w0 w Kn φ (look H) nxt n' v u:=by
 match tv,h,hx with
 | some (.tup xs),h,hx=>
  change (match xs[i]? with | some v=>some (v, [], [],nxt) | none=>none)=_ at h
  split at h
  ·rename_i y hy
   obtain ⟨rfl,rfl,rfl,rfl⟩:y=v/\ []=u/\ []=ids/\nxt=n':=by simpa using h
   have hr:=hx _ rfl
   generalize hv0:ρ x=val at hr
   cases hr with
   | @tup _ arr hlen hr=>
    have hlt:i < arr.size:=by rw [<- hlen]; exact (List.getElem?_eq_some_iff.1 hy).1
    refine Runs.pure (val:=arr.getD i undef) hI ?_ (hr i y hy)
    simp [execOp,ho,hv0,Instr.extract,hlt]
  ·simp at h
theorem qga{s:TypeId}{f n:Nat}{fields:Array Field}{fl:Field}{x:Operand}(ho:o.op= .fieldAddr s x f)(hu:P.underlying s=some (.struct fields))(hf:fields[f]? =some fl)
  (hs:szOf P fl.type=some (n+1)) (hI:Inv S K w0 Kn φ (look H) w) {tv:Option TV} (hx:∀y,tv=some y->RTV S w Kn φ y (ρ x))
  (h:ev1 call (.fieldAddr fl.offset (n+1)) [tv] H nxt=some (v,u,ids,n')):Runs P o ρ S K w0 w Kn φ (look H) nxt n' v u:=by
 match tv,h,hx with
 | some (.c c),h,hx=>
  change (match q2l fl.offset (n+1) c with | some y=>some (TV.c y, [], [],nxt) | none=>none)=_ at h
  split at h
  ·rename_i y hy
   obtain ⟨rfl,rfl,rfl,rfl⟩:TV.c y=v/\ []=u/\ []=ids/\nxt=n':=by simpa using h
   have run:∀b off,ρ x= .pointer (some ⟨b,off,none⟩)->(execOp ρ o).run P w= .ok (.value (.pointer (some ⟨b,off+fl.offset,none⟩))) w:=by
    intro b off hv
    simp [execOp,ho,hv,Instr.fieldAt,q0a hu,hf,Instr.sureAddr,fieldPlace,q21 hs,q6p]
   have hr:=hx _ rfl
   generalize hv0:ρ x=val at hr
   cases hr with
   | c hr=>
    cases hr with
    | d hd=>
     cases hd with
     | @pt cells b off g hb hcell hrd=>
      simp only [q2l]at hy
      split at hy
      ·obtain rfl:=Option.some.inj hy
       refine Runs.pure hI (run _ _ hv0) (.c (.d (.pt_of hb λj z hj=> ?_)))
       rw [List.getElem?_take]at hj
       split at hj
       ·rw [List.getElem?_drop]at hj
        exact ⟨_,by rw [Nat.add_assoc]; exact hcell _ _ hj,hrd _ _ hj⟩
       ·simp at hj
      ·simp at hy
     | _=>simp [q2l]at hy
    | @op id off hk=>
     obtain rfl:C.op id (off+fl.offset)=y:=by simpa [q2l]using hy
     refine Runs.pure hI (run _ _ hv0) (.c ?_)
     rw [Nat.add_assoc]; exact .op hk
    | @ep id row off hk=>
     obtain rfl:C.ep id row (off+fl.offset)=y:=by simpa [q2l]using hy
     refine Runs.pure hI (run _ _ hv0) (.c ?_)
     rw [Nat.add_assoc]; exact .ep hk
    | _=>simp [q2l]at hy
  ·simp at h
theorem qs4{str:Bool}{t:TypeId}{x:Operand}{c:Go.Call}(ho:o.op= .call c)(hcal:c.callee= .builtin .len)(hargs:c.args=#[x])(hts:c.argTypes=#[t])
  (hu:if str then P.underlying t=some .string else ∃b,P.underlying t=some (.slice b)) (hI:Inv S K w0 Kn φ (look H) w) {tv:Option TV} (hx:∀y,tv=some y->RTV S w Kn φ y (ρ x))
  (h:ev1 call (.len str) [tv] H nxt=some (v,u,ids,n')):Runs P o ρ S K w0 w Kn φ (look H) nxt n' v u:=by
 match tv,h,hx with
 | some (.c y),h,hx=>
  change (match evLen str y with | some n=>some (lv (.int .i64 n), [], [],nxt) | none=>none)=_ at h
  split at h
  ·rename_i n hn
   obtain ⟨rfl,rfl,rfl,rfl⟩:lv (.int .i64 n)=v/\ []=u/\ []=ids/\nxt=n':=by simpa using h
   refine Runs.pure hI ?_ (.of_lit rfl)
   have hr:=hx _ rfl
   generalize hv0:ρ x=val at hr
   cases str with
   | true=>
    simp only [if_true]at hu
    match y,hn,hr with
    | .d (.lit (.string s)),hn,hr=>
     obtain ⟨rfl,_⟩:=hr.lit
     obtain rfl:(s.size:Int)=n:=by simpa [evLen]using hn
     simp [execOp,ho,hcal,hargs,hts,resolve,invoke,builtin,hv0,Builtin.len_,q0a hu,goInt]
   | false=>
    simp only [Bool.false_eq_true,if_false]at hu
    obtain ⟨b,hu⟩:=hu
    have hsl:∀a l k,val= .slice a l k->n=(l:Int)->(execOp ρ o).run P w= .ok (.value (.int .i64 n)) w:=by
     intro a l k e1 e2
     simp [execOp,ho,hcal,hargs,hts,resolve,invoke,builtin,hv0,e1,e2,Builtin.len_,q0a hu,goInt]
    match y,hn,hr with
    | .d (.lit (.slice none 0 0)),hn,hr=>
     obtain ⟨rfl,_⟩:=hr.lit
     exact hsl _ _ _ rfl (by simpa [evLen]using hn.symm)
    | .d (.sl sz rows),hn,hr=>
     cases hr with
     | c hr=>cases hr with
      | d hd=>cases hd with
       | sl=>exact hsl _ _ _ rfl (by simpa [evLen]using hn.symm)
       | sl0=>exact hsl _ _ _ rfl (by simpa [evLen]using hn.symm)
    | .osl sz id off len,hn,hr=>
     cases hr with
     | c hr=>cases hr with
      | osl=>exact hsl _ _ _ rfl (by simpa [evLen]using hn.symm)
  ·simp at h
theorem q85{op:BinOp}(hop:op= .eql\/op= .neq){t:TypeId}{x y:Value}{b:Bool}(a c:Operand)
  (h1:binOp .eql t x y=(do pure (.bool (<- Op.equal t x y)))) (h2:binOp .neq t x y=(do pure (.bool (!(<- Op.equal t x y)))))
  (hg:(eqGuard op t a c x y).run P w= .ok () w) (he:(Op.equal t x y).run P w= .ok b w):
  ((do eqGuard op t a c x y; binOp op t x y):Sem Value).run P w= .ok (.bool (if op == .neq then !b else b)) w:=by
 rcases hop with rfl | rfl
 ·rw [Sem.run_bind,hg,Result.andThen_ok,h1,Sem.run_bind,he]; rfl
 ·rw [Sem.run_bind,hg,Result.andThen_ok,h2,Sem.run_bind,he]; rfl
theorem q7j{op:BinOp}{t:TypeId}(a c:Operand){x y:Value}(h:match x,y with | .nilIface, .nilIface=>False | .agg _, .agg _=>False | _,_=>True):
  (eqGuard op t a c x y).run P w= .ok () w:=by
 unfold eqGuard
 cases op <;> simp <;> (cases x <;> cases y <;> simp_all)
theorem q7k(t:TypeId)(x y:Value):Op.equal t x y=Op.equalIn (9999+1) t x y:=rfl
def nilTy(P:Program)(t:TypeId):Nat->Prop
 | 0=>∃x,P.underlying t=some (.slice x)
 | 1=>∃x,P.underlying t=some (.pointer x)
 | 2=>∃a b c,P.underlying t=some (.func a b c)
 | _=>False
theorem qma{op:BinOp}(hop:op= .eql\/op= .neq){kind:Nat}{t:TypeId}{y:C}{val:Value}{b:Bool}(a c:Operand)(hu:nilTy P t kind)
  (hr:RTV S w Kn φ (.c y) val) (hn:evNil kind y=some b):
  ((do eqGuard op t a c val (nilOf kind); binOp op t val (nilOf kind)):Sem Value).run P w= .ok (.bool (if op == .neq then !b else b)) w/\
  ((do eqGuard op t a c (nilOf kind) val; binOp op t (nilOf kind) val):Sem Value).run P w= .ok (.bool (if op == .neq then !b else b)) w:=by
 have hsl:(∃ x,P.underlying t=some (.slice x))->∀q l k,kind=0->val= .slice q l k->b=q.isNone->
   ((do eqGuard op t a c val (nilOf kind); binOp op t val (nilOf kind)):Sem Value).run P w= .ok (.bool (if op == .neq then !b else b)) w/\
   ((do eqGuard op t a c (nilOf kind) val; binOp op t (nilOf kind) val):Sem Value).run P w= .ok (.bool (if op == .neq then !b else b)) w:=by
  rintro ⟨x,hu'⟩ q l k rfl rfl rfl
  refine ⟨q85 hop a c rfl rfl (q7j a c trivial) ?_,q85 hop a c rfl rfl (q7j a c trivial) ?_⟩
  all_goals
   rw [q7k]; unfold Op.equalIn
   rw [Sem.run_bind,q0a hu']
   cases q <;> rfl
 have hpt:(∃ x,P.underlying t=some (.pointer x))->∀q,kind=1->val= .pointer q->b=q.isNone->
   ((do eqGuard op t a c val (nilOf kind); binOp op t val (nilOf kind)):Sem Value).run P w= .ok (.bool (if op == .neq then !b else b)) w/\
   ((do eqGuard op t a c (nilOf kind) val; binOp op t (nilOf kind) val):Sem Value).run P w= .ok (.bool (if op == .neq then !b else b)) w:=by
  rintro ⟨x,hu'⟩ q rfl rfl rfl
  refine ⟨q85 hop a c ?_ ?_ (q7j a c trivial) ?_,q85 hop a c ?_ ?_ (q7j a c trivial) ?_⟩
  ·cases q <;> rfl
  ·cases q <;> rfl
  ·rw [q7k]; unfold Op.equalIn
   rw [Sem.run_bind,q0a hu']
   cases q <;> rfl
  ·cases q <;> rfl
  ·cases q <;> rfl
  ·rw [q7k]; unfold Op.equalIn
   rw [Sem.run_bind,q0a hu']
   cases q <;> rfl
 have hfn:(∃ x y z,P.underlying t=some (.func x y z))->kind=2->((val= .nilFunc/\b=true)\/((∃ f p q,val= .func f p q)/\b=false))->
   ((do eqGuard op t a c val (nilOf kind); binOp op t val (nilOf kind)):Sem Value).run P w= .ok (.bool (if op == .neq then !b else b)) w/\
   ((do eqGuard op t a c (nilOf kind) val; binOp op t (nilOf kind) val):Sem Value).run P w= .ok (.bool (if op == .neq then !b else b)) w:=by
  rintro ⟨x,y,z,hu'⟩ rfl (⟨rfl,rfl⟩ | ⟨⟨f,p,q,rfl⟩,rfl⟩)
  all_goals
   refine ⟨q85 hop a c rfl rfl (q7j a c trivial) ?_,q85 hop a c rfl rfl (q7j a c trivial) ?_⟩
   all_goals
    rw [q7k]; unfold Op.equalIn
    rw [Sem.run_bind,q0a hu']
    rfl
 cases hr with
 | c hr=>
  match kind,y,hn,hr,hu with
  | 0, .d (.lit (.slice none 0 0)),hn,hr,hu=>
   cases hr with | d hd=>cases hd with | lit hp=>exact hsl hu _ _ _ rfl rfl (by simpa [evNil]using hn.symm)
  | 0, .d (.sl _ _),hn,hr,hu=>cases hr with | d hd=>cases hd with | sl=>exact hsl hu _ _ _ rfl rfl (by simpa [evNil]using hn.symm) | sl0=>exact hsl hu _ _ _ rfl rfl (by simpa [evNil]using hn.symm)
  | 0, .osl _ _ _ _,hn,hr,hu=>cases hr with | osl=>exact hsl hu _ _ _ rfl rfl (by simpa [evNil]using hn.symm)
  | 1, .d (.lit (.pointer none)),hn,hr,hu=>
   cases hr with | d hd=>cases hd with | lit hp=>exact hpt hu _ rfl rfl (by simpa [evNil]using hn.symm)
  | 1, .d (.pt _),hn,hr,hu=>cases hr with | d hd=>cases hd with | pt=>exact hpt hu _ rfl rfl (by simpa [evNil]using hn.symm)
  | 1, .ep _ _ _,hn,hr,hu=>cases hr with | ep=>exact hpt hu _ rfl rfl (by simpa [evNil]using hn.symm)
  | 1, .op _ _,hn,hr,hu=>cases hr with | op=>exact hpt hu _ rfl rfl (by simpa [evNil]using hn.symm)
  | 2, .d (.lit .nilFunc),hn,hr,hu=>
   cases hr with | d hd=>cases hd with | lit hp=>exact hfn hu rfl (.inl ⟨rfl,by simpa [evNil]using hn.symm⟩)
  | 2, .d (.fn _ _),hn,hr,hu=>cases hr with | d hd=>cases hd with | fn=>exact hfn hu rfl (.inr ⟨⟨_,_,_,rfl⟩,by simpa [evNil]using hn.symm⟩)
  | 2, .ofn _ _,hn,hr,hu=>cases hr with | ofn=>exact hfn hu rfl (.inr ⟨⟨_,_,_,rfl⟩,by simpa [evNil]using hn.symm⟩)
theorem qbs{kind:Nat}{x:Operand}(h:qcc kind x=true):x= .const (nilOf kind):=by
 unfold qcc at h
 split at h <;> first | rfl | simp at h
theorem qj9{t ty:TypeId}{op:BinOp}{x y z:Operand}{kind:Nat}(ho:o.op= .binOp op t x y ty)(hop:op= .eql\/op= .neq)(hu:nilTy P t kind)(hI:Inv S K w0 Kn φ (look H) w)
  (hc:∀v,ρ (.const v)=v) (hz:(z=x/\qcc kind y=true)\/(z=y/\qcc kind x=true)) {tv:Option TV} (hx:∀y,tv=some y->RTV S w Kn φ y (ρ z))
  (h:ev1 call (.eqNil kind (op == .neq)) [tv] H nxt=some (v,u,ids,n')):Runs P o ρ S K w0 w Kn φ (look H) nxt n' v u:=by
 match tv,h,hx with
 | some (.c c),h,hx=>
  change (match evNil kind c with | some b=>some (lv (.bool (if (op == BinOp.neq)then !b else b)),([]:Upd),([]:List Nat),nxt) | none=>none)=_ at h
  split at h
  ·rename_i b hb
   obtain ⟨rfl,rfl,rfl,rfl⟩:lv (.bool (if (op == BinOp.neq)then !b else b))=v/\ []=u/\ []=ids/\nxt=n':=by simpa using h
   refine Runs.pure hI ?_ (.of_lit rfl)
   obtain ⟨h1,h2⟩:=qma (P:=P) hop x y hu (hx _ rfl) hb
   rcases hz with ⟨rfl,hn⟩ | ⟨rfl,hn⟩
   ·have e:=qbs hn
    simp only [execOp,ho,Sem.run_bind]
    rw [Sem.run_bind]at h1
    rw [e]at h1 ⊢
    rw [hc,h1]; rfl
   ·have e:=qbs hn
    simp only [execOp,ho,Sem.run_bind]
    rw [Sem.run_bind]at h2
    rw [e]at h2 ⊢
    rw [hc,h2]; rfl
  ·simp at h
end
end Go.Ev

namespace Go.Ev
section
variable {P:Program}{S K:Nat->Prop}{w0 w:World}{Kn:Nat->Prop}{φ:Nat->Loc}{H:Heap}{e:Env}{ρ:Operand->Value}{o:Oper}{call:Call}
 {nxt n':Nat} {v:TV} {u:Upd} {ids:List Nat}
theorem qbk{α:Type}:∀ {l:List (Option α)} {xs:List α},q0t l=some xs->l=xs.map some:=by
 intro l
 induction l with
 | nil=>
  intro xs h
  obtain rfl: []=xs:=by simpa [q0t]using h
  rfl
 | cons a l ih=>
  intro xs h
  cases a with
  | none=>simp [q0t]at h
  | some x=>
   simp only [q0t]at h
   split at h
   ·rename_i ys hy
    obtain rfl:=Option.some.inj h
    simp [ih hy]
   ·simp at h
theorem qaj{args:List Operand}{xs:List TV}(hρ:∀x tv,opv e x=some tv->RTV S w Kn φ tv (ρ x))(h:q0t (args.map (opv e))=some xs):
  xs.length=args.length/\∀(i:Nat) (x:Operand) (tv:TV),args[i]? =some x->xs[i]? =some tv->RTV S w Kn φ tv (ρ x):=by
 have h1:=qbk h
 have hl:xs.length=args.length:=by have:=congrArg List.length h1; simpa using this.symm
 refine ⟨hl,λi x tv hx htv=>hρ x tv ?_⟩
 have h2:=congrArg (λl=>l[i]?) h1
 simp only [List.getElem?_map,hx,htv,Option.map_some]at h2
 exact Option.some.inj h2
theorem qtq{f:FuncId}{first captured:Array Operand}(ho:o.op= .makeFunc (.func f) first captured)(hf:first.isEmpty=true)(hI:Inv S K w0 Kn φ (look H) w)
  (hρ:∀x tv,opv e x=some tv->RTV S w Kn φ tv (ρ x)) (h:ev1 call (.mkFn f) (captured.toList.map (opv e)) H nxt=some (v,u,ids,n')):Runs P o ρ S K w0 w Kn φ (look H) nxt n' v u:=by
 change (match q0t (captured.toList.map (opv e))with
  | some xs=>(match q0t (xs.map λ(x:TV)=>match x with | .c c=>some c | _=>none)with | some cs=>some (TV.c (.ofn f cs),([]:Upd),([]:List Nat),nxt) | none=>none)
  | none=>none)=_ at h
 split at h
 ·rename_i xs hxs
  split at h
  ·rename_i cs hcs
   obtain ⟨rfl,rfl,rfl,rfl⟩:TV.c (.ofn f cs)=v/\ []=u/\ []=ids/\nxt=n':=by simpa using h
   obtain ⟨hl,hr⟩:=qaj hρ hxs
   have h2:=qbk hcs
   have hl2:cs.length=xs.length:=by have:=congrArg List.length h2; simpa using this.symm
   have hf':first=#[]:=by simpa using hf
   refine Runs.pure (val:= .func (.func f) #[] (captured.map ρ)) hI (by simp [execOp,ho,Instr.makeFunc,hf']) (.c (.ofn (by simp [hl2,hl]) λj c hj=> ?_))
   have hj':j < xs.length:=by rw [<- hl2]; exact (List.getElem?_eq_some_iff.1 hj).1
   have h3:=congrArg (λl=>l[j]?) h2
   simp only [List.getElem?_map,hj,Option.map_some,List.getElem?_eq_getElem hj']at h3
   have h4:=Option.some.inj h3
   have hcap:j < captured.size:=by rw [hl]at hj'; simpa using hj'
   have hx:=hr j captured[j] xs[j] (by simp [hcap]) (List.getElem?_eq_getElem hj')
   have e1:(captured.map ρ).getD j undef=ρ captured[j]:=by simp [hcap]
   rw [e1]
   cases hy:xs[j]with
   | c y=>
    rw [hy]at h4 hx
    obtain rfl:y=c:=by simpa using h4
    cases hx with | c hx=>exact hx
   | _=>rw [hy]at h4; simp at h4
  ·simp at h
 ·simp at h
theorem q96{n:Int}(h0:0<=n)(h1:n<=2147483648):IntKind.i64.wrap n=n:=by
 unfold IntKind.wrap IntKind.bits IntKind.signed
 simp only [Bool.true_and,decide_eq_true_eq]
 have:n % (2 ^ 64:Int)=n:=Int.emod_eq_of_lt h0 (by omega)
 rw [this]
 split <;> omega
theorem qbe{v:Value}{k:IntKind}{n:Int}(h:v= .int k n):(asInt v).run P w= .ok n w:=by subst h; simp [asInt,asIntOf]
theorem q4p{v:Value}{k:IntKind}{n:Int}(h:v= .int k n):(asIntOf v).run P w= .ok (k,n) w:=by subst h; simp [asIntOf]
theorem q27{tv:Option TV}{val:Value}{n:Int}(h:intOf? tv=some n)(hr:∀y,tv=some y->RTV S w Kn φ y val):∃k,val= .int k n:=by
 unfold intOf? at h
 split at h
 ·obtain rfl:=Option.some.inj h
  obtain ⟨hv,_⟩:=(hr _ rfl).lit
  exact ⟨_,hv⟩
 ·simp at h
theorem q2a{v:Value}{k:IntKind}{n:Int}{y:Nat}{code:BoundsCode}(h:v= .int k n)(h0:0<=n)(h1:n<=y):(Instr.sliceBound v y code).run P w= .ok n.toNat w:=by
 simp only [Instr.sliceBound,Sem.run_bind,q4p h,Result.andThen_ok,h0,h1,and_self,if_true,Sem.run_pure]
theorem q7g{isSl:Bool}{len cap:Nat}{lo hi:Option Value}{l h:Option Int}(hlo':lo.isSome=l.isSome)(hl1:∀x,lo=some x->∃k n,x= .int k n/\l=some n)
  (hhi':hi.isSome=h.isSome) (hhi:∀x,hi=some x->∃k n,x= .int k n/\h=some n)
  (h0:0<=l.getD 0) (h1:l.getD 0<=h.getD len) (h2:h.getD len<=cap):
  (Instr.sliceBounds isSl len cap lo hi none).run P w= .ok ((l.getD 0).toNat,(h.getD len).toNat,cap) w:=by
 unfold Instr.sliceBounds
 cases hi with
 | none=>
  cases h with
  | some _=>simp at hhi'
  | none=>
   cases lo with
   | none=>
    cases l with
    | some _=>simp at hlo'
    | none=>simp
   | some x=>
    obtain ⟨k,n,rfl,rfl⟩:=hl1 x rfl
    simp only [Option.getD_some,Option.getD_none]at h0 h1
    have:=q2a (P:=P) (w:=w) (v:= .int k n) (y:=len) (code:= .sliceB) rfl h0 h1
    simp [this]
 | some y=>
  obtain ⟨k,n,rfl,rfl⟩:=hhi y rfl
  simp only [Option.getD_some]at h1 h2
  have hb:=q2a (P:=P) (w:=w) (v:= .int k n) (y:=cap) (code:=if isSl then .sliceAcap else .sliceAlen) rfl (by omega) h2
  cases lo with
  | none=>
   cases l with
   | some _=>simp at hlo'
   | none=>simp [hb]
  | some x=>
   obtain ⟨k',n',rfl,rfl⟩:=hl1 x rfl
   simp only [Option.getD_some]at h0 h1
   have:=q2a (P:=P) (w:=w) (v:= .int k' n') (y:=n.toNat) (code:= .sliceB) rfl h0 (by omega)
   simp [hb,this]
theorem qhn{str:Bool}{sz:Nat}{t:TypeId}{x y:C}{val:Value}{lo hi:Option Value}{l h:Option Int}
  (hu:if str then P.underlying t=some .string else ∃el,P.underlying t=some (.slice el)/\szOf P el=some sz) (hr:RC S w Kn φ x val)
  (hlo':lo.isSome=l.isSome) (hl1:∀x,lo=some x->∃k n,x= .int k n/\l=some n) (hhi':hi.isSome=h.isSome) (hhi:∀x,hi=some x->∃k n,x= .int k n/\h=some n)
  (hs:q13 str sz x l h=some y):∃val',(Instr.sliceAt t val lo hi none).run P w= .ok val' w/\RC S w Kn φ y val':=by
 unfold q13 at hs
 cases str with
 | true=>
  simp only [if_true]at hs hu
  split at hs
  ·rename_i s
   split at hs
   ·rename_i hb
    obtain ⟨hb1,hb2,hb3⟩:=hb
    obtain rfl:=Option.some.inj hs
    cases hr with
    | d hd=>cases hd with
     | lit hp=>
      have:=q7g (P:=P) (w:=w) (isSl:=false) (len:=s.size) (cap:=s.size) hlo' hl1 hhi' hhi hb1 hb2 hb3
      exact ⟨.string (s.extract (l.getD 0).toNat (h.getD s.size).toNat),by simp [Instr.sliceAt,Instr.slice,q0a hu,this], .d (.lit rfl)⟩
   ·simp at hs
  ·simp at hs
 | false=>
  simp only [Bool.false_eq_true,if_false]at hs hu
  obtain ⟨el,hu,hsz⟩:=hu
  have run:∀(a:Addr) (len cap:Nat),val= .slice (some a) len cap->0<=l.getD 0->l.getD 0<=h.getD len->h.getD len<=cap->(cap≠(l.getD 0).toNat->a.spot=none)->
    (Instr.sliceAt t val lo hi none).run P w= .ok (.slice (some (if cap=(l.getD 0).toNat then a else ⟨a.block,a.off+(l.getD 0).toNat * sz,none⟩))
     ((h.getD len).toNat - (l.getD 0).toNat) (cap - (l.getD 0).toNat)) w:=by
   intro a len cap hv h0 h1 h2 hsp
   have hb:=q7g (P:=P) (w:=w) (isSl:=true) (len:=len) (cap:=cap) hlo' hl1 hhi' hhi h0 h1 h2
   simp only [Instr.sliceAt,Instr.slice,Sem.run_bind,q0a hu,Result.andThen_ok,hv,hb,q21 hsz,Sem.run_pure]
   congr 2
   split
   ·rfl
   ·rename_i hne
    obtain ⟨b,off,spot⟩:=a
    obtain rfl:spot=none:=hsp hne
    simp [q6p]
  split at hs
  ·split at hs
   ·rename_i hb
    obtain ⟨hb1,hb2,hb3⟩:=hb
    obtain rfl:=Option.some.inj hs
    cases hr with
    | d hd=>cases hd with
     | lit hp=>
      have e1:l.getD 0=0:=by omega
      have e2:h.getD 0=0:=by omega
      have hb:=q7g (P:=P) (w:=w) (isSl:=true) (len:=0) (cap:=0) hlo' hl1 hhi' hhi hb1 (by simpa using hb2) (by simpa using hb3)
      refine ⟨.slice none 0 0, ?_, .d (.lit rfl)⟩
      have e3:h.getD (((0:Nat):Int))=0:=e2
      rw [e1,e3]at hb
      simp only [Instr.sliceAt,Instr.slice,Sem.run_bind,q0a hu,Result.andThen_ok,hb,q21 hsz,Sem.run_pure]
      rfl
   ·simp at hs
  ·rename_i sz' id off len
   split at hs
   ·rename_i hb
    obtain ⟨hb0,hb1,hb2,hb3⟩:=hb
    obtain rfl:=Option.some.inj hs
    cases hr with
    | @osl _ _ _ cap addr hk hcap haddr hext hcl=>
     subst hb0
     refine ⟨_,run _ len cap rfl hb1 hb2 (by omega) (λ_=>rfl), ?_⟩
     have hle:(l.getD 0).toNat<=cap:=by omega
     by_cases e:cap=(l.getD 0).toNat
     ·rw [if_pos e]
      exact .osl hk (by omega) (λh=>by omega) (by rw [<- e,Nat.sub_self]; omega) (by omega)
     ·rw [if_neg e]
      have ha:=haddr (by omega)
      refine .osl hk (by omega) (λ_=> ?_) ?_ (by omega)
      ·show addr+_=_
       rw [ha,Nat.add_mul]; omega
      ·have:(l.getD 0).toNat * (φ id).sz+(cap - (l.getD 0).toNat) * (φ id).sz=cap * (φ id).sz:=by rw [<- Nat.add_mul]; congr 1; omega
       show addr+_+_<=_
       omega
   ·simp at hs
  ·rename_i sz' rows
   split at hs
   ·rename_i hb
    obtain ⟨hb0,hb1,hb2,hb3⟩:=hb
    obtain rfl:=Option.some.inj hs
    cases hr with
    | d hd=>
     cases hd with
     | @sl _ _ b off cap g hb hsz0 hcap hrow hcell hrd=>
      subst hb0
      refine ⟨_,run _ rows.length cap rfl hb1 hb2 (by omega) (λ_=>rfl), ?_⟩
      have hR:RowsAt S w sz' (λi=>w.cell? ⟨b,i,none⟩) off rows:=⟨hrow,λi r hi j x hj=>⟨_,hcell i r hi j x hj,hrd i r hi j x hj⟩⟩
      have hlen:((rows.drop (l.getD 0).toNat).take ((h.getD rows.length).toNat - (l.getD 0).toNat)).length=(h.getD rows.length).toNat - (l.getD 0).toNat:=by simp; omega
      by_cases e:cap=(l.getD 0).toNat
      ·rw [if_pos e]
       exact .d (.sl_of hb hsz0 hlen (by omega) (hR.sub' _ _ λh=>by omega))
      ·rw [if_neg e]
       exact .d (.sl_of hb hsz0 hlen (by omega) (hR.sub' _ _ λ_=>rfl))
     | @sl0 _ a hsz0=>
      subst hb0
      simp only [List.length_nil]at hb1 hb2 hb3
      have e1:l.getD 0=0:=by
       have h2:l.getD 0<=h.getD 0:=hb2
       have h3:h.getD 0<=0:=hb3
       omega
      refine ⟨_,run _ 0 0 rfl hb1 hb2 (by simpa using hb3) (λhne=>absurd (by rw [e1]; rfl) hne), ?_⟩
      rw [if_pos (by rw [e1]; rfl)]
      have e2:(([]:List (List D)).drop (l.getD 0).toNat).take ((h.getD ([]:List (List D)).length).toNat - (l.getD 0).toNat)= []:=by simp
      rw [e2]
      have e3:(h.getD ((0:Nat):Int)).toNat - (l.getD 0).toNat=0:=by
       have h3:h.getD 0<=0:=hb3
       have h4:h.getD ((0:Nat):Int)=h.getD 0:=rfl
       rw [h4]; omega
      have e4:(0:Nat) - (l.getD 0).toNat=0:=by omega
      first
       | (rw [e3,e4]; exact .d (.sl0 hsz0))
       | (simp [e1]at hb3 ⊢; exact .d (.sl0 hsz0))
   ·simp at hs
  ·simp at hs
theorem qd5{str:Bool}{sz:Nat}{t:TypeId}{x y:C}{val:Value}{lo:Option Value}{hi:Value}{k2:IntKind}{l:Option Int}{h:Int}{ids:List Nat}(hI:Inv S K w0 Kn φ (look H) w)
  (hu:if str then P.underlying t=some .string else ∃el,P.underlying t=some (.slice el)/\szOf P el=some sz) (hr:RC S w Kn φ x val)
  (hlo':lo.isSome=l.isSome) (hl1:∀x,lo=some x->∃k n,x= .int k n/\l=some n) (hhi:hi= .int k2 h) (hs:q5s str sz x (l.getD 0) h H=some (y,ids)):∃val',(Instr.sliceAt t val lo (some hi) none).run P w= .ok val' w/\RC S w Kn φ y val':=by
 unfold q5s at hs
 split at hs
 case h_2=>simp at hs
 rename_i sz' id off len
 simp only [Bool.false_eq_true,if_false]at hu
 obtain ⟨el,hu,hsz⟩:=hu
 have key:sz'=sz/\0<=l.getD 0/\l.getD 0<=h/\off+h.toNat<=(φ id).cap/\y= .osl sz id (off+(l.getD 0).toNat) (h.toNat - (l.getD 0).toNat):=by
  split at hs
  ·rename_i szo rows hob
   split at hs
   case isFalse=>simp at hs
   rename_i hb
   obtain ⟨hb0,hb1,hb2,hb3⟩:=hb
   obtain ⟨rfl,_⟩:=Prod.mk.inj (Option.some.inj hs)
   obtain ⟨_,h0⟩:=hI.obj _ _ hob
   have hvis:rows.length<=(φ id).cap:=by cases h0 with | arr hsz0 hl hS hK hown hext hfit hrr hvis=>exact hvis
   exact ⟨hb0,hb1,hb2,by omega,rfl⟩
  ·rename_i szo rows cp hob
   split at hs
   case isFalse=>simp at hs
   rename_i hb
   obtain ⟨hb0,hb1,hb2,hb3⟩:=hb
   obtain ⟨rfl,_⟩:=Prod.mk.inj (Option.some.inj hs)
   obtain ⟨_,h0⟩:=hI.obj _ _ hob
   have hvis:(φ id).cap=cp:=by cases h0 with | cap hsz0 hl hS hK hown hext hfit hrr hvis hc=>exact hc
   exact ⟨hb0,hb1,hb2,by omega,rfl⟩
  ·simp at hs
 obtain ⟨hb0,hb1,hb2,hvis,rfl⟩:=key
 cases hr with
 | @osl _ _ _ cap addr hk hcap haddr hext hcl=>
  subst hb0
  have hc:h<=cap:=by omega
  have hbd:=q7g (P:=P) (w:=w) (isSl:=true) (len:=len) (cap:=cap) (lo:=lo) (hi:=some hi) (l:=l) (h:=some h) hlo' hl1 rfl (λx hx=>⟨k2,h,by rw [<- Option.some.inj hx,hhi],rfl⟩) hb1 hb2 hc
  simp only [Option.getD_some]at hbd
  generalize l.getD 0=l at *
  refine ⟨.slice (some (if cap=l.toNat then ⟨(φ id).blk,addr,none⟩else ⟨(φ id).blk,addr+l.toNat * (φ id).sz,none⟩)) (h.toNat - l.toNat) (cap - l.toNat), ?_, ?_⟩
  ·simp only [Instr.sliceAt,Instr.slice,Sem.run_bind,q0a hu,Result.andThen_ok,hbd,q21 hsz,Sem.run_pure]
   congr 2
   split
   ·rfl
   ·simp [q6p]
  ·have hle:l.toNat<=cap:=by omega
   by_cases e:cap=l.toNat
   ·rw [if_pos e]
    exact .osl hk (by omega) (λh=>by omega) (by rw [<- e,Nat.sub_self]; omega) (by omega)
   ·rw [if_neg e]
    have ha:=haddr (by omega)
    refine .osl hk (by omega) (λ_=> ?_) ?_ (by omega)
    ·rw [ha,Nat.add_mul]; omega
    ·have:l.toNat * (φ id).sz+(cap - l.toNat) * (φ id).sz=cap * (φ id).sz:=by rw [<- Nat.add_mul]; congr 1; omega
     omega
theorem qns{sz:Nat}{t:TypeId}{el:TypeId}{x a b c:Operand}(ho:o.op= .slice t x (some a) (some b) (some c))
  (hu:P.underlying t=some (.slice el)) (hsz:szOf P el=some sz) (hI:Inv S K w0 Kn φ (look H) w) (hn0:nxt < n'->¬Kn nxt)
  (hρ:∀x tv,opv e x=some tv->RTV S w Kn φ tv (ρ x))
  (h:ev1 call (.slice3 sz) ([x,a,b,c].map (opv e)) H nxt=some (v,u,ids,n')):Runs P o ρ S K w0 w Kn φ (look H) nxt n' v u:=by
 simp only [List.map_cons,List.map_nil]at h
 cases hx:opv e x with
 | none=>rw [hx]at h; simp [ev1]at h
 | some tv=>
  rw [hx]at h
  cases tv with
  | agg cs=>simp [ev1]at h
  | tup xs=>simp [ev1]at h
  | c xc=>
   have hr:=hρ x _ hx
   cases hr with
   | c hr=>
   change (match intOf? (opv e a),intOf? (opv e b),intOf? (opv e c)with
    | some l,some u,some m=>(match evSl3 sz xc l u m nxt with | some y=>some (TV.c y,([]:Upd),([]:List Nat),nxt+1) | none=>none)
    | _,_,_=>none)=_ at h
   split at h
   ·rename_i l hh m hl hhh hm
    obtain ⟨k1,e1⟩:=q27 hl (hρ a)
    obtain ⟨k2,e2⟩:=q27 hhh (hρ b)
    obtain ⟨k3,e3⟩:=q27 hm (hρ c)
    split at h
    ·rename_i y hy
     obtain ⟨rfl,rfl,rfl,rfl⟩:TV.c y=v/\ []=u/\ []=ids/\nxt+1=n':=by simpa using h
     unfold evSl3 at hy
     split at hy
     ·rename_i sz' id off len
      split at hy
      ·rename_i hb
       obtain ⟨hb0,hb1,hb2,hb3,hb4⟩:=hb
       obtain rfl:=Option.some.inj hy
       have hn:=hn0 (Nat.lt_succ_self _)
       generalize hv0:ρ x=val at hr
       cases hr with
       | @osl _ _ _ cap addr hk hcap haddr hext hcl=>
        subst hb0
        have s1:=q2a (P:=P) (w:=w) (v:= .int k3 m) (y:=cap) (code:= .slice3Acap) rfl (by omega) (by omega)
        have s2:=q2a (P:=P) (w:=w) (v:= .int k2 hh) (y:=m.toNat) (code:= .slice3B) rfl (by omega) (by omega)
        have s3:=q2a (P:=P) (w:=w) (v:= .int k1 l) (y:=hh.toNat) (code:= .slice3C) rfl (by omega) (by omega)
        have hbd:(Instr.sliceBounds true len cap (some (.int k1 l)) (some (.int k2 hh)) (some (.int k3 m))).run P w= .ok (l.toNat,hh.toNat,m.toNat) w:=by
         unfold Instr.sliceBounds
         simp [s1,s2,s3]
        let loc:Loc:=⟨(φ id).blk,if m.toNat=l.toNat then addr else addr+l.toNat * (φ id).sz,(φ id).sz,(φ id).ext,m.toNat - l.toNat⟩
        have hlt:l.toNat * (φ id).sz+(m.toNat - l.toNat) * (φ id).sz<=cap * (φ id).sz:=by rw [<- Nat.add_mul]; exact Nat.mul_le_mul_right _ (by omega)
        refine ⟨.value (.slice (some (if m.toNat=l.toNat then ⟨(φ id).blk,addr,none⟩else ⟨(φ id).blk,addr+l.toNat * (φ id).sz,none⟩)) (hh.toNat - l.toNat) (m.toNat - l.toNat)),_,w, ?_, .inl rfl,Nat.le_succ _,S,ext φ nxt loc,Stp.refl _ _,⟨λ_ h=> .inl h,(q2v _ hn).same⟩, .c ?_, ?_⟩
        ·simp only [execOp,ho,Option.map_some,hv0,e1,e2,e3,Instr.sliceAt,Instr.slice,Sem.run_bind,q0a hu,Result.andThen_ok,hbd,q21 hsz,Sem.run_pure]
         congr 3
         split
         ·rfl
         ·simp [q6p]
        ·have e:ext φ nxt loc nxt=loc:=by simp [ext]
         have:=RC.osl (S:=S) (w:=w) (Kn:=KnU Kn nxt (nxt+1)) (φ:=ext φ nxt loc) (id:=nxt) (off:=0) (len:=hh.toNat - l.toNat) (cap:=m.toNat - l.toNat) (addr:=loc.base)
          (.inr (by omega)) (by omega) (by rw [e]; simp) (by
           rw [e]
           show (if m.toNat=l.toNat then addr else addr+l.toNat * (φ id).sz)+(m.toNat - l.toNat) * (φ id).sz<=(φ id).ext
           split
           ·rename_i q
            rw [q,Nat.sub_self]; omega
           ·omega) (by rw [e]; exact Nat.zero_add _)
         rw [e]at this
         have e4:(if m.toNat=l.toNat then (⟨(φ id).blk,addr,none⟩:Addr)else ⟨(φ id).blk,addr+l.toNat * (φ id).sz,none⟩)=⟨(φ id).blk,if m.toNat=l.toNat then addr else addr+l.toNat * (φ id).sz,none⟩:=by split <;> rfl
         rw [e4]
         exact this
        ·have hren:=q2v (Kn:=Kn) (φ:=φ) loc hn
         have:=hI.step (Stp.refl _ _) hren hI.slt hI.sk hI.frm (hf':=look H) (λi o ho=> .inl ⟨ho,λhown=>⟨rfl,((hI.obj i o ho).2.own hown).1⟩⟩) (λi j a b hi hj oa ob hne=>by
          rw [hren.same _ (hI.obj i a hi).1,hren.same _ (hI.obj j b hj).1]
          exact hI.dist i j a b hi hj oa ob hne) (hI.rest_ren hren λ_ _=>rfl)
         exact this.knEq λj=>q6d j
      ·simp at hy
     ·simp at hy
    ·simp at h
   ·simp at h
theorem qiv{str:Bool}{sz:Nat}{t:TypeId}{x:Operand}{lo hi:Option Operand}(ho:o.op= .slice t x lo hi none)
  (hu:if str then P.underlying t=some .string else ∃el,P.underlying t=some (.slice el)/\szOf P el=some sz) (hI:Inv S K w0 Kn φ (look H) w)
  (hρ:∀x tv,opv e x=some tv->RTV S w Kn φ tv (ρ x))
  (h:ev1 call (.slice str sz lo.isSome hi.isSome) ((x :: lo.toList++hi.toList).map (opv e)) H nxt=some (v,u,ids,n')):Runs P o ρ S K w0 w Kn φ (look H) nxt n' v u:=by
 simp only [List.cons_append,List.map_cons,List.map_append]at h
 cases hx:opv e x with
 | none=>rw [hx]at h; cases lo <;> cases hi <;> simp [ev1]at h
 | some tv=>
  rw [hx]at h
  cases tv with
  | agg cs=>cases lo <;> cases hi <;> simp [ev1]at h
  | tup xs=>cases lo <;> cases hi <;> simp [ev1]at h
  | c c=>
   have hr:=hρ x _ hx
   cases hr with
   | c hr=>
   have fin:∀l h',lo.isSome=l.isSome->(∀ y,lo=some y->intOf? (opv e y)=l)->hi.isSome=h'.isSome->(∀ y,hi=some y->intOf? (opv e y)=h')->
     (match q13 str sz c l h' with | some y=>some (TV.c y,([]:Upd),([]:List Nat),nxt) | none=>none)=some (v,u,ids,n')->Runs P o ρ S K w0 w Kn φ (look H) nxt n' v u:=by
    intro l h' e1 e2 e3 e4 hm
    split at hm
    ·rename_i y hy
     obtain ⟨rfl,rfl,rfl,rfl⟩:TV.c y=v/\ []=u/\ []=ids/\nxt=n':=by simpa using hm
     have conv:∀(q:Option Operand) (l:Option Int),q.isSome=l.isSome->(∀ y,q=some y->intOf? (opv e y)=l)->∀x,q.map ρ=some x->∃k n,x= .int k n/\l=some n:=by
      intro q l e1 e2 x hq
      cases q with
      | none=>simp at hq
      | some y=>
       obtain rfl:ρ y=x:=by simpa using hq
       cases l with
       | none=>simp at e1
       | some n=>
        obtain ⟨k,hk⟩:=q27 (e2 y rfl) (hρ y)
        exact ⟨k,n,hk,rfl⟩
     obtain ⟨val',h1,h2⟩:=qhn (P:=P) (lo:=lo.map ρ) (hi:=hi.map ρ) hu hr (by simpa using e1) (conv lo l e1 e2) (by simpa using e3) (conv hi h' e3 e4) hy
     exact Runs.pure hI (by simp [execOp,ho,h1]) (.c h2)
    ·simp at hm
   cases lo with
   | none=>
    cases hi with
    | none=>exact fin none none rfl (λy hy=>by simp at hy) rfl (λy hy=>by simp at hy) h
    | some z=>
     change (match intOf? (opv e z)with | some u=>(match q13 str sz c none (some u)with | some y=>some (TV.c y,([]:Upd),([]:List Nat),nxt) | none=>(match q5s str sz c 0 u H with | some (y,ids)=>some (TV.c y,([]:Upd),ids,nxt) | none=>none)) | none=>none)=_ at h
     split at h
     ·rename_i n hn
      split at h
      ·rename_i y hy
       exact fin none (some n) rfl (λy hy=>by simp at hy) rfl (λy hy=>Option.some.inj hy▸hn) (by rw [hy]; exact h)
      ·split at h
       ·rename_i y ids1 hy
        obtain ⟨rfl,rfl,_,rfl⟩:TV.c y=v/\ []=u/\ids1=ids/\nxt=n':=by simpa using h
        obtain ⟨k2,e2⟩:=q27 hn (hρ z)
        obtain ⟨val',h1,h2⟩:=qd5 (P:=P) (t:=t) (lo:=none) (l:=none) hI hu hr rfl (λx hx=>by simp at hx) e2 hy
        exact Runs.pure hI (by simp [execOp,ho,h1]) (.c h2)
       ·simp at h
     ·simp at h
   | some q=>
    cases hi with
    | none=>
     change (match intOf? (opv e q)with | some l=>(match q13 str sz c (some l) none with | some y=>some (TV.c y,([]:Upd),([]:List Nat),nxt) | none=>none) | none=>none)=_ at h
     split at h
     ·rename_i n hn
      exact fin (some n) none rfl (λy hy=>Option.some.inj hy▸hn) rfl (λy hy=>by simp at hy) h
     ·simp at h
    | some z=>
     change (match intOf? (opv e q),intOf? (opv e z)with
      | some l,some u=>(match q13 str sz c (some l) (some u)with
       | some y=>some (TV.c y,([]:Upd),([]:List Nat),nxt)
       | none=>(match q5s str sz c l u H with | some (y,ids)=>some (TV.c y,([]:Upd),ids,nxt) | none=>none))
      | _,_=>none)=_ at h
     split at h
     ·rename_i m n hm hn
      split at h
      ·rename_i y hy
       exact fin (some m) (some n) rfl (λy hy=>Option.some.inj hy▸hm) rfl (λy hy=>Option.some.inj hy▸hn) (by rw [hy]; exact h)
      ·split at h
       ·rename_i y ids1 hy
        obtain ⟨rfl,rfl,_,rfl⟩:TV.c y=v/\ []=u/\ids1=ids/\nxt=n':=by simpa using h
        obtain ⟨k1,e1⟩:=q27 hm (hρ q)
        obtain ⟨k2,e2⟩:=q27 hn (hρ z)
        obtain ⟨val',h1,h2⟩:=qd5 (P:=P) (t:=t) (lo:=some (ρ q)) (l:=some m) hI hu hr rfl (λx hx=>⟨k1,m,by rw [<- Option.some.inj hx,e1],rfl⟩) e2 hy
        exact Runs.pure hI (by simp [execOp,ho,h1]) (.c h2)
       ·simp at h
     ·simp at h
theorem qa2{t:TypeId}{x i:Operand}{arr:Option Nat}{sz:Nat}(ho:o.op= .indexAddr t x i)
  (hu:match arr with | none=>∃el,P.underlying t=some (.slice el)/\szOf P el=some sz | some len=>∃el,P.underlying t=some (.array len el)/\szOf P el=some sz)
  (hI:Inv S K w0 Kn φ (look H) w) {tx ti:Option TV} (hx:∀y,tx=some y->RTV S w Kn φ y (ρ x)) (hi:∀y,ti=some y->RTV S w Kn φ y (ρ i))
  (h:ev1 call (.indexAddr arr sz) [tx,ti] H nxt=some (v,u,ids,n')):Runs P o ρ S K w0 w Kn φ (look H) nxt n' v u:=by
 match tx,h,hx with
 | some (.c c),h,hx=>
  change (match intOf? ti with | some i=>(match q1r arr sz c i with | some y=>some (TV.c y,([]:Upd),([]:List Nat),nxt) | none=>none) | none=>none)=_ at h
  split at h
  ·rename_i n hn
   obtain ⟨k,hk⟩:=q27 hn hi
   split at h
   ·rename_i y hy
    obtain ⟨rfl,rfl,rfl,rfl⟩:TV.c y=v/\ []=u/\ []=ids/\nxt=n':=by simpa using h
    have hr:=hx _ rfl
    generalize hv0:ρ x=val at hr
    cases hr with
    | c hr=>
    cases arr with
    | none=>
     obtain ⟨el,hu,hsz⟩:=hu
     simp only [q1r]at hy
     have run:∀b off len cap,val= .slice (some ⟨b,off,none⟩) len cap->0<=n->n < len->(execOp ρ o).run P w= .ok (.value (.pointer (some ⟨b,off+n.toNat * sz,none⟩))) w:=by
      intro b off len cap hv h0 h1
      simp [execOp,ho,hv0,hv,Instr.indexAt,q4p hk,q0a hu,h0,h1,q21 hsz,q6p]
     split at hy
     ·rename_i sz' id off len
      split at hy
      ·rename_i hb
       obtain ⟨h0,h1,rfl⟩:=hb
       obtain rfl:=Option.some.inj hy
       cases hr with
       | @osl _ _ _ cap addr hkn hcap haddr hext=>
        refine Runs.pure hI (run _ _ _ _ rfl h0 h1) (.c ?_)
        have ha:=haddr (by omega)
        have e1:addr+n.toNat * (φ id).sz=(φ id).base+(off+n.toNat) * (φ id).sz+0:=by rw [ha,Nat.add_mul]; omega
        rw [e1]; exact .ep hkn
      ·simp at hy
     ·rename_i sz' rows
      split at hy
      ·rename_i hb
       obtain ⟨h0,rfl⟩:=hb
       split at hy
       ·rename_i r hr'
        obtain rfl:=Option.some.inj hy
        cases hr with
        | d hd=>
         cases hd with
         | @sl _ _ b off cap g hb hsz0 hcap hrow hcell hrd=>
          have hlt:n.toNat < rows.length:=(List.getElem?_eq_some_iff.1 hr').1
          refine Runs.pure hI (run _ _ _ _ rfl h0 (by omega)) (.c (.d (.pt_of hb λj z hj=>⟨_,hcell _ _ hr' j z hj,hrd _ _ hr' j z hj⟩)))
         | sl0=>simp at hr'
       ·simp at hy
      ·simp at hy
     ·simp at hy
    | some len=>
     obtain ⟨el,hu,hsz⟩:=hu
     simp only [q1r]at hy
     split at hy
     ·rename_i hb
      obtain ⟨h0,h1⟩:=hb
      have run:∀b off,val= .pointer (some ⟨b,off,none⟩)->(execOp ρ o).run P w= .ok (.value (.pointer (some ⟨b,off+n.toNat * sz,none⟩))) w:=by
       intro b off hv
       have hu':∀w,(underlying t).run P w= .ok (.array len el) w:=q0a hu
       simp only [execOp,ho,hv0,hv,Instr.indexAt,Sem.run_bind,q4p hk,Result.andThen_ok,hu',Instr.sureAddr,Sem.run_pure,h0,h1,and_self,if_true,q21 hsz,q6p]
      split at hy
      ·rename_i id off
       obtain rfl:=Option.some.inj hy
       cases hr with
       | op hkn=>
        refine Runs.pure hI (run _ _ rfl) (.c ?_)
        rw [Nat.add_assoc]; exact .op hkn
      ·rename_i id row off
       obtain rfl:=Option.some.inj hy
       cases hr with
       | ep hkn=>
        refine Runs.pure hI (run _ _ rfl) (.c ?_)
        rw [Nat.add_assoc]; exact .ep hkn
      ·rename_i cells
       split at hy
       ·obtain rfl:=Option.some.inj hy
        cases hr with
        | d hd=>
         cases hd with
         | @pt _ b off g hb hcell hrd=>
          refine Runs.pure hI (run _ _ rfl) (.c (.d (.pt_of hb λj z hj=> ?_)))
          rw [List.getElem?_take]at hj
          split at hj
          ·rw [List.getElem?_drop]at hj
           exact ⟨_,by rw [Nat.add_assoc]; exact hcell _ _ hj,hrd _ _ hj⟩
          ·simp at hj
       ·simp at hy
      ·simp at hy
     ·simp at hy
   ·simp at h
  ·simp at h
theorem qhw{t:TypeId}{x i:Operand}(ho:o.op= .index t x i)(hu:P.underlying t=some .string)(hI:Inv S K w0 Kn φ (look H) w)
  {tx ti:Option TV} (hx:∀y,tx=some y->RTV S w Kn φ y (ρ x)) (hi:∀y,ti=some y->RTV S w Kn φ y (ρ i))
  (h:ev1 call .indexStr [tx,ti] H nxt=some (v,u,ids,n')):Runs P o ρ S K w0 w Kn φ (look H) nxt n' v u:=by
 match tx,h,hx with
 | some (.c (.d (.lit (.string s)))),h,hx=>
  change (match intOf? ti with | some i=>(match (if 0<=i then s[i.toNat]? else none)with | some b=>some (lv (.int .u8 b.toNat),([]:Upd),([]:List Nat),nxt) | none=>none) | none=>none)=_ at h
  split at h
  ·rename_i n hn
   obtain ⟨k,hk⟩:=q27 hn hi
   split at h
   ·rename_i b hb
    obtain ⟨rfl,rfl,rfl,rfl⟩:lv (.int .u8 b.toNat)=v/\ []=u/\ []=ids/\nxt=n':=by simpa using h
    obtain ⟨hv,_⟩:=(hx _ rfl).lit
    exact Runs.pure hI (by simp [execOp,ho,hv,Instr.index,q4p hk,q0a hu,hb]) (.of_lit rfl)
   ·simp at h
  ·simp at h
theorem qil{t:TypeId}{agg:Bool}{n off:Nat}(ha:aggOf P t=some agg)(hn:szOf P t=some n){cs:List C}{arr:Array Value}{v:TV}(hlen:cs.length=arr.size)
  (hc:∀(i:Nat) (x:C),cs[i]? =some x->RC S w Kn φ x (arr.getD i undef)) (h:ldC agg n (cs.drop off)=some v):∃val,(part t arr off).run P w= .ok val w/\RTV S w Kn φ v val:=by
 unfold ldC at h
 cases agg with
 | true=>
  simp only [if_true]at h
  split at h
  ·rename_i hle
   obtain rfl:=Option.some.inj h
   simp only [List.length_drop]at hle
   refine ⟨.agg (arr.extract off (off+n)),by simp [part,q95 ha,q21 hn], .agg ?_ λi x hi=> ?_⟩
   ·simp; omega
   ·rw [List.getElem?_take]at hi
    split at hi
    ·rename_i hin
     rw [List.getElem?_drop]at hi
     have hlt:off+i < arr.size:=by rw [<- hlen]; exact (List.getElem?_eq_some_iff.1 hi).1
     have e1:(arr.extract off (off+n)).getD i undef=arr.getD (off+i) undef:=by
      have h1:(arr.extract off (off+n))[i]? =arr[off+i]? :=by
       rw [Array.getElem?_extract,if_pos (by omega)]
      simp only [Array.getD_eq_getD_getElem?,h1]
     rw [e1]; exact hc _ _ hi
    ·simp at hi
  ·simp at h
 | false=>
  simp only [Bool.false_eq_true,if_false]at h
  split at h
  ·rename_i x r hd
   obtain rfl:=Option.some.inj h
   have hx:cs[off]? =some x:=by have:=congrArg (λl=>l[0]?) hd; simpa using this
   have hlt:off < arr.size:=by rw [<- hlen]; exact (List.getElem?_eq_some_iff.1 hx).1
   refine ⟨arr.getD off undef, ?_, .c (hc _ _ hx)⟩
   simp [part,q95 ha,hlt]
  ·simp at h
theorem qr8{s:TypeId}{f n:Nat}{agg:Bool}{fields:Array Field}{fl:Field}{x:Operand}(ho:o.op= .field s x f)(hu:P.underlying s=some (.struct fields))(hf:fields[f]? =some fl)
  (ha:aggOf P fl.type=some agg) (hs:szOf P fl.type=some n) (hI:Inv S K w0 Kn φ (look H) w) {tv:Option TV} (hx:∀y,tv=some y->RTV S w Kn φ y (ρ x))
  (h:ev1 call (.field agg fl.offset n) [tv] H nxt=some (v,u,ids,n')):Runs P o ρ S K w0 w Kn φ (look H) nxt n' v u:=by
 match tv,h,hx with
 | some (.agg cs),h,hx=>
  change (match ldC agg n (cs.drop fl.offset)with | some v=>some (v,([]:Upd),([]:List Nat),nxt) | none=>none)=_ at h
  split at h
  ·rename_i y hy
   obtain ⟨rfl,rfl,rfl,rfl⟩:y=v/\ []=u/\ []=ids/\nxt=n':=by simpa using h
   have hr:=hx _ rfl
   generalize hv0:ρ x=val at hr
   cases hr with
   | agg hlen hc=>
    obtain ⟨val,h1,h2⟩:=qil ha hs hlen hc hy
    exact Runs.pure hI (by simp [execOp,ho,hv0,Instr.field,q0a hu,hf,asAgg,h1]) h2
  ·simp at h
theorem qqz{t el:TypeId}{len n:Nat}{agg:Bool}{x i:Operand}(ho:o.op= .index t x i)(hu:P.underlying t=some (.array len el))
  (ha:aggOf P el=some agg) (hs:szOf P el=some n) (hI:Inv S K w0 Kn φ (look H) w) {tx ti:Option TV} (hx:∀y,tx=some y->RTV S w Kn φ y (ρ x)) (hi:∀y,ti=some y->RTV S w Kn φ y (ρ i))
  (h:ev1 call (.index agg len n) [tx,ti] H nxt=some (v,u,ids,n')):Runs P o ρ S K w0 w Kn φ (look H) nxt n' v u:=by
 match tx,h,hx with
 | some (.agg cs),h,hx=>
  change (match intOf? ti with | some i=>(if 0<=i/\i < len then (match ldC agg n (cs.drop (i.toNat * n))with | some v=>some (v,([]:Upd),([]:List Nat),nxt) | none=>none)else none) | none=>none)=_ at h
  split at h
  ·rename_i m hm
   obtain ⟨k,hk⟩:=q27 hm hi
   split at h
   ·rename_i hb
    split at h
    ·rename_i y hy
     obtain ⟨rfl,rfl,rfl,rfl⟩:y=v/\ []=u/\ []=ids/\nxt=n':=by simpa using h
     have hr:=hx _ rfl
     generalize hv0:ρ x=val at hr
     cases hr with
     | agg hlen hc=>
      obtain ⟨val,h1,h2⟩:=qil ha hs hlen hc hy
      exact Runs.pure hI (by simp [execOp,ho,hv0,Instr.index,q4p hk,q0a hu,hb.1,hb.2,q21 hs,h1]) h2
    ·simp at h
   ·simp at h
  ·simp at h
end
end Go.Ev

namespace Go.Ev
section
variable {P:Program}{S K:Nat->Prop}{w0 w:World}{Kn:Nat->Prop}{φ:Nat->Loc}{H:Heap}{e:Env}{ρ:Operand->Value}{o:Oper}{call:Call}
 {nxt n':Nat} {v:TV} {u:Upd} {ids:List Nat}
def mmF(m:Bool):Value->Value->Sem Value:=if m then Builtin.max2 else Builtin.min2
theorem qub{m:Bool}{x y z:Value}(h:mm2 m x y=some z):(mmF m x y).run P w= .ok z w/\plain z=true:=by
 unfold mm2 at h
 split at h
 ·rename_i k a k' b
  split at h
  ·obtain rfl:=Option.some.inj h
   cases m <;> simp [mmF,Builtin.max2,Builtin.min2,plain]
  ·simp at h
 ·rename_i k a k' b
  split at h
  ·rename_i hk
   subst hk
   split at h
   ·simp at h
   ·rename_i ho
    obtain rfl:=Option.some.inj h
    cases m <;> simp [mmF,Builtin.max2,Builtin.min2,plain,ho]
   ·rename_i ho
    obtain rfl:=Option.some.inj h
    cases m <;> simp [mmF,Builtin.max2,Builtin.min2,plain,ho]
   ·rename_i ho
    obtain rfl:=Option.some.inj h
    cases m <;> simp [mmF,Builtin.max2,Builtin.min2,plain,ho]
  ·simp at h
 ·simp at h
theorem qu6{m:Bool}(hρ:∀x tv,opv e x=some tv->RTV S w Kn φ tv (ρ x)):∀(r:List Operand) (x z:Value),plain x=true->mmL m x (r.map (opv e))=some z->
  ((r.map ρ).foldlM (mmF m) x).run P w= .ok z w/\plain z=true:=by
 intro r
 induction r with
 | nil=>
  intro x z hp h
  obtain rfl:x=z:=by simpa [mmL]using h
  exact ⟨rfl,hp⟩
 | cons a r ih=>
  intro x z hp h
  simp only [List.map_cons]at h ⊢
  match ha:opv e a,h with
  | some (.c (.d (.lit y))),h=>
   simp only [mmL]at h
   split at h
   ·rename_i z' hz
    obtain ⟨h1,h2⟩:=qub (P:=P) (w:=w) hz
    obtain ⟨hv,_⟩:=(hρ a _ ha).lit
    obtain ⟨h3,h4⟩:=ih z' z h2 h
    refine ⟨?_,h4⟩
    simp only [List.foldlM_cons,Sem.run_bind,hv,h1,Result.andThen_ok,h3]
   ·simp at h
theorem qf3{m:Bool}{c:Go.Call}(ho:o.op= .call c)(hcal:c.callee= .builtin (if m then .max else .min))(hI:Inv S K w0 Kn φ (look H) w)
  (hρ:∀x tv,opv e x=some tv->RTV S w Kn φ tv (ρ x)) (h:ev1 call (.minmax m) (c.args.toList.map (opv e)) H nxt=some (v,u,ids,n')):Runs P o ρ S K w0 w Kn φ (look H) nxt n' v u:=by
 generalize hargs:c.args.toList=args at h
 cases args with
 | nil=>simp [ev1]at h
 | cons a r=>
  simp only [List.map_cons]at h
  match ha:opv e a,h with
  | some (.c (.d (.lit x))),h=>
   change (match mmL m x (r.map (opv e))with | some v=>some (lv v,([]:Upd),([]:List Nat),nxt) | none=>none)=_ at h
   split at h
   ·rename_i z hz
    obtain ⟨rfl,rfl,rfl,rfl⟩:lv z=v/\ []=u/\ []=ids/\nxt=n':=by simpa using h
    obtain ⟨hv,hp⟩:=(hρ a _ ha).lit
    obtain ⟨h1,h2⟩:=qu6 (P:=P) hρ r x z hp hz
    refine Runs.pure hI ?_ (.of_lit h2)
    have e1:List.map ρ c.args.toList=x :: r.map ρ:=by rw [hargs,List.map_cons,hv]
    cases m
    ·simp only [Bool.false_eq_true,if_false]at hcal
     have h1':((r.map ρ).foldlM Builtin.min2 x).run P w= .ok z w:=h1
     simp [execOp,ho,hcal,resolve,invoke,builtin,Builtin.min_,e1,h1']
    ·simp only [if_true]at hcal
     have h1':((r.map ρ).foldlM Builtin.max2 x).run P w= .ok z w:=h1
     simp [execOp,ho,hcal,resolve,invoke,builtin,Builtin.max_,e1,h1']
   ·simp at h
def CR(S:Nat->Prop)(w:World)(Kn:Nat->Prop)(φ:Nat->Loc)(cs:List C)(vs:List Value):Prop:=
 cs.length=vs.length/\∀(i:Nat) (x:C) (y:Value),cs[i]? =some x->vs[i]? =some y->RC S w Kn φ x y
theorem CR.splice{cs ds:List C}{vs us:List Value}(h1:CR S w Kn φ cs vs)(h2:CR S w Kn φ ds us)(off:Nat)(hfit:off+ds.length<=cs.length):
  CR S w Kn φ (splice cs off ds) (splice vs off us):=by
 have hl1:=h1.1
 have hl2:=h2.1
 refine ⟨by rw [q0p _ _ _ hfit,q0p _ _ _ (by omega)]; exact h1.1,λi x y hx hy=> ?_⟩
 rw [q2b _ _ _ hfit]at hx
 rw [q2b _ _ _ (by omega)]at hy
 by_cases c1:i < off
 ·rw [if_pos c1]at hx hy; exact h1.2 i x y hx hy
 ·rw [if_neg c1]at hx hy
  by_cases c2:i < off+ds.length
  ·rw [if_pos c2]at hx
   rw [if_pos (by omega)]at hy
   exact h2.2 _ x y hx hy
  ·rw [if_neg c2]at hx
   rw [if_neg (by omega)]at hy
   exact h1.2 i x y hx hy
theorem RTV.cr{tv:TV}{val:Value}{cs:List C}(h:RTV S w Kn φ tv val)(hc:cellsOf tv=some cs):CR S w Kn φ cs val.cells.toList:=by
 obtain ⟨h1,h2,_⟩:=h.cells hc
 refine ⟨by simpa using h1,λi x y hx hy=> ?_⟩
 have:=h2 i x hx
 have e1:val.cells.getD i undef=y:=by
  rw [Array.getElem?_toList]at hy
  simp [hy]
 rwa [e1]at this
theorem qia{cs:List C}{arr:Array Value}(h:CR S w Kn φ cs arr.toList):cs.length=arr.size/\∀(i:Nat) (x:C),cs[i]? =some x->RC S w Kn φ x (arr.getD i undef):=by
 have hl:cs.length=arr.size:=by simpa using h.1
 refine ⟨hl,λi x hx=> ?_⟩
 have hlt:i < arr.size:=by rw [<- hl]; exact (List.getElem?_eq_some_iff.1 hx).1
 refine h.2 i x _ hx ?_
 simp [hlt]
theorem qq3:∀(l:List Value) (k:Nat) (arr:Array Value) (off:Nat),off+k+l.length<=arr.size->
  ((l.zipIdx k).foldl (λ(cs:Array Value) (p:Value×Nat)=>cs.setIfInBounds (off+p.2) p.1) arr).toList=splice arr.toList (off+k) l:=by
 intro l
 induction l with
 | nil=>intro k arr off _; simp [splice]
 | cons a l ih=>
  intro k arr off hfit
  simp only [List.length_cons]at hfit
  simp only [List.zipIdx_cons,List.foldl_cons]
  rw [ih (k+1) (arr.setIfInBounds (off+k) a) off (by simp; omega)]
  apply List.ext_getElem?
  intro i
  rw [q2b _ _ _ (by simp; omega),q2b _ _ _ (by simp; omega)]
  simp only [Array.toList_setIfInBounds,List.getElem?_set,List.length_cons]
  by_cases c1:i < off+k
  ·have c3:i < off+(k+1):=by omega
   have c4:¬off+k=i:=by omega
   simp [c1,c3,c4]
  ·by_cases c2:i=off+k
   ·subst c2
    have:off+k < off+(k+1):=by omega
    have c5:off+k < arr.size:=by omega
    simp [this,c5]
   ·have c3:¬i < off+(k+1):=by omega
    have c4:¬off+k=i:=by omega
    by_cases c5:i < off+k+(l.length+1)
    ·have c6:i < off+(k+1)+l.length:=by omega
     have c7:i - (off+k)=(i - (off+(k+1)))+1:=by omega
     simp [c1,c3,c5,c6,c7]
    ·have c6:¬i < off+(k+1)+l.length:=by omega
     simp [c1,c3,c4,c5,c6]
theorem qv0(vs arr:Array Value)(off:Nat)(hfit:off+vs.size<=arr.size):
  (vs.zipIdx.foldl (λ(cs:Array Value) (p:Value×Nat)=>cs.setIfInBounds (off+p.2) p.1) arr).toList=splice arr.toList off vs.toList:=by
 rw [<- Array.foldl_toList,Array.toList_zipIdx]
 have:=qq3 vs.toList 0 arr off (by simpa using hfit)
 simpa using this
theorem qd6(place:Nat->Option (Nat×Nat)):∀(parts:List (Nat×Operand)) (pl:List (Nat×Nat)) (xs:List TV) (cs cs':List C) (arr:Array Value),
  pl.length=parts.length->(∀ (i:Nat) (p:Nat×Operand) (q:Nat×Nat),parts[i]? =some p->pl[i]? =some q->place p.1=some q)->
  xs.length=parts.length->(∀ (i:Nat) (p:Nat×Operand) (x:TV),parts[i]? =some p->xs[i]? =some x->RTV S w Kn φ x (ρ p.2))->
  CR S w Kn φ cs arr.toList->fillC cs (pl.zip xs)=some cs'->
  ∃arr',Instr.fill place arr (parts.map λp=>(p.1,ρ p.2))=some arr'/\CR S w Kn φ cs' arr'.toList:=by
 intro parts
 induction parts with
 | nil=>
  intro pl xs cs cs' arr h1 _ h2 _ hcr h
  have e1:pl= []:=List.length_eq_zero_iff.1 h1
  subst e1
  obtain rfl:cs=cs':=by simpa [fillC]using h
  exact ⟨arr,rfl,hcr⟩
 | cons p parts ih=>
  intro pl xs cs cs' arr h1 hpl h2 hxs hcr h
  cases pl with
  | nil=>simp at h1
  | cons q pl=>
   cases xs with
   | nil=>simp at h2
   | cons x xs=>
    obtain ⟨off,n⟩:=q
    simp only [List.zip_cons_cons,fillC]at h
    split at h
    ·rename_i ds hds
     split at h
     ·rename_i hb
      obtain ⟨hb1,hb2⟩:=hb
      have hp:=hpl 0 p (off,n) rfl rfl
      have hx:=(hxs 0 p x rfl rfl).cr hds
      have hsz:(ρ p.2).cells.size=n:=by have:=hx.1; simp at this; omega
      have hal:cs.length=arr.size:=by simpa using hcr.1
      have hcr':=hcr.splice hx off (by omega)
      rw [<- qv0 (ρ p.2).cells arr off (by omega)]at hcr'
      obtain ⟨arr',h3,h4⟩:=ih pl xs _ cs' _ (by simpa using h1) (λi p q hp hq=>hpl (i+1) p q (by simpa using hp) (by simpa using hq)) (by simpa using h2)
       (λi p x hp hx=>hxs (i+1) p x (by simpa using hp) (by simpa using hx)) hcr' h
      refine ⟨arr', ?_,h4⟩
      simp only [List.map_cons,Instr.fill,hp]
      rw [if_neg (by simp [hsz]; omega)]
      exact h3
     ·simp at h
    ·simp at h
theorem qmn{z:List Value}(hp:∀x∈z,plain x=true):CR S w Kn φ (lits z) z:=by
 refine ⟨by simp [lits],λi x y hx hy=> ?_⟩
 simp only [lits,List.getElem?_map,hy,Option.map_some]at hx
 obtain rfl:=Option.some.inj hx
 exact .d (.lit (hp y (List.mem_of_getElem? hy)))
theorem qku{fields:Array Field}:∀ {is:List Nat} {pl:List (Nat×Nat)},q32 P fields is=some pl->pl.length=is.length/\
  ∀(k i:Nat) (q:Nat×Nat),is[k]? =some i->pl[k]? =some q->∃f,fields[i]? =some f/\q.1=f.offset/\szOf P f.type=some q.2:=by
 intro is
 induction is with
 | nil=>
  intro pl h
  obtain rfl: []=pl:=by simpa [q32]using h
  exact ⟨rfl,λk i q hk=>by simp at hk⟩
 | cons i is ih=>
  intro pl h
  simp only [q32]at h
  split at h
  ·rename_i f l hf hl
   split at h
   ·rename_i n hn
    obtain rfl:=Option.some.inj h
    obtain ⟨h1,h2⟩:=ih hl
    refine ⟨by simp [h1],λk j q hk hq=> ?_⟩
    cases k with
    | zero=>
     obtain rfl:i=j:=by simpa using hk
     obtain rfl:(f.offset,n)=q:=by simpa using hq
     exact ⟨f,hf,rfl,hn⟩
    | succ k=>exact h2 k j q (by simpa using hk) (by simpa using hq)
   ·simp at h
  ·simp at h
theorem qkt(g:Field->Nat×Nat):∀(l:List Field),(∀ f∈l,∃n,szOf P f.type=some n/\g f=(f.offset,n))->
  (l.mapM λf=>(do pure (f.offset,<- sizeOf f.type):Sem (Nat×Nat))).run P w= .ok (l.map g) w:=by
 intro l
 induction l with
 | nil=>intro _; rfl
 | cons f l ih=>
  intro h
  obtain ⟨n,hn,hg⟩:=h f (by simp)
  have:=ih λf hf=>h f (by simp [hf])
  simp only [List.mapM_cons,Sem.run_bind,q21 hn,Result.andThen_ok,Sem.run_pure,this,List.map_cons,hg]
theorem qip{t:TypeId}{parts:Array (Nat×Operand)}{z:List Value}{pl:List (Nat×Nat)}(ho:o.op= .build t parts)(hz:q37 P t=some z)
  (hu:(∃ fields,P.underlying t=some (.struct fields)/\q32 P fields (parts.toList.map (·.1))=some pl/\fields.toList.all (λf=>(szOf P f.type).isSome)=true)\/
   (∃ len el n,P.underlying t=some (.array len el)/\szOf P el=some n/\pl=parts.toList.map λp=>(p.1 * n,n)))
  (hI:Inv S K w0 Kn φ (look H) w) (hρ:∀x tv,opv e x=some tv->RTV S w Kn φ tv (ρ x))
  (h:ev1 call (.build z pl) ((parts.toList.map (·.2)).map (opv e)) H nxt=some (v,u,ids,n')):Runs P o ρ S K w0 w Kn φ (look H) nxt n' v u:=by
 change (match q0t ((parts.toList.map (·.2)).map (opv e))with
  | some xs=>(match fillC (lits z) (pl.zip xs)with | some cs=>some (TV.agg cs,([]:Upd),([]:List Nat),nxt) | none=>none)
  | none=>none)=_ at h
 split at h
 ·rename_i xs hxs
  split at h
  ·rename_i cs hcs
   obtain ⟨rfl,rfl,rfl,rfl⟩:TV.agg cs=v/\ []=u/\ []=ids/\nxt=n':=by simpa using h
   obtain ⟨hl,hr⟩:=qaj hρ hxs
   obtain ⟨zv,hzr,hzl,hzp⟩:=q6l hz w
   have key:∀place:Nat->Option (Nat×Nat),pl.length=parts.toList.length->(∀ (i:Nat) (p:Nat×Operand) (q:Nat×Nat),parts.toList[i]? =some p->pl[i]? =some q->place p.1=some q)->
     ∃arr',Instr.fill place zv.cells ((parts.map λp=>(p.1,ρ p.2)).toList)=some arr'/\CR S w Kn φ cs arr'.toList:=by
    intro place h1 h2
    have:=qd6 (S:=S) (w:=w) (Kn:=Kn) (φ:=φ) (ρ:=ρ) place parts.toList pl xs (lits z) cs zv.cells h1 h2 (by simpa using hl) (λi p x hp hx=>hr i p.2 x (by simp only [List.getElem?_map,hp,Option.map_some]) hx)
     (by rw [hzl]; exact qmn hzp) hcs
    simpa using this
   rcases hu with ⟨fields,hu,hpl,hall⟩ | ⟨len,el,n,hu,hn,rfl⟩
   ·obtain ⟨h1,h2⟩:=qku hpl
    let g:Field->Nat×Nat:=λf=>(f.offset,(szOf P f.type).getD 0)
    have hg:(fields.mapM λf=>(do pure (f.offset,<- sizeOf f.type):Sem (Nat×Nat))).run P w= .ok (fields.map g) w:=by
     rw [Array.mapM_eq_mapM_toList]
     have:=qkt (P:=P) (w:=w) g fields.toList λf hf=>by
      have:=List.all_eq_true.1 hall f hf
      obtain ⟨n,hn⟩:=Option.isSome_iff_exists.1 this
      exact ⟨n,hn,by simp [g,hn]⟩
     simp only [Sem.run_map,this,Result.andThen_ok]
     congr 1
     apply Array.ext'
     rw [Array.toList_map]
    obtain ⟨arr',h3,h4⟩:=key (λi=>(fields.map g)[i]?) (by simpa using h1) (λi p q hp hq=>by
     obtain ⟨f,hf,hq1,hq2⟩:=h2 i p.1 q (by simp only [List.getElem?_map,hp,Option.map_some]) hq
     simp only [Array.getElem?_map,hf,Option.map_some,g,hq2,Option.getD_some,<- hq1])
    obtain ⟨h5,h6⟩:=qia h4
    refine Runs.pure (val:= .agg arr') hI ?_ (.agg h5 h6)
    simp only [execOp,ho,Sem.run_bind,Instr.build,hzr,Result.andThen_ok,q0a hu,hg,h3,Sem.run_pure]
   ·obtain ⟨arr',h3,h4⟩:=key (λi=>some (i * n,n)) (by simp) (λi p q hp hq=>by
     simp only [List.getElem?_map,hp,Option.map_some]at hq
     exact hq)
    obtain ⟨h5,h6⟩:=qia h4
    refine Runs.pure (val:= .agg arr') hI ?_ (.agg h5 h6)
    simp only [execOp,ho,Sem.run_bind,Instr.build,hzr,Result.andThen_ok,q0a hu,q21 hn,h3,Sem.run_pure]
  ·simp at h
 ·simp at h
theorem Done.from{S1:Nat->Prop}{hf hf1:Nat->Option Ob}{u1 u2:Upd}{val:Value}{w':World}(hs:Stp S w S1 w)(he:hf1=updF u1 hf)(h:Done S1 K w0 w Kn φ hf1 nxt n' v u2 val w'):
  Done S K w0 w Kn φ hf nxt n' v (u2++u1) val w':=by
 obtain ⟨h1, S', φ', h2, h3, h4, h5⟩ := h
 exact ⟨h1, S', φ', hs.trans h2, h3, h4, by rw [q0n, ← he]; exact h5⟩
theorem ql3{α:Type}(sz:Nat):∀(n:Nat) (l:List α),n * sz<=l.length->(q4u sz n l).length=n/\∀i r,(q4u sz n l)[i]? =some r->r=(l.drop (i * sz)).take sz/\r.length=sz:=by
 intro n
 induction n with
 | zero=>intro l _; exact ⟨rfl,λi r hi=>by simp [q4u]at hi⟩
 | succ n ih=>
  intro l hl
  have e1:(n+1) * sz=n * sz+sz:=Nat.succ_mul n sz
  obtain ⟨h1,h2⟩:=ih (l.drop sz) (by simp; omega)
  refine ⟨by simp [q4u,h1],λi r hi=> ?_⟩
  cases i with
  | zero=>
   obtain rfl:l.take sz=r:=by simpa [q4u]using hi
   exact ⟨by simp,by simp; omega⟩
  | succ i=>
   obtain ⟨h3,h4⟩:=h2 i r (by simpa [q4u]using hi)
   refine ⟨?_,h4⟩
   rw [h3,List.drop_drop]
   congr 2
   rw [Nat.succ_mul]; omega
theorem qah{zc:Array Value}{z:List Value}{sz n:Nat}(hz:zc.toList=z)(hl:z.length=sz)(hpos:0 < sz):
  ((Array.range n).map (λi=>zc[i % zc.size]!)).toList=(List.range n).map λi=>z.getD (i % sz) undef:=by
 simp only [Array.toList_map,Array.toList_range]
 apply List.map_congr_left
 intro i _
 have e1:zc.size=sz:=by rw [<- hl,<- hz]; simp
 have hlt:i % sz < zc.size:=by rw [e1]; exact Nat.mod_lt _ hpos
 rw [e1,<- hz]
 have:i % sz < zc.toList.length:=by simpa using hlt
 simp [hlt]
theorem qds{t el:TypeId}{len n:Nat}{parts:Array (Nat×Operand)}{z:List Value}(ho:o.op= .buildSlice t len parts)(hu:P.underlying t=some (.slice el))
  (hs:szOf P el=some (n+1)) (hz:q37 P el=some z) (hlim:len * (n+1)<=4096/\z.length=n+1)
  (hI:Inv S K w0 Kn φ (look H) w) (hn0:nxt < n'->¬Kn nxt) (hρ:∀x tv,opv e x=some tv->RTV S w Kn φ tv (ρ x))
  (h:ev1 call (.buildSlice (n+1) len ((List.range (len * (n+1))).map λi=>z.getD (i % (n+1)) undef) (parts.toList.map (·.1))) ((parts.toList.map (·.2)).map (opv e)) H nxt=some (v,u,ids,n')):
  Runs P o ρ S K w0 w Kn φ (look H) nxt n' v u:=by
 generalize hzs:((List.range (len * (n+1))).map λi=>z.getD (i % (n+1)) undef)=zs at h
 change (match q0t ((parts.toList.map (·.2)).map (opv e))with
  | some xs=>
   (match fillC (lits zs) (((parts.toList.map λ(p:Nat×Operand)=>p.1).map λi=>(i * (n+1),n+1)).zip xs)with
   | some cs=>
    (match q0r H cs with
    | some (ds,ids)=>(match q0o H ids ids with | some u=>some (TV.c (.osl (n+1) nxt 0 len),(nxt,some (Ob.arr (n+1) (q4u (n+1) len ds))) :: u,ids,nxt+1) | none=>none)
    | none=>none)
   | none=>none)
  | none=>none)=_ at h
 split at h
 ·rename_i xs hxs
  split at h
  ·rename_i cs hcs
   split at h
   ·rename_i ds ids' hv
    split at h
    ·rename_i u' hfz
     obtain ⟨rfl,rfl,rfl,rfl⟩:TV.c (.osl (n+1) nxt 0 len)=v/\(nxt,some (Ob.arr (n+1) (q4u (n+1) len ds))) :: u'=u/\ids'=ids/\nxt+1=n':=by simpa using h
     have hn:=hn0 (Nat.lt_succ_self _)
     obtain ⟨hl,hr⟩:=qaj hρ hxs
     obtain ⟨zv,hzr,hzl,hzp⟩:=q6l hz w
     have hzp':∀x∈zs,plain x=true:=by
      intro x hx
      rw [<- hzs]at hx
      obtain ⟨i,_,rfl⟩:=List.mem_map.1 hx
      have hlt:i % (n+1) < z.length:=by rw [hlim.2]; exact Nat.mod_lt _ (Nat.succ_pos _)
      have:z.getD (i % (n+1)) undef=z[i % (n+1)]:=by simp [List.getD,hlt]
      rw [this]; exact hzp _ (List.getElem_mem hlt)
     have hzero:∃zc:Array Value,(len * (n+1)=0->zc=#[])/\(¬ len * (n+1)=0->zc=zv.cells)/\
       ((Array.range (len * (n+1))).map (λi=>zc[i % zc.size]!)).toList=zs:=by
      by_cases hc:len * (n+1)=0
      ·refine ⟨#[],λ_=>rfl,λh=>absurd hc h, ?_⟩
       rw [<- hzs,hc]; simp
      ·refine ⟨zv.cells,λh=>absurd h hc,λ_=>rfl, ?_⟩
       rw [qah hzl hlim.2 (Nat.succ_pos _),hzs]
     obtain ⟨zc,hzc,hzc1,hzc2⟩:=hzero
     obtain ⟨arr',h3,h4⟩:=qd6 (S:=S) (w:=w) (Kn:=Kn) (φ:=φ) (ρ:=ρ) (λi=>some (i * (n+1),n+1)) parts.toList _ xs (lits zs) cs ((Array.range (len * (n+1))).map (λi=>zc[i % zc.size]!))
      (by simp) (λi p q hp hq=>by simp only [List.getElem?_map,hp,Option.map_some]at hq; exact hq) (by simpa using hl)
      (λi p x hp hx=>hr i p.2 x (by simp only [List.getElem?_map,hp,Option.map_some]) hx) (by rw [hzc2]; exact qmn hzp') hcs
     obtain ⟨h5,h6⟩:=qia h4
     have hcl:cs.length=len * (n+1):=by
      have:∀(l:List ((Nat×Nat)×TV)) (a b:List C),fillC a l=some b->b.length=a.length:=by
       intro l
       induction l with
       | nil=>
        intro a b h
        obtain rfl:a=b:=by simpa [fillC]using h
        rfl
       | cons p l ih=>
        intro a b h
        obtain ⟨⟨off,m⟩,x⟩:=p
        simp only [fillC]at h
        split at h
        ·split at h
         ·rename_i hb
          rw [ih _ _ h,q0p _ _ _ (by omega)]
         ·simp at h
        ·simp at h
      rw [this _ _ _ hcs,<- hzs]
      simp [lits]
     obtain ⟨h7,h8⟩:=q6w hI cs ds ids' hv (λi=>arr'[i]?) (λi c hi=>by
      have hlt:i < arr'.size:=by rw [<- h5]; exact (List.getElem?_eq_some_iff.1 hi).1
      exact ⟨arr'.getD i undef,by simp [hlt],h6 i c hi⟩)
     obtain ⟨h9,h10⟩:=ql3 (n+1) len ds (by omega)
     have hI1:=hI.freeze hfz
     have hrows:RowsAt (SB S w φ (look H) ids') w (n+1) (λi=>arr'[i]?) 0 (q4u (n+1) len ds):=by
      refine ⟨λi r hi=>(h10 i r hi).2,λi r hi j x hj=> ?_⟩
      rw [(h10 i r hi).1,List.getElem?_take]at hj
      split at hj
      ·rw [List.getElem?_drop]at hj
       obtain ⟨y,hy,hd⟩:=h8 _ x hj
       exact ⟨y,by rw [<- hy]; simp,hd⟩
      ·simp at hj
     have hD:=Done.arr (K:=K) (w0:=w0) hI1 hn (cap:=len) (arr:=arr') (sz:=n+1) el (Nat.succ_pos n) (by omega) (by omega) hrows
     rw [h9]at hD
     refine ⟨.value _,_,_, ?_, .inl rfl,Done.from (u1:=u') (SB.stp0 _) rfl hD⟩
     have h3':Instr.fill (λi=>some (i * (n+1),n+1)) ((Array.range (len * (n+1))).map (λi=>zc[i % zc.size]!)) (parts.map λp=>(p.1,ρ p.2)).toList=some arr':=by
      rw [<- h3]; simp
     have hlim':¬len * (n+1) > 2 ^ 24:=by have:=hlim.1; omega
     simp only [execOp,ho,Sem.run_bind,Instr.buildSlice,q0a hu,Result.andThen_ok,q21 hs,if_neg hlim']
     by_cases hc:len * (n+1)=0
     ·rw [hzc hc]at h3'
      simp only [if_pos hc,Sem.run_bind,Sem.run_pure,Result.andThen_ok,h3',newRow,run_newObj]
     ·rw [hzc1 hc]at h3'
      simp only [if_neg hc,Sem.run_bind,hzr,Sem.run_pure,Result.andThen_ok,h3',newRow,run_newObj]
    ·simp at h
   ·simp at h
  ·simp at h
 ·simp at h
end
end Go.Ev

namespace Go.Ev
section
variable {P:Program}{S K:Nat->Prop}{w0 w:World}{Kn:Nat->Prop}{φ:Nat->Loc}{H:Heap}{e:Env}{ρ:Operand->Value}{o:Oper}{call:Call}
 {nxt n':Nat} {v:TV} {u:Upd} {ids:List Nat}
theorem q86{el:TypeId}(h:q5w P el=true):∃i,P.info? el=some i/\0 < i.bytes/\i.bytes<=16384:=by
 unfold q5w at h
 split at h
 ·rename_i i hi
  simp only [Bool.and_eq_true,decide_eq_true_eq]at h
  exact ⟨i,hi,h.1,h.2⟩
 ·simp at h
theorem q9q{t el:TypeId}{n:Nat}{l c:Operand}{z:List Value}(ho:o.op= .makeSlice t l c)(hu:P.underlying t=some (.slice el))
  (hs:szOf P el=some (n+1)) (hz:q37 P el=some z) (hzl:z.length=n+1) (hb:q5w P el=true)
  (hI:Inv S K w0 Kn φ (look H) w) (hn0:nxt < n'->¬Kn nxt) {tl tc:Option TV} (hl:∀y,tl=some y->RTV S w Kn φ y (ρ l)) (hc:∀y,tc=some y->RTV S w Kn φ y (ρ c))
  (h:ev1 call (.makeSlice z) [tl,tc] H nxt=some (v,u,ids,n')):Runs P o ρ S K w0 w Kn φ (look H) nxt n' v u:=by
 change (match intOf? tl,intOf? tc with
  | some l,some c=>
   if 0<=l/\l<=c/\c<=lim then some (TV.c (.osl z.length nxt 0 l.toNat), [(nxt,some (Ob.arr z.length (List.replicate l.toNat (litsD z))))],([]:List Nat),nxt+1)else none
  | _,_=>none)=_ at h
 split at h
 ·rename_i a b ha hb'
  split at h
  ·rename_i hle
   obtain ⟨h0,h1,h2⟩:=hle
   obtain ⟨rfl,rfl,rfl,rfl⟩:TV.c (.osl z.length nxt 0 a.toNat)=v/\ [(nxt,some (Ob.arr z.length (List.replicate a.toNat (litsD z))))]=u/\ []=ids/\nxt+1=n':=by simpa using h
   have hn:=hn0 (Nat.lt_succ_self _)
   obtain ⟨k1,hk1⟩:=q27 ha hl
   obtain ⟨k2,hk2⟩:=q27 hb' hc
   obtain ⟨i,hi,hby0,hby⟩:=q86 hb
   obtain ⟨zv,hzr,hzv,hzp⟩:=q6l hz w
   simp only [lim]at h2
   have hwa:IntKind.i64.wrap a=a:=q96 h0 (by omega)
   have hwb:IntKind.i64.wrap b=b:=q96 (by omega) (by omega)
   have hmul:(i.bytes:Int) * b<=16384 * 2147483648:=Int.mul_le_mul (by omega) (by omega) (by omega) (by omega)
   have hsz:(z.length)=zv.cells.size:=by rw [<- hzv]; simp
   let arr:Array Value:=(Array.range (b.toNat * (n+1))).map (λi=>zv.cells[i % zv.cells.size]!)
   have harr:arr.toList=(List.range (b.toNat * (n+1))).map λi=>z.getD (i % (n+1)) undef:=qah hzv hzl (Nat.succ_pos _)
   have hsize:arr.size=b.toNat * (n+1):=by simp [arr]
   have hrows:RowsAt S w (n+1) (λi=>arr[i]?) 0 (List.replicate a.toNat (litsD z)):=by
    refine ⟨λi r hi=> ?_,λi r hi j x hj=> ?_⟩
    ·obtain ⟨_,rfl⟩:i < a.toNat/\litsD z=r:=by
      rw [List.getElem?_replicate]at hi
      split at hi
      ·rename_i hlt; exact ⟨hlt,Option.some.inj hi⟩
      ·simp at hi
     simp [litsD,hzl]
    ·obtain ⟨hlt,rfl⟩:i < a.toNat/\litsD z=r:=by
      rw [List.getElem?_replicate]at hi
      split at hi
      ·rename_i hlt; exact ⟨hlt,Option.some.inj hi⟩
      ·simp at hi
     simp only [litsD,List.getElem?_map]at hj
     obtain ⟨y,hy,rfl⟩:=Option.map_eq_some_iff.1 hj
     have hjl:j < n+1:=by rw [<- hzl]; exact (List.getElem?_eq_some_iff.1 hy).1
     refine ⟨y, ?_, .lit (hzp y (List.mem_of_getElem? hy))⟩
     have hidx:i * (n+1)+j < b.toNat * (n+1):=by
      have:(i+1) * (n+1)<=b.toNat * (n+1):=Nat.mul_le_mul_right _ (by omega)
      rw [Nat.succ_mul]at this; omega
     show arr[0+i * (n+1)+j]? =some y
     rw [<- Array.getElem?_toList,harr,Nat.zero_add,List.getElem?_map,List.getElem?_range hidx]
     have e1:(i * (n+1)+j) % (n+1)=j:=by
      rw [Nat.add_comm,Nat.add_mul_mod_self_right]; exact Nat.mod_eq_of_lt hjl
     simp [e1,List.getD,hy]
   have hD:=Done.arr (K:=K) (w0:=w0) hI hn (cap:=b.toNat) (arr:=arr) el (Nat.succ_pos n) (by simp; omega) (by rw [hsize]; exact Nat.le_refl _) hrows
   rw [List.length_replicate]at hD
   rw [hzl]
   refine ⟨.value (.slice (some ⟨w.heap.size,0,none⟩) a.toNat b.toNat),_,_, ?_, .inl rfl,hD⟩
   have hinfo:∀w:World,(typeInfo el).run P w= .ok i w:=λw=>by simp [typeInfo,hi]
   have harr0:∀zc:Array Value,(b.toNat * (n+1)=0->zc=#[])->(¬ b.toNat * (n+1)=0->zc=zv.cells)->((Array.range (b.toNat * (n+1))).map (λi=>zc[i % zc.size]!))=arr:=by
    intro zc h1 h2
    by_cases hc0:b.toNat * (n+1)=0
    ·apply Array.ext'
     rw [harr,hc0]; simp
    ·rw [h2 hc0]
   have hnl:¬(decide (b < 0) || decide ((i.bytes:Int) * b > 2 ^ 48))=true:=by
    simp only [Bool.or_eq_true,decide_eq_true_eq,not_or]
    constructor <;> omega
   simp only [execOp,ho,Sem.run_bind,Instr.makeSlice,q0a hu,Result.andThen_ok,qbe hk1,qbe hk2,hinfo,hwa,hwb]
   rw [Sem.run_ite,if_neg (by
    simp only [Bool.or_eq_true,decide_eq_true_eq]
    simp only [Bool.or_eq_true,decide_eq_true_eq]at hnl
    omega)]
   simp only [Sem.run_pure,Result.andThen_ok,Sem.run_bind,run_askRoom,q21 hs]
   by_cases hc0:b.toNat * (n+1)=0
   ·have:=harr0 #[] (λ_=>rfl) (λh=>absurd hc0 h)
    simp only [if_pos hc0,Sem.run_bind,Sem.run_pure,Result.andThen_ok,newRow,run_newObj,this]
   ·have:=harr0 zv.cells (λh=>absurd h hc0) (λ_=>rfl)
    simp only [if_neg hc0,Sem.run_bind,hzr,Sem.run_pure,Result.andThen_ok,newRow,run_newObj,this]
  ·simp at h
 ·simp at h
theorem qpk{t el:TypeId}{n m:Nat}{l c:Operand}{z:List Value}(ho:o.op= .makeSlice t l c)(hu:P.underlying t=some (.slice el))
  (hs:szOf P el=some (n+1)) (hz:q37 P el=some z) (hzl:z.length=n+1) (hb:q5w P el=true) (hz1:qo3 z=true) (hm:0 < m)
  (hI:Inv S K w0 Kn φ (look H) w) (hn0:nxt < n'->¬Kn nxt) {tl tc:Option TV} (hl:∀y,tl=some y->RTV S w Kn φ y (ρ l)) (hc:∀y,tc=some y->RTV S w Kn φ y (ρ c))
  (h:ev1 call (.mkNst m) [tl,tc] H nxt=some (v,u,ids,n')):Runs P o ρ S K w0 w Kn φ (look H) nxt n' v u:=by
 obtain rfl:z= [.slice none 0 0]:=by
  unfold qo3 at hz1
  split at hz1
  ·rfl
  ·simp at hz1
 change (match intOf? tl,intOf? tc with
  | some l,some c=>if 0<=l/\l<=c/\c<=lim then some (TV.c (.osl 1 nxt 0 l.toNat), [(nxt,some (Ob.nst m (List.replicate l.toNat .nil)))],([]:List Nat),nxt+1)else none
  | _,_=>none)=_ at h
 split at h
 ·rename_i a b ha hb'
  split at h
  ·rename_i hle
   obtain ⟨rfl,rfl,rfl,rfl⟩:TV.c (.osl 1 nxt 0 a.toNat)=v/\ [(nxt,some (Ob.nst m (List.replicate a.toNat .nil)))]=u/\ []=ids/\nxt+1=n':=by simpa using h
   have hev:ev1 call (.makeSlice [.slice none 0 0]) [tl,tc] H nxt=some (TV.c (.osl 1 nxt 0 a.toNat), [(nxt,some (Ob.arr 1 (List.replicate a.toNat (litsD [.slice none 0 0]))))], [],nxt+1):=by
    show (match intOf? tl,intOf? tc with
     | some l,some c=>
      if 0<=l/\l<=c/\c<=lim then some (TV.c (.osl ([.slice none 0 0]:List Value).length nxt 0 l.toNat), [(nxt,some (Ob.arr ([.slice none 0 0]:List Value).length (List.replicate l.toNat (litsD [.slice none 0 0]))))],([]:List Nat),nxt+1)else none
     | _,_=>none)=_
    rw [ha,hb']
    show (if 0<=a/\a<=b/\b<=lim then _ else _)=_
    rw [if_pos hle]; rfl
   obtain ⟨nx, val, w', h1, h2, h3, S', φ', h4, h5, h6, h7⟩ := q9q ho hu hs hz hzl hb hI hn0 hl hc hev
   refine ⟨nx, val, w', h1, h2, h3, S', φ', h4, h5, h6, ?_⟩
   have e1:updF [(nxt,some (Ob.arr 1 (List.replicate a.toNat (litsD [.slice none 0 0]))))] (look H) nxt=some (.arr 1 (List.replicate a.toNat (litsD [.slice none 0 0]))):=by rw [q06,if_pos rfl]
   obtain ⟨_,hro⟩:=h7.obj nxt _ e1
   have h8:=h7.turn (o':= .nst m (List.replicate a.toNat .nil)) e1 rfl (λsz sl k rows e hk=>by
    cases e
    rw [List.getElem?_replicate]at hk
    split at hk <;> cases hk) (by
    cases hro with
    | arr hsz hl hS hK hown hext hfit hrr hv=>
     rw [List.length_replicate]at hv hfit
     refine .nst hm hl hS hK hown hext (by rw [List.length_replicate]; omega) (λi s hi=> ?_) (by rw [List.length_replicate]; exact hv)
     rw [List.getElem?_replicate]at hi
     split at hi
     ·rename_i hlt
      obtain rfl:=Option.some.inj hi
      obtain ⟨v,q1,q2⟩:=hrr.2 i (litsD [.slice none 0 0]) (by rw [List.getElem?_replicate,if_pos hlt]) 0 _ rfl
      cases q2 with
      | lit _=>exact ⟨_,by rw [<- q1]; simp, .nil⟩
     ·cases hi)
   have e2:updF [(nxt,some (Ob.nst m (List.replicate a.toNat .nil)))] (updF [(nxt,some (Ob.arr 1 (List.replicate a.toNat (litsD [.slice none 0 0]))))] (look H))=updF [(nxt,some (Ob.nst m (List.replicate a.toNat .nil)))] (look H):=by
    funext j
    simp only [q06,q0x]
    by_cases e:nxt=j
    ·rw [if_pos e,if_pos e]
    ·rw [if_neg e,if_neg e,if_neg e]
   rw [e2]at h8
   exact h8
  ·simp at h
 ·simp at h
theorem CR.mono {S' : Nat → Prop} {w' : World} {Kn' : Nat → Prop} {φ' : Nat → Loc} (hs : Stp S w S' w') (hr : Ren Kn φ Kn' φ') {cs : List C} {vs : List Value} (h : CR S w Kn φ cs vs) : CR S' w' Kn' φ' cs vs :=
 ⟨h.1,λi x y hx hy=>(h.2 i x y hx hy).mono hs hr⟩
theorem qvj{cs:List C}{arr:Array Value}(h1:cs.length=arr.size)(h2:∀(i:Nat) (x:C),cs[i]? =some x->RC S w Kn φ x (arr.getD i undef)):CR S w Kn φ cs arr.toList:=by
 refine ⟨by simpa using h1,λi x y hx hy=> ?_⟩
 have:=h2 i x hx
 rw [Array.getElem?_toList]at hy
 have e1:arr.getD i undef=y:=by simp [hy]
 rwa [e1]at this
theorem q4r{b o n:Nat}{arr:Array Value}{vs:List Value}(ho:Own w b arr)(hn:vs.length=n):
  Own (w.setRow b (arr.toList.take o++vs++arr.toList.drop (o+n)).toArray) b (splice arr.toList o vs).toArray/\
  (∀ c,c≠b->(w.setRow b (arr.toList.take o++vs++arr.toList.drop (o+n)).toArray).heap[c]? =w.heap[c]?)/\
  (w.setRow b (arr.toList.take o++vs++arr.toList.drop (o+n)).toArray).heap.size=w.heap.size/\
  (∀ a,(w.setRow b (arr.toList.take o++vs++arr.toList.drop (o+n)).toArray).frozen? a=w.frozen? a)/\
  (o+n<=arr.size->∀arr1,Own w b arr1->∃arr',Own (w.setRow b (arr.toList.take o++vs++arr.toList.drop (o+n)).toArray) b arr'/\arr'.size=arr1.size):=by
 rw [qw0 hn]
 refine ⟨qd4 ho,λc hc=>setRow_other w b c _ hc,by simp,qe5 ho,λhle arr1 h1=>⟨_,qd4 ho, ?_⟩⟩
 obtain ⟨t1,h1⟩:=h1
 obtain ⟨t2,h2⟩:=ho
 rw [h1]at h2
 obtain rfl:arr1=arr:=by simp at h2; exact h2.1
 simp only [List.size_toArray]
 rw [q0p _ _ _ (by simp; omega)]
 simp
theorem Inv.stp{hf hf':Nat->Option Ob}{S':Nat->Prop}{w':World}(_:Inv S K w0 Kn φ hf w)(hs:Stp S w S' w')(hI:Inv S' K w0 Kn φ hf' w'){u:Upd}{n:Nat}(he:hf'=updF u hf):
  Done S K w0 w Kn φ hf n n (.tup []) u undef w':=
 ⟨Nat.le_refl _,S',φ,hs,q9a _ _, .tup rfl (λi x hi=>by simp at hi),he▸hI.kn λ_ h=> .inl h⟩
theorem qhe{sz base row off:Nat}{rows:List (List D)}{r ds:List D}{arr:Array Value}{vs:List Value}(h:RowsAt S w sz (λi=>arr[i]?) base rows)(hrow:rows[row]? =some r)
  (hfit:off+ds.length<=r.length) (hl:ds.length=vs.length) (hd:∀(i:Nat) (x:D),ds[i]? =some x->∃y,vs[i]? =some y/\RD S w x y) (hsz:base+rows.length * sz<=arr.size):
  RowsAt S w sz (λi=>(splice arr.toList (base+row * sz+off) vs).toArray[i]?) base (rows.set row (splice r off ds)):=by
 have hrl:=h.1 row r hrow
 have hlt:row < rows.length:=(List.getElem?_eq_some_iff.1 hrow).1
 have hmul:(row+1) * sz<=rows.length * sz:=Nat.mul_le_mul_right _ (by omega)
 rw [Nat.succ_mul]at hmul
 have hget:∀k,(splice arr.toList (base+row * sz+off) vs).toArray[k]? =if k < base+row * sz+off then arr[k]? else if k < base+row * sz+off+vs.length then vs[k - (base+row * sz+off)]? else arr[k]? :=by
  intro k
  rw [<- Array.getElem?_toList]
  show (splice arr.toList _ vs)[k]? =_
  rw [q2b _ _ _ (by simp; omega)]
  simp only [Array.getElem?_toList]
 have hsetr:∀i q,(rows.set row (splice r off ds))[i]? =some q->(i=row/\q=splice r off ds)\/(i≠row/\rows[i]? =some q):=by
  intro i q hi
  by_cases e1:i=row
  ·subst e1
   rw [List.getElem?_set_self hlt]at hi
   exact .inl ⟨rfl,(Option.some.inj hi).symm⟩
  ·rw [List.getElem?_set_ne (λe=>e1 e.symm)]at hi
   exact .inr ⟨e1,hi⟩
 refine ⟨λi q hi=> ?_,λi q hi j z hj=> ?_⟩
 ·rcases hsetr i q hi with ⟨rfl,rfl⟩ | ⟨_,h1⟩
  ·rw [q0p _ _ _ hfit]; exact hrl
  ·exact h.1 i q h1
 ·simp only [hget]
  rcases hsetr i q hi with ⟨rfl,rfl⟩ | ⟨hne,h1⟩
  ·rw [q2b _ _ _ hfit]at hj
   by_cases c1:j < off
   ·rw [if_pos c1]at hj
    rw [if_pos (by omega)]
    exact h.2 i r hrow j z hj
   ·rw [if_neg c1]at hj
    by_cases c2:j < off+ds.length
    ·rw [if_pos c2]at hj
     obtain ⟨y,hy,hr⟩:=hd _ z hj
     rw [if_neg (by omega),if_pos (by omega)]
     refine ⟨y, ?_,hr⟩
     rw [<- hy]; congr 1; omega
    ·rw [if_neg c2]at hj
     rw [if_neg (by omega),if_neg (by omega)]
     exact h.2 i r hrow j z hj
  ·have hjl:j < sz:=by rw [<- h.1 i q h1]; exact (List.getElem?_eq_some_iff.1 hj).1
   have hout:base+i * sz+j < base+row * sz+off\/base+row * sz+off+vs.length<=base+i * sz+j:=by
    rcases Nat.lt_or_gt_of_ne hne with hlt2 | hgt
    ·have:(i+1) * sz<=row * sz:=Nat.mul_le_mul_right _ (by omega)
     rw [Nat.succ_mul]at this; omega
    ·have:(row+1) * sz<=i * sz:=Nat.mul_le_mul_right _ (by omega)
     rw [Nat.succ_mul]at this; omega
   rcases hout with c | c
   ·rw [if_pos c]; exact h.2 i q h1 j z hj
   ·rw [if_neg (by omega),if_neg (by omega)]; exact h.2 i q h1 j z hj
theorem qu7{α:Type}{l:List α}{o:Nat}{v:α}(h:o < l.length):splice l o [v]=l.set o v:=by
 rw [List.set_eq_take_append_cons_drop,if_pos h]; simp [splice]
theorem qur{id row sz:Nat}{slots:List Slot}{cs:List C}{vs:List Value}{u:Upd}{ids:List Nat}{arr:Array Value}(hI:Inv S K w0 Kn φ (look H) w)(hob:look H id=some (.nst sz slots))(hrow:row < slots.length)
  (hcr:CR S w Kn φ cs vs) (hlen:cs.length=1) (hown:Own w (φ id).blk arr) (hfit:(φ id).base+row < arr.size) (h:q8p id row sz slots cs H=some (u,ids)):
  Stp S w S (w.setRow (φ id).blk (arr.toList.take ((φ id).base+row)++vs++arr.toList.drop ((φ id).base+row+1)).toArray)/\
   Inv S K w0 Kn φ (updF u (look H)) (w.setRow (φ id).blk (arr.toList.take ((φ id).base+row)++vs++arr.toList.drop ((φ id).base+row+1)).toArray):=by
 have hvl:vs.length=1:=by rw [<- hcr.1]; exact hlen
 obtain ⟨p1,p2,p3,p4,_⟩:=q4r (w:=w) (b:=(φ id).blk) (o:=(φ id).base+row) (n:=1) (vs:=vs) hown hvl
 have hio:Io w (w.setRow (φ id).blk (arr.toList.take ((φ id).base+row)++vs++arr.toList.drop ((φ id).base+row+1)).toArray):=⟨rfl,rfl,rfl,Nat.le_refl _⟩
 generalize w.setRow (φ id).blk (arr.toList.take ((φ id).base+row)++vs++arr.toList.drop ((φ id).base+row+1)).toArray=w' at *
 obtain ⟨x,rfl⟩:∃x,vs= [x]:=by
  match vs,hvl with
  | [x],_=>exact ⟨x,rfl⟩
 rw [qu7 (by simpa using hfit)]at p1
 have key:∀s',(Stp S w S w'->RSlot S K w' Kn φ sz s' x)->(∀ rows,s'≠ .own rows)->Stp S w S w'/\Inv S K w0 Kn φ (updF [(id,some (.nst sz (slots.set row s')))] (look H)) w':=λs' h1 h2=>
  hI.setN hob hown p1 (by simp) p2 p3 p4 hio (λi hi=>by
   rw [List.getElem?_toArray,List.getElem?_set_ne (by omega),Array.getElem?_toList]) (λ_=>by
   rw [List.getElem?_toArray,List.getElem?_set_self (by simpa using hfit)]) h1 h2
 unfold q8p at h
 split at h
 ·obtain ⟨rfl,rfl⟩: [(id,some (Ob.nst sz (slots.set row .nil)))]=u/\ [id]=ids:=by simpa using h
  have hx:=hcr.2 0 _ x rfl rfl
  cases hx with
  | d hd=>
   cases hd with
   | lit _=>exact key .nil (λ_=> .nil) (λ_ e=>by cases e)
 ·rename_i sz' id2 len
  split at h
  ·rename_i sz2 rows h2
   split at h
   ·rename_i hc
    obtain ⟨rfl,rfl,hne⟩:=hc
    obtain ⟨rfl,rfl⟩: [(id,some (Ob.nst sz' (slots.set row (.own rows)))),(id2,none)]=u/\ [id,id2]=ids:=by simpa using h
    obtain ⟨q1,q2⟩:=key (.out id2 rows.length) (λhs=> .out ((hcr.2 0 _ x rfl rfl).mono hs (Ren.refl _ _))) (λ_ e=>by cases e)
    refine ⟨q1, ?_⟩
    have e1:updF [(id,some (Ob.nst sz' (slots.set row (.out id2 rows.length))))] (look H) id=some (.nst sz' (slots.set row (.out id2 rows.length))):=by rw [q06,if_pos rfl]
    have e2:updF [(id,some (Ob.nst sz' (slots.set row (.out id2 rows.length))))] (look H) id2=some (.arr sz2 rows):=by rw [q06,if_neg (λe=>hne e.symm),q0x,h2]
    have q3:=q2.absorb e1 (List.getElem?_set_self hrow) e2
    rw [List.set_set]at q3
    have e3:updF [(id,some (Ob.nst sz' (slots.set row (.own rows)))),(id2,none)] (updF [(id,some (Ob.nst sz' (slots.set row (.out id2 rows.length))))] (look H))=updF [(id,some (Ob.nst sz' (slots.set row (.own rows)))),(id2,none)] (look H):=by
     funext j
     simp only [q06,q0x]
     by_cases e:id=j
     ·rw [if_pos e,if_pos e]
     ·rw [if_neg e,if_neg e,if_neg e]
    rw [e3]at q3
    exact q3
   ·simp at h
  ·simp at h
 ·simp at h
theorem qrs{t:TypeId}{n:Nat}{a x:Operand}(ho:o.op= .store t a x)(hs:szOf P t=some n)(hI:Inv S K w0 Kn φ (look H) w)
  {ta tx:Option TV} (ha:∀y,ta=some y->RTV S w Kn φ y (ρ a)) (hx:∀y,tx=some y->RTV S w Kn φ y (ρ x))
  (h:ev1 call (.store n) [ta,tx] H nxt=some (v,u,ids,n')):Runs P o ρ S K w0 w Kn φ (look H) nxt n' v u:=by
 match ta,tx,h,ha,hx with
 | some (.c p),some tv,h,ha,hx=>
  change (match q44 n p tv H with | some (u,ids)=>some (TV.tup [],u,ids,nxt) | none=>none)=_ at h
  split at h
  ·rename_i u' ids' hst
   obtain ⟨rfl,rfl,rfl,rfl⟩:TV.tup []=v/\u'=u/\ids'=ids/\nxt=n':=by simpa using h
   unfold q44 at hst
   split at hst
   ·simp at hst
   ·rename_i cs hcs
    split at hst
    ·rename_i hlen
     have hcr:=(hx _ rfl).cr hcs
     obtain ⟨_,_,hone⟩:=(hx _ rfl).cells hcs
     have hvl:(ρ x).cells.size=n:=by have:=hcr.1; simp at this; omega
     have hr:=ha _ rfl
     generalize hv0:ρ a=val at hr
     have run:∀b off arr,val= .pointer (some ⟨b,off,none⟩)->Own w b arr->off+n<=arr.size->
       (execOp ρ o).run P w= .ok .skip (w.setRow b (arr.toList.take off++(ρ x).cells.toList++arr.toList.drop (off+n)).toArray):=by
      intro b off arr hv hown hfit
      simp [execOp,ho,hv0,hv,Instr.storeAt,Instr.sureAddr,qt5 hs hown hvl hfit hone]
     cases hr with
     | c hr=>
     split at hst
     ·rename_i id row off
      split at hst
      ·rename_i sz rows hob
       split at hst
       ·rename_i r ds ids1 hrow hvw
        split at hst
        ·rename_i u1 hfz
         split at hst
         ·rename_i hb
          obtain ⟨hb1,hb2⟩:=hb
          obtain ⟨rfl,rfl⟩:(id,some (Ob.arr sz (rows.set row (splice r off ds)))) :: u1=u'/\id :: ids1=ids':=by simpa using hst
          have hnm:id∉ids1:=by simpa using hb2
          obtain ⟨hdl,hds⟩:=q6w hI cs ds ids1 hvw (λi=>(ρ x).cells.toList[i]?) (λi c hi=>by
           have hlt:i < (ρ x).cells.toList.length:=by rw [<- hcr.1]; exact (List.getElem?_eq_some_iff.1 hi).1
           exact ⟨_,List.getElem?_eq_getElem hlt,hcr.2 i c _ hi (List.getElem?_eq_getElem hlt)⟩)
          have hI1:=hI.freeze hfz
          have hob1:updF u1 (look H) id=some (.arr sz rows):=by simp only [updF,(q39 ids1 u1 hfz id).2 hnm,hob]
          obtain ⟨hk,h0⟩:=hI1.obj _ _ hob1
          generalize hphi:φ id=l at *
          cases h0 with
          | @arr _ _ arr hsz hl hS hK hown hext hfit hrr hvis=>
           cases hr with
           | ep hk'=>
            rw [hphi]at run
            subst hl
            have hrl:=hrr.1 row r hrow
            have hrowlt:row < rows.length:=(List.getElem?_eq_some_iff.1 hrow).1
            have hmul:(row+1) * l.sz<=rows.length * l.sz:=Nat.mul_le_mul_right _ (by omega)
            rw [Nat.succ_mul]at hmul
            have hfit2:l.base+row * l.sz+off+n<=arr.size:=by rw [hext]; omega
            obtain ⟨p1,p2,p3,p4,p5⟩:=q4r (w:=w) (b:=l.blk) (o:=l.base+row * l.sz+off) (n:=n) (vs:=(ρ x).cells.toList) hown (by simpa using hvl)
            have hset:=hI1.set (o':= .arr l.sz (rows.set row (splice r off ds))) hob1 rfl (by rw [hphi]; exact p2) p3 p4 (by rw [hphi]; exact p5 hfit2) ⟨rfl,rfl,rfl,Nat.le_refl _⟩ (λhst=>by
             rw [hphi]
             have h5:=(qhe (off:=off) (vs:=(ρ x).cells.toList) hrr hrow (by omega) (by rw [hdl]; exact hcr.1) hds (by omega)).mono hst
             exact .arr hsz rfl hS hK p1 (by simp only [List.size_toArray]; rw [q0p _ _ _ (by simp; omega)]; simpa using hext) (by simpa using hfit) h5 (by simpa using hvis))
            refine ⟨.skip,undef,_,run _ _ _ rfl hown hfit2, .inr ⟨rfl,rfl⟩,hI.stp ((SB.stp0 ids1).trans hset.1) hset.2 ?_⟩
            rw [<- q0n]; rfl
         ·simp at hst
        ·simp at hst
       ·simp at hst
      ·rename_i sz slots hob
       split at hst
       ·rename_i hc
        obtain ⟨rfl,rfl,hrow⟩:=hc
        obtain ⟨hk,h0⟩:=hI.obj _ _ hob
        cases h0 with
        | @nst _ _ arr hsz hl hS hK hown hext hfit hrr hvis=>
         cases hr with
         | ep hk'=>
          obtain ⟨q1,q2⟩:=qur hI hob hrow hcr hlen hown (by omega) hst
          have hrun:=run (φ id).blk ((φ id).base+row * (φ id).sz+0) arr rfl hown (by rw [hl]; omega)
          rw [hl,Nat.mul_one,Nat.add_zero]at hrun
          refine ⟨.skip,undef,_,hrun, .inr ⟨rfl,rfl⟩,hI.stp q1 q2 rfl⟩
       ·simp at hst
      ·simp at hst
     ·rename_i id off
      split at hst
      ·rename_i cells hob
       split at hst
       ·rename_i hb
        obtain ⟨rfl,rfl⟩: [(id,some (Ob.box (splice cells off cs)))]=u'/\ [id]=ids':=by simpa using hst
        obtain ⟨hk,h0⟩:=hI.obj _ _ hob
        generalize hphi:φ id=l at *
        cases h0 with
        | @box _ arr hbase hS hK hown hlen2 hrr=>
         cases hr with
         | op hk'=>
          rw [hphi,hbase,Nat.zero_add]at run
          obtain ⟨p1,p2,p3,p4,p5⟩:=q4r (w:=w) (b:=l.blk) (o:=off) (n:=n) (vs:=(ρ x).cells.toList) hown (by simpa using hvl)
          have hset:=hI.set (o':= .box (splice cells off cs)) hob rfl (by rw [hphi]; exact p2) p3 p4 (by rw [hphi]; exact p5 (by omega)) ⟨rfl,rfl,rfl,Nat.le_refl _⟩ (λhst=>by
           rw [hphi]
           have h5:=((qvj hlen2 hrr).splice hcr off (by omega)).mono hst (Ren.refl _ _)
           obtain ⟨h6,h7⟩:=qia (arr:=(splice arr.toList off (ρ x).cells.toList).toArray) (by rw [List.toList_toArray]; exact h5)
           exact .box hbase hS hK p1 h6 h7)
          exact ⟨.skip,undef,_,run _ _ _ rfl hown (by omega), .inr ⟨rfl,rfl⟩,hI.stp hset.1 hset.2 rfl⟩
       ·simp at hst
      ·simp at hst
     ·simp at hst
    ·simp at hst
  ·simp at h
end
end Go.Ev

namespace Go.Ev
section
variable {P:Program}{S K:Nat->Prop}{w0 w:World}{Kn:Nat->Prop}{φ:Nat->Loc}{H:Heap}{e:Env}{ρ:Operand->Value}{o:Oper}{call:Call}
 {nxt n':Nat} {v:TV} {u:Upd} {ids:List Nat}
theorem q74{sz b addr:Nat}{rows:List (List D)}(hsz:0 < sz)(h:RowsAt S w sz (λi=>w.cell? ⟨b,i,none⟩) addr rows):
  ∃arr,(∀ w':World,w'.heap=w.heap->(loadCells ⟨b,addr,none⟩ (rows.length * sz)).run P w'= .ok arr w')/\arr.size=rows.length * sz/\RowsAt S w sz (λi=>arr[i]?) 0 rows/\∀x∈arr.toList,one x=true:=by
 have hcell:∀k,k < rows.length * sz->∃y,w.cell? ⟨b,addr+k,none⟩=some y/\one y=true:=by
  intro k hk
  have h1:k / sz < rows.length:=Nat.div_lt_of_lt_mul (by rw [Nat.mul_comm]; exact hk)
  have h2:=h.1 (k / sz) rows[k / sz] (List.getElem?_eq_getElem h1)
  have h3:k % sz < rows[k / sz].length:=by rw [h2]; exact Nat.mod_lt _ hsz
  obtain ⟨y,hy,hr⟩:=h.2 (k / sz) rows[k / sz] (List.getElem?_eq_getElem h1) (k % sz) _ (List.getElem?_eq_getElem h3)
  refine ⟨y, ?_,hr.one⟩
  rw [<- hy]
  have:=Nat.div_add_mod k sz
  rw [Nat.mul_comm]at this
  show w.cell? ⟨b,addr+k,none⟩=w.cell? ⟨b,addr+k / sz * sz+k % sz,none⟩
  congr 2; omega
 refine ⟨((List.range (rows.length * sz)).map λj=>(w.cell? ⟨b,addr+j,none⟩).getD undef).toArray,λw' hw=>run_loadCells w' ⟨b,addr,none⟩ _ (λj=>(w.cell? ⟨b,addr+j,none⟩).getD undef) λj hj=> ?_,by simp,
  ⟨h.1,λi r hi j x hj=> ?_⟩,λx hx=> ?_⟩
 ·obtain ⟨y,hy,_⟩:=hcell j hj
  have:w'.cell? ⟨b,addr+j,none⟩=w.cell? ⟨b,addr+j,none⟩:=by unfold World.cell?; rw [hw]
  rw [q6p,this,hy]; rfl
 ·obtain ⟨y,hy,hr⟩:=h.2 i r hi j x hj
  refine ⟨y, ?_,hr⟩
  have hil:i < rows.length:=(List.getElem?_eq_some_iff.1 hi).1
  have hjl:j < sz:=by rw [<- h.1 i r hi]; exact (List.getElem?_eq_some_iff.1 hj).1
  have hm:(i+1) * sz<=rows.length * sz:=Nat.mul_le_mul_right _ hil
  rw [Nat.succ_mul]at hm
  simp only at hy
  have hlt:0+i * sz+j < rows.length * sz:=by omega
  have e1:addr+(0+i * sz+j)=addr+i * sz+j:=by omega
  show (((List.range (rows.length * sz)).map λj=>(w.cell? ⟨b,addr+j,none⟩).getD undef).toArray)[0+i * sz+j]? =some y
  rw [<- Array.getElem?_toList,List.getElem?_map,List.getElem?_range hlt]
  simp only [Option.map_some,e1,hy,Option.getD_some]
 ·simp only [List.mem_map,List.mem_range]at hx
  obtain ⟨k,hk,rfl⟩:=hx
  obtain ⟨y,hy,h1⟩:=hcell k hk
  rw [hy]; exact h1
def Elems(P:Program)(S:Nat->Prop)(w:World)(sz:Nat)(xv:Value)(new:List (List D))(arr:Array Value):Prop:=
 (∀ w':World,w'.heap=w.heap->(Builtin.lenOf xv).run P w'= .ok new.length w'/\(Builtin.firstCells sz new.length xv).run P w'= .ok arr w')/\
 arr.size=new.length * sz/\RowsAt S w sz (λi=>arr[i]?) 0 new/\∀x∈arr.toList,one x=true
theorem qfm{sz b addr len cap:Nat}{new:List (List D)}(hsz:0 < sz)(hl:new.length=len)(h:RowsAt S w sz (λi=>w.cell? ⟨b,i,none⟩) addr new):
  ∃arr,Elems P S w sz (.slice (some ⟨b,addr,none⟩) len cap) new arr:=by
 subst hl
 obtain ⟨arr,h1,h2,h3,h4⟩:=q74 (P:=P) hsz h
 exact ⟨arr,λw' hw=>⟨rfl,h1 w' hw⟩,h2,h3,h4⟩
theorem ql8{sz:Nat}{x:C}{xv:Value}{new:List (List D)}(hsz:0 < sz)(hI:Inv S K w0 Kn φ (look H) w)(hr:RC S w Kn φ x xv)(h:q2u sz H x=some (new,ids)):
  ∃arr,Elems P S w sz xv new arr:=by
 unfold q2u at h
 split at h
 ·obtain ⟨rfl,rfl⟩: []=new/\ []=ids:=by simpa using h
  cases hr with
  | d hd=>cases hd with
   | lit hp=>exact ⟨#[],λw' _=>⟨rfl,rfl⟩,by simp,⟨λi r hi=>by simp at hi,λi r hi=>by simp at hi⟩,λx hx=>by simp at hx⟩
 ·rename_i sz' rows
  split at h
  ·rename_i e1
   subst e1
   obtain ⟨rfl,rfl⟩:rows=new/\ []=ids:=by simpa using h
   cases hr with
   | d hd=>cases hd with
    | sl f hb hsz0 hcap hrow hcell hrd=>exact qfm hsz rfl ⟨hrow,λi r hi j x hj=>⟨_,hcell i r hi j x hj,hrd i r hi j x hj⟩⟩
    | sl0 hsz0=>exact ⟨#[],λw' _=>⟨rfl,by
      have h0:([]:List (List D)).length * sz'=0:=by simp
      simp only [Builtin.firstCells,h0]
      rfl⟩,by simp,⟨λi r hi=>by simp at hi,λi r hi=>by simp at hi⟩,λx hx=>by simp at hx⟩
  ·simp at h
 ·rename_i sz' id off len
  have key:∀szo rows,(look H id=some (.arr szo rows)\/look H id=some (.imm szo rows))->(if sz'=sz/\off+len<=rows.length then some ((rows.drop off).take len, [id])else none)=some (new,ids)->
    ∃arr,Elems P S w sz xv new arr:=by
   intro szo rows ho hq
   split at hq
   ·rename_i hb
    obtain ⟨e1,hle⟩:=hb
    subst e1
    obtain ⟨rfl,rfl⟩:=Prod.mk.inj (Option.some.inj hq)
    obtain ⟨hsz1,hl,hR⟩:=q4i hI ho
    subst hl
    cases hr with
    | osl hk hcap haddr hext=>exact qfm hsz1 (by simp; omega) (hR.sub' off len λh=>haddr (by omega))
   ·simp at hq
  split at h
  ·exact key _ _ (.inl (by assumption)) h
  ·exact key _ _ (.inr (by assumption)) h
  ·simp at h
 ·simp at h
theorem qtg(need:Nat)(c:Nat):Builtin.growBy need 4 c<=3 * c+3072:=by
 simp only [Builtin.growBy]
 repeat' split
 all_goals omega
theorem qsg{need cap:Nat}(h1:need<=2147483648)(h2:cap < need):Builtin.nextslicecap need cap<=6442454016:=by
 unfold Builtin.nextslicecap
 split
 ·omega
 ·split
  ·omega
  ·have:=qtg need cap; omega
theorem Inv.other{hf:Nat->Option Ob}{w':World}{b:Nat}(h:Inv S K w0 Kn φ hf w)(hS:¬S b)(hK:¬K b)(hfree:∀i o,hf i=some o->isOwn o=true->b∉blks w φ hf i)
  (hother:∀c,c≠b->w'.heap[c]? =w.heap[c]?) (hsize:w'.heap.size=w.heap.size) (hfrz:∀a,w'.frozen? a=w.frozen? a)
  (hsz:∀arr,Own w b arr->∃arr',Own w' b arr'/\arr'.size=arr.size) (hio:Io w w'):Stp S w S w'/\Inv S K w0 Kn φ hf w':=by
 have hs:Stp S w S w':=⟨λ_ h=>h,λc hc=>hother c (λe=>hS (e▸hc))⟩
 refine ⟨hs,h.step hs (Ren.refl _ _) (λc hc=>hsize▸h.slt c hc) h.sk ⟨h.frm.klt,λc hc=>(hother c (λe=>hK (e▸hc))).trans (h.frm.keep c hc),hsize▸h.frm.grow,λa ha=>(hfrz a).trans (h.frm.frz a ha),h.frm.own_step hother hsz,h.frm.io.trans hio⟩ ?_ h.dist λid sz sl hi=>⟨hi,hother _ λe=>hfree id _ hi rfl (e▸q3f id),λk x hp=>
  ⟨hother x λe=>hfree id _ hi rfl (q0m.2 (.inr ⟨sz,sl,k,hi,e▸hp⟩)),(h.pat hi hp).1,(h.prv id sz sl k x hi hp).1⟩⟩⟩
 intro id o ho
 exact .inl ⟨ho,λhown=>⟨hother _ λe=>hfree id o ho hown (e▸q3f id),((h.obj id o ho).2.own hown).1⟩⟩
theorem qf6{w':World}{hf:Nat->Option Ob}{i:Nat}(h:w'.heap[(φ i).blk]? =w.heap[(φ i).blk]?):blks w' φ hf i=blks w φ hf i:=by
 have key:∀(l:Loc),w'.heap[l.blk]? =w.heap[l.blk]? ->∀(sl:List Slot) (k:Nat),prvL w' l sl k=prvL w l sl k:=by
  intro l hl sl
  induction sl with
  | nil=>intro k; rfl
  | cons s sl ih=>
   intro k
   cases s with
   | own rows=>simp only [prvL,ih,cell?_same hl]
   | _=>exact ih (k+1)
 unfold blks
 congr 1
 split
 ·exact key _ h _ _
 ·rfl
theorem q63{sz base:Nat}{a b:List (List D)}{get:Nat->Option Value}(h1:RowsAt S w sz get base a)(h2:RowsAt S w sz get (base+a.length * sz) b):RowsAt S w sz get base (a++b):=by
 have key:∀(i:Nat) (r:List D),(a++b)[i]? =some r->a[i]? =some r\/(a.length<=i/\b[i - a.length]? =some r):=by
  intro i r hi
  by_cases hc:i < a.length
  ·rw [List.getElem?_append_left hc]at hi; exact .inl hi
  ·rw [List.getElem?_append_right (by omega)]at hi; exact .inr ⟨by omega,hi⟩
 refine ⟨λi r hi=> ?_,λi r hi j x hj=> ?_⟩
 ·rcases key i r hi with h | ⟨_,h⟩
  ·exact h1.1 i r h
  ·exact h2.1 _ r h
 ·rcases key i r hi with h | ⟨hle,h⟩
  ·exact h1.2 i r h j x hj
  ·obtain ⟨y,hy,hr⟩:=h2.2 _ r h j x hj
   refine ⟨y, ?_,hr⟩
   rw [<- hy]; congr 1
   have:a.length * sz+(i - a.length) * sz=i * sz:=by rw [<- Nat.add_mul]; congr 1; omega
   omega
theorem RC.osl_inv{sz id off len:Nat}{v:Value}(h:RC S w Kn φ (.osl sz id off len) v):∃cap addr,v= .slice (some ⟨(φ id).blk,addr,none⟩) len cap/\(φ id).sz=sz/\Kn id/\len<=cap/\
  (0 < cap->addr=(φ id).base+off * (φ id).sz)/\addr+cap * (φ id).sz<=(φ id).ext/\off+cap=(φ id).cap:=by
 cases h with
 | osl hk hcap haddr hext hc=>exact ⟨_,_,rfl,rfl,hk,hcap,haddr,hext,hc⟩
theorem qon{c:Go.Call}{s x:Operand}{st xt el el2:TypeId}{n:Nat}{z:List Value}(ho:o.op= .call c)(hcal:c.callee= .builtin .append)(hargs:c.args=#[s,x])(hts:c.argTypes=#[st,xt])
  (hus:P.underlying st=some (.slice el)) (hux:P.underlying xt=some (.slice el2)) (hsz:szOf P el=some (n+1)) (hz:q37 P el=some z) (hzl:z.length=n+1) (hby:q5w P el=true)
  (hI:Inv S K w0 Kn φ (look H) w) (hn0:nxt < n'->¬Kn nxt) {ta tx:Option TV} (ha:∀y,ta=some y->RTV S w Kn φ y (ρ s)) (hx:∀y,tx=some y->RTV S w Kn φ y (ρ x))
  (h:ev1 call (.append (n+1)) [ta,tx] H nxt=some (v,u,ids,n')):Runs P o ρ S K w0 w Kn φ (look H) nxt n' v u:=by
 obtain ⟨inf,hinf,hb0,hb1⟩:=q86 hby
 obtain ⟨zv,hzr,hzv,_⟩:=q6l hz w
 match ta,tx,h,ha,hx with
 | some (.c sc),some (.c xc),h,ha,hx=>
  change q52 (n+1) sc xc H nxt=_ at h
  unfold q52 at h
  split at h
  ·simp at h
  ·rename_i new ids1 hrx
   cases hx _ rfl with
   | c hxr=>
   obtain ⟨narr,hel,hns,hnR,hnone⟩:=ql8 (P:=P) (sz:=n+1) (Nat.succ_pos n) hI hxr hrx
   have hinfo:∀w:World,(typeInfo el).run P w= .ok inf w:=λw=>by simp [typeInfo,hinf]
   have hzr':∀w:World,(zeroValue el).run P w= .ok zv w:=by
    intro w'
    simp only [zeroValue,typeInfo,Sem.run_bind,run_program,Result.andThen_ok,hinf,Sem.run_pure]at hzr ⊢
    cases hzz:inf.zero with
    | none=>rw [hzz]at hzr; simp at hzr
    | some q=>rw [hzz]at hzr; simp at hzr ⊢; exact hzr
   have hunx:∀w:World,(underlying xt).run P w= .ok (.slice el2) w:=q0a hux
   -- what the model does where there is no room
   have grows:∀(base:Option Addr) (sLen sCap:Nat) (old:Array Value),ρ s= .slice base sLen sCap->sCap < sLen+new.length->sLen+new.length<=2147483648->
     (∀ w':World,w'.heap=w.heap->(Builtin.firstCells (n+1) sLen (.slice base sLen sCap)).run P w'= .ok old w')->
     ∃newCap,sLen+new.length<=newCap/\(execOp ρ o).run P w= .ok (.value (.slice (some ⟨w.heap.size,0,none⟩) (sLen+new.length) newCap))
      {({ w with drawn:=w.drawn+1 }:World)with heap:=w.heap.push (.cells (old++narr++Builtin.zeroCells zv.cells (newCap - (sLen+new.length))) el) }:=by
    intro base sLen sCap old hs hlt hle hold
    refine ⟨(Question.appendCap (sLen+new.length) sCap el).cut (w.tape w.drawn (.appendCap (sLen+new.length) sCap el)),by simp [Question.cut], ?_⟩
    have hcap:¬Builtin.nextslicecap (sLen+new.length) sCap * inf.bytes > 2 ^ 48:=by
     have h1:=qsg hle hlt
     have h2:Builtin.nextslicecap (sLen+new.length) sCap * inf.bytes<=6442454016 * 16384:=Nat.mul_le_mul h1 hb1
     omega
    have hbz:¬inf.bytes=0:=by omega
    have hnle:¬sLen+new.length<=sCap:=by omega
    have ho2:=hold { w with drawn:=w.drawn+1 } rfl
    have hn2:=(hel { w with drawn:=w.drawn+1 } rfl).2
    have hl2:=(hel w rfl).1
    simp only [execOp,ho,hcal,resolve,hargs,Sem.run_bind,Sem.run_pure,Result.andThen_ok,invoke,builtin,Builtin.append_,hts,List.map_toArray,List.map_cons,List.map_nil,hs,List.getElem?_toArray,
     List.getElem?_cons_zero,List.getElem?_cons_succ,q0a hus,q21 hsz,hunx,hl2,hnle,if_false,hinfo,hcap,hbz,Bool.false_eq_true,or_self,and_false,run_choose,Question.forced,run_askRoom,ho2,hn2,hzr',newRow,run_newObj,Bool.not_false,if_true]
   have room_new:¬Kn nxt->∀(k:Nat) (_:w.drawn<=k) (hf:Nat->Option Ob) (rows:List (List D)) (arr:Array Value) (cap:Nat),Inv S K w0 Kn φ hf w->rows.length<=cap->cap * (n+1)<=arr.size->RowsAt S w (n+1) (λi=>arr[i]?) 0 rows->
     Done S K w0 w Kn φ hf nxt (nxt+1) (.c (.osl (n+1) nxt 0 rows.length)) [(nxt,some (.arr (n+1) rows))] (.slice (some ⟨w.heap.size,0,none⟩) rows.length cap)
      {({ w with drawn:=k }:World)with heap:=w.heap.push (.cells arr el) }:=by
    intro hn k hk hf rows arr cap hI1 h1 h2 h3
    obtain ⟨a1, S', φ', a2, a3, a4, a5⟩ := Done.arr (hI1.drew k hk) hn el (Nat.succ_pos n) h1 h2 (h3.mono (Stp.drew S w k))
    exact ⟨a1, S', φ', (Stp.drew S w k).trans a2, a3, a4, a5⟩
   have zsize:∀m,(Builtin.zeroCells zv.cells m).size=m * (n+1):=by
    intro m
    have:zv.cells.size=n+1:=by rw [<- hzl,<- hzv]; simp
    simp [Builtin.zeroCells,this]
   split at h
   ·-- a nil slice
    split at h
    ·rename_i hle
     simp only [lim]at hle
     obtain ⟨hv,_⟩:=(ha _ rfl).lit
     cases new with
     | nil=>
      obtain ⟨rfl,rfl,rfl,rfl⟩:TV.c (.d (.lit (.slice none 0 0)))=v/\ []=u/\ids1=ids/\nxt=n':=by simpa using h
      refine Runs.pure hI ?_ (ha _ rfl)
      have hl2:=(hel w rfl).1
      have hn2:=(hel w rfl).2
      simp only [List.length_nil]at hl2 hn2
      simp only [execOp,ho,hcal,resolve,hargs,Sem.run_bind,Sem.run_pure,Result.andThen_ok,invoke,builtin,Builtin.append_,hts,List.map_toArray,List.map_cons,List.map_nil,hv,List.getElem?_toArray,
       List.getElem?_cons_zero,List.getElem?_cons_succ,q0a hus,q21 hsz,hunx,hl2,Nat.le_refl,if_true,Bool.not_false,hn2,Bool.false_eq_true,if_false,Nat.add_zero]
     | cons q new=>
      obtain ⟨rfl,rfl,rfl,rfl⟩:TV.c (.osl (n+1) nxt 0 (q :: new).length)=v/\ [(nxt,some (Ob.arr (n+1) (q :: new)))]=u/\ids1=ids/\nxt+1=n':=by simpa using h
      obtain ⟨newCap,hnc,hrun⟩:=grows none 0 0 #[] hv (by simp) (by simpa using hle) (λw' _=>rfl)
      rw [Nat.zero_add]at hrun hnc
      refine ⟨.value _,_,_,hrun, .inl rfl,room_new (hn0 (Nat.lt_succ_self _)) _ (Nat.le_succ _) _ _ _ _ hI hnc ?_ ?_⟩
      ·simp only [Array.size_append,hns,zsize,List.size_toArray,List.length_nil]
       rw [Nat.zero_add,<- Nat.add_mul]
       exact Nat.mul_le_mul_right _ (by omega)
      ·refine ⟨hnR.1,λi r hi j x hj=> ?_⟩
       obtain ⟨y,hy,hr⟩:=hnR.2 i r hi j x hj
       refine ⟨y, ?_,hr⟩
       have hlt:=(Array.getElem?_eq_some_iff.1 hy).1
       simp only at hy ⊢
       rw [Array.getElem?_append_left (by simp; omega)]
       simpa using hy
    ·simp at h
   ·-- a slice of one's own
    rename_i sz' id off len
    split at h
    ·rename_i szo rows hob
     split at h
     ·rename_i hb
      obtain ⟨e1,hle,hlim⟩:=hb
      subst e1
      simp only [lim]at hlim
      obtain ⟨rfl,rfl,rfl,rfl⟩:TV.c (.osl (n+1) nxt 0 (len+new.length))=v/\ [(id,none),(nxt,some (Ob.arr (n+1) ((rows.drop off).take len++new++rows.drop (off+len+new.length))))]=u/\id :: ids1=ids/\nxt+1=n':=by simpa using h
      have hn:=hn0 (Nat.lt_succ_self _)
      have hr:=ha _ rfl
      generalize hv0:ρ s=val at hr
      cases hr with
      | c hr=>
      have hlen:((rows.drop off).take len).length=len:=by simp; omega
      have hlen2:((rows.drop off).take len++new).length=len+new.length:=by simp; omega
      have hku:∀hf:Nat->Option Ob,updF [(id,none),(nxt,some (Ob.arr (n+1) ((rows.drop off).take len++new++rows.drop (off+len+new.length))))] hf=updF [(nxt,some (Ob.arr (n+1) ((rows.drop off).take len++new++rows.drop (off+len+new.length))))] (updF [(id,none)] hf):=by
       intro hf
       have hne:id≠nxt:=λe=>hn (e▸(hI.obj _ _ hob).1)
       rw [<- q0n]
       exact q3z (u:= [(id,none)]) λp hp q hq=>by
        obtain rfl:=List.mem_singleton.1 hp
        obtain rfl:=List.mem_singleton.1 hq
        exact hne
      have hkill:Inv S K w0 Kn φ (updF [(id,none)] (look H)) w:=hI.kill λi o ho=>by
       rw [q06]at ho
       split at ho
       ·simp at ho
       ·exact ho
      obtain ⟨hk0,h0⟩:=hI.obj _ _ hob
      generalize hphi:φ id=l at *
      cases h0 with
      | @arr _ _ arr hsz0 hl hS hK hown hext hfit hrr hvis=>
      obtain ⟨cap,addr,rfl,hszl,hk,hcap,haddr,hextc,hcl⟩:=hr.osl_inv
      rw [hphi]at hv0 haddr hextc hszl hcl
      have e2:szo=n+1:=by rw [<- hl,hszl]
      subst e2
      rw [hl]at haddr hextc
      have hR:∀len',len'=len->RowsAt S w (n+1) (λi=>arr[i]?) addr ((rows.drop off).take len'):=λlen' e=>by
       subst e; exact hrr.sub' off len' λh=>haddr (by omega)
      have hRc:RowsAt S w (n+1) (λi=>w.cell? ⟨l.blk,i,none⟩) addr ((rows.drop off).take len):=⟨(hR len rfl).1,λi r hi j x hj=>let ⟨y,hy,hd⟩:=(hR len rfl).2 i r hi j x hj; ⟨y,(hown.cell _).trans hy,hd⟩⟩
      by_cases hroom:len+new.length<=cap
      ·-- there is room
       have hl2:=(hel w rfl).1
       have hn2:=(hel w rfl).2
       have hcm:(len+new.length) * (n+1)<=cap * (n+1):=Nat.mul_le_mul_right _ hroom
       rw [Nat.add_mul]at hcm
       obtain ⟨ty,hty⟩:=hown
       have hst:=run_storeCells_at P l.blk (addr+len * (n+1)) ty narr.toList 0 arr w hty (by simp only [Array.length_toList,hns]; omega) (λv hv=>by rw [q5p]; exact hnone v hv)
       simp only [Nat.add_zero,Array.length_toList,hns]at hst
       have hown:Own w l.blk arr:=⟨ty,hty⟩
       obtain ⟨p1,p2,p3,p4,p5⟩:=q4r (w:=w) (b:=l.blk) (o:=addr+len * (n+1)) (n:=new.length * (n+1)) (vs:=narr.toList) hown (by simpa using hns)
       have hio:Io w (w.setRow l.blk (arr.toList.take (addr+len * (n+1))++narr.toList++arr.toList.drop (addr+len * (n+1)+new.length * (n+1))).toArray):=⟨rfl,rfl,rfl,Nat.le_refl _⟩
       generalize hw':w.setRow l.blk (arr.toList.take (addr+len * (n+1))++narr.toList++arr.toList.drop (addr+len * (n+1)+new.length * (n+1))).toArray=w' at *
       have hrun:(execOp ρ o).run P w= .ok (.value (.slice (some ⟨l.blk,addr,none⟩) (len+new.length) cap)) w':=by
        simp only [execOp,ho,hcal,resolve,hargs,Sem.run_bind,Sem.run_pure,Result.andThen_ok,invoke,builtin,Builtin.append_,hts,List.map_toArray,List.map_cons,List.map_nil,hv0,List.getElem?_toArray,
         List.getElem?_cons_zero,List.getElem?_cons_succ,q0a hus,q21 hsz,hunx,hl2,hroom,if_true,Bool.not_false,hn2,Bool.false_eq_true,if_false,q6p,hst]
       have hfree:∀i o,updF [(id,none)] (look H) i=some o->isOwn o=true->l.blk∉blks w φ (updF [(id,none)] (look H)) i:=by
        intro i o hi ho hm
        have hi':=hi
        rw [q06]at hi'
        split at hi'
        ·simp at hi'
        ·rename_i hne
         rw [q16 rfl (hi.trans hi'.symm)]at hm
         exact q4e hI hi' hob ho rfl (λe=>hne e.symm) hm (by rw [<- hphi]; exact q3f id)
       obtain ⟨hs1,hI1⟩:=hkill.other hS hK hfree p2 p3 p4 (p5 (by omega)) hio
       have hget:∀k,(splice arr.toList (addr+len * (n+1)) narr.toList).toArray[k]? =if k < addr+len * (n+1)then arr[k]? else if k < addr+len * (n+1)+narr.size then narr[k - (addr+len * (n+1))]? else arr[k]? :=by
        intro k
        rw [<- Array.getElem?_toList]
        show (splice arr.toList _ narr.toList)[k]? =_
        rw [q2b _ _ _ (by simp only [Array.length_toList,hns]; omega)]
        simp only [Array.getElem?_toList,Array.length_toList]
       have hrows:RowsAt S w' (n+1) (λi=>(splice arr.toList (addr+len * (n+1)) narr.toList).toArray[i]?) addr ((rows.drop off).take len++new):=by
        refine q63 (RowsAt.mono hs1 ⟨(hR len rfl).1,λi r hi j x hj=> ?_⟩) (RowsAt.mono hs1 ⟨hnR.1,λi r hi j x hj=> ?_⟩)
        ·obtain ⟨y,hy,hd⟩:=(hR len rfl).2 i r hi j x hj
         refine ⟨y, ?_,hd⟩
         have hil:i < len:=by rw [<- hlen]; exact (List.getElem?_eq_some_iff.1 hi).1
         have hjl:j < n+1:=by rw [<- (hR len rfl).1 i r hi]; exact (List.getElem?_eq_some_iff.1 hj).1
         have hm:(i+1) * (n+1)<=len * (n+1):=Nat.mul_le_mul_right _ hil
         rw [Nat.succ_mul]at hm
         show (splice arr.toList (addr+len * (n+1)) narr.toList).toArray[_]? =_
         rw [hget,if_pos (by omega)]; exact hy
        ·obtain ⟨y,hy,hd⟩:=hnR.2 i r hi j x hj
         refine ⟨y, ?_,hd⟩
         have hlt:=(Array.getElem?_eq_some_iff.1 hy).1
         show (splice arr.toList (addr+len * (n+1)) narr.toList).toArray[_]? =_
         rw [hlen,hget,if_neg (by omega),if_pos (by omega)]
         rw [<- hy]
         show narr[_]? =narr[_]?
         congr 1; omega
       have hsz':(splice arr.toList (addr+len * (n+1)) narr.toList).toArray.size=l.ext:=by
        simp only [List.size_toArray]
        rw [q0p _ _ _ (by simp only [Array.length_toList,hns]; omega)]
        simpa using hext
       have hLl:(rows.drop (off+len+new.length)).length=rows.length - (off+len+new.length):=by simp
       have hLR:RowsAt S w (n+1) (λi=>arr[i]?) (addr+(len+new.length) * (n+1)) (rows.drop (off+len+new.length)):=by
        have h7:=hrr.sub' (addr:=addr+(len+new.length) * (n+1)) (off+len+new.length) (rows.length - (off+len+new.length)) λh=>by
         have:=haddr (by omega)
         rw [this,Nat.add_assoc off len new.length,Nat.add_mul off (len+new.length)]; omega
        rwa [List.take_of_length_le (by rw [hLl]; omega)]at h7
       have hrows2:RowsAt S w' (n+1) (λi=>(splice arr.toList (addr+len * (n+1)) narr.toList).toArray[i]?) addr ((rows.drop off).take len++new++rows.drop (off+len+new.length)):=by
        refine q63 hrows ?_
        rw [hlen2]
        refine RowsAt.mono hs1 ⟨hLR.1,λi r hi j x hj=> ?_⟩
        obtain ⟨y,hy,hd⟩:=hLR.2 i r hi j x hj
        refine ⟨y, ?_,hd⟩
        show (splice arr.toList (addr+len * (n+1)) narr.toList).toArray[_]? =_
        rw [hget,if_neg (by rw [Nat.add_mul]; omega),if_neg (by rw [hns,Nat.add_mul]; omega)]
        exact hy
       have hlen3:((rows.drop off).take len++new++rows.drop (off+len+new.length)).length<=cap:=by
        rw [List.length_append,hlen2,hLl]; omega
       have hname:=hI1.name hn ⟨l.blk,addr,n+1,l.ext,cap⟩ (.arr (n+1) ((rows.drop off).take len++new++rows.drop (off+len+new.length))) (λ_ j b hj hb hm=>hfree j b hj hb (by rwa [qf6 (p2 _ λe=>hfree j b hj hb (e▸q3f j))]at hm))
        (.arr (Nat.succ_pos n) rfl hS hK p1 hsz' (by have h8:=Nat.mul_le_mul_right (n+1) hlen3; simp only; omega) hrows2 hlen3)
       refine ⟨.value _,_,_,hrun, .inl rfl,Nat.le_succ _,S,_,hs1,⟨λ_ h=> .inl h,(q2v _ hn).same⟩, .c ?_,(hku (look H)▸hname).knEq λj=>q6d j⟩
       have e:ext φ nxt ⟨l.blk,addr,n+1,l.ext,cap⟩ nxt=⟨l.blk,addr,n+1,l.ext,cap⟩:=by simp [ext]
       have:=RC.osl (S:=S) (w:=w') (Kn:=KnU Kn nxt (nxt+1)) (φ:=ext φ nxt ⟨l.blk,addr,n+1,l.ext,cap⟩) (id:=nxt) (off:=0) (len:=len+new.length) (cap:=cap) (addr:=addr)
        (.inr (by omega)) hroom (by rw [e]; simp) (by rw [e]; exact hextc) (by rw [e]; simp)
       rw [e]at this
       exact this
      ·-- there is none
       obtain ⟨old,hold,hos,hoR,hoone⟩:=q74 (P:=P) (sz:=n+1) (Nat.succ_pos n) hRc
       rw [hlen]at hold hos
       obtain ⟨newCap,hnc,hrun⟩:=grows (some ⟨l.blk,addr,none⟩) len cap old hv0 (by omega) hlim (λw' hw=>hold w' hw)
       refine ⟨.value _,_,_,hrun, .inl rfl, ?_⟩
       have hD:=room_new hn (w.drawn+1) (Nat.le_succ _) (updF [(id,none)] (look H)) ((rows.drop off).take len++new) (old++narr++Builtin.zeroCells zv.cells (newCap - (len+new.length))) newCap hkill (by rw [hlen2]; exact hnc)
        (by
         simp only [Array.size_append,hos,hns,zsize]
         rw [<- Nat.add_mul,<- Nat.add_mul]
         exact Nat.mul_le_mul_right _ (by omega))
        (by
         refine q63 ⟨hoR.1,λi r hi j x hj=> ?_⟩ ⟨hnR.1,λi r hi j x hj=> ?_⟩
         ·obtain ⟨y,hy,hd⟩:=hoR.2 i r hi j x hj
          refine ⟨y, ?_,hd⟩
          have hlt:=(Array.getElem?_eq_some_iff.1 hy).1
          show (old++narr++_)[_]? =_
          rw [Array.getElem?_append_left (by rw [Array.size_append]; omega),Array.getElem?_append_left hlt]
          exact hy
         ·obtain ⟨y,hy,hd⟩:=hnR.2 i r hi j x hj
          refine ⟨y, ?_,hd⟩
          have hlt:=(Array.getElem?_eq_some_iff.1 hy).1
          show (old++narr++_)[_]? =_
          rw [hlen,Array.getElem?_append_left (by rw [Array.size_append,hos]; omega),Array.getElem?_append_right (by rw [hos]; omega)]
          rw [<- hy,hos]
          show narr[_]? =narr[_]?
          congr 1; omega)
       rw [hlen2]at hD
       obtain ⟨q1, S', φ', q2, q3, q4, q5⟩ := hD
       have hL0:rows.drop (off+len+new.length)= []:=List.drop_eq_nil_of_le (by omega)
       exact ⟨q1, S', φ', q2, q3, q4, by rw [hku, hL0, List.append_nil]; exact q5⟩
     ·simp at h
    ·simp at h
   ·simp at h
end
end Go.Ev
