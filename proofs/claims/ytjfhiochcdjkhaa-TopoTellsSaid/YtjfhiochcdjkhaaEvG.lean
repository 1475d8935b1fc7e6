/- The model's operations, one by one, against the abstract machine's. Conditions: the relation of XEvC. -/
import Derived.Test.YtjfhiochcdjkhaaEvF
namespace Go.Ev

abbrev Sig := FuncId → Bool × List Bool

def placesOf (P : Program) (fields : Array Field) : List Nat → Option (List (Nat × Nat))
  | [] => some []
  | i :: r =>
    match fields[i]?, placesOf P fields r with
    | some f, some l => match szOf P f.type with | some n => some ((f.offset, n) :: l) | none => none
    | _, _ => none

def nilOf : Nat → Value
  | 0 => .slice none 0 0
  | 1 => .pointer none
  | _ => .nilFunc

def isNilC : Nat → Operand → Bool
  | 0, .const (.slice none 0 0) | 1, .const (.pointer none) | 2, .const .nilFunc => true
  | _, _ => false

/-- the kinds of the cells of a type that can be compared -/
def tyF (P : Program) (g : TypeId → Option (List Kd)) : List Field → Nat → Option (List Kd)
  | [], _ => some []
  | f :: r, o =>
    if f.offset = o ∧ f.name ≠ "_" then
      match g f.type with
      | some ks => if szOf P f.type = some ks.length then (match tyF P g r (o + ks.length) with | some l => some (ks ++ l) | none => none) else none
      | none => none
    else none

def tyK (P : Program) : Nat → TypeId → Option (List Kd)
  | 0, _ => none
  | d + 1, t =>
    match P.underlying t with
    | some .bool => if szOf P t = some 1 then some [.b] else none
    | some (.int q) => if szOf P t = some 1 then some [.i q] else none
    | some .string => if szOf P t = some 1 then some [.s] else none
    | some (.array n e) =>
      match tyK P d e with
      | some ks => if szOf P e = some ks.length ∧ szOf P t = some (n * ks.length) then some (List.replicate n ks).flatten else none
      | none => none
    | some (.struct fs) =>
      match tyF P (tyK P d) fs.toList 0 with
      | some ks => if P.stoodInHeld t = false ∧ szOf P t = some ks.length then some ks else none
      | none => none
    | _ => none

def zeroAg (P : Program) (t : TypeId) : Option Bool := ((P.info? t).bind (·.zero)).map fun | .agg _ => true | _ => false

def mapOk (P : Program) (k e : TypeId) : Option (Bool × List Kd × Bool × List Value) :=
  match aggOf P k, tyK P 8 k, aggOf P e, zeroOf P e with
  | some ka, some ks, some va, some z => if zeroAg P e = some va then some (ka, ks, va, z) else none
  | _, _, _, _ => none

def compNil (kind : Nat) (neg : Bool) (x y : Operand) : K × List Operand :=
  if isNilC kind y then (.eqNil kind neg, [x]) else if isNilC kind x then (.eqNil kind neg, [y]) else (.bad, [])

def compBin (P : Program) (op : BinOp) (t : TypeId) (x y : Operand) : K × List Operand :=
  match op with
  | .eql | .neq =>
    match P.underlying t with
    | some .bool => (.eqBool (op == .neq), [x, y])
    | some (.int _) | some (.float _) | some .string => (.bin op, [x, y])
    | some (.slice _) => compNil 0 (op == .neq) x y
    | some (.pointer _) => compNil 1 (op == .neq) x y
    | some (.func _ _ _) => compNil 2 (op == .neq) x y
    | some (.struct _) | some (.array _ _) =>
      match tyK P 8 t with
      | some ks => if P.eqGuardType P.depth t = false then (.eqAgg (op == .neq) ks, [x, y]) else (.bad, [])
      | none => (.bad, [])
    | _ => (.bad, [])
  | op => (.bin op, [x, y])

def bytesOk (P : Program) (e : TypeId) : Bool := match P.info? e with | some i => decide (0 < i.bytes) && decide (i.bytes ≤ 16384) | none => false

def compBuiltin (P : Program) (b : Builtin) (args : List Operand) (ts : List TypeId) : K × List Operand :=
  match b, ts with
  | .len, [t] => match P.underlying t with | some .string => (.len true, args) | some (.slice _) => (.len false, args) | _ => (.bad, [])
  | .max, _ => (.minmax true, args)
  | .min, _ => (.minmax false, args)
  | .append, [s, x] =>
    match P.underlying s, P.underlying x with
    | some (.slice e), some (.slice _) => match szOf P e, zeroOf P e with | some (n + 1), some z => if bytesOk P e = true ∧ z.length = n + 1 then (.append (n + 1), args) else (.bad, []) | _, _ => (.bad, [])
    | _, _ => (.bad, [])
  | .copy, [d, _] =>
    match P.underlying d with
    | some (.slice e) => match szOf P e with | some (n + 1) => (.copy (n + 1), args) | _ => (.bad, [])
    | _ => (.bad, [])
  | _, _ => (.bad, [])

def compK (P : Program) (sig : Sig) : Op → K × List Operand
  | .move x | .assign x => (.mv, [x])
  | .pick c a b => (.pick, [c, a, b])
  | .alloc e => match zeroOf P e with | some z => (.alloc z, []) | none => (.bad, [])
  | .box _ x => (.box, [x])
  | .build t parts =>
    match P.underlying t, zeroOf P t with
    | some (.struct fields), some z =>
      match placesOf P fields (parts.toList.map (·.1)) with
      | some pl => if fields.toList.all (fun f => (szOf P f.type).isSome) then (.build z pl, parts.toList.map (·.2)) else (.bad, [])
      | none => (.bad, [])
    | some (.array _ e), some z => match szOf P e with | some n => (.build z (parts.toList.map fun p => (p.1 * n, n)), parts.toList.map (·.2)) | none => (.bad, [])
    | _, _ => (.bad, [])
  | .buildSlice t len parts =>
    match P.underlying t with
    | some (.slice e) =>
      match szOf P e, zeroOf P e with
      | some (n + 1), some z => if len * (n + 1) ≤ 4096 ∧ z.length = n + 1 then (.buildSlice (n + 1) len ((List.range (len * (n + 1))).map fun i => z.getD (i % (n + 1)) undef) (parts.toList.map (·.1)), parts.toList.map (·.2)) else (.bad, [])
      | _, _ => (.bad, [])
    | _ => (.bad, [])
  | .load t a => match aggOf P t, szOf P t with | some g, some n => (.load g n, [a]) | _, _ => (.bad, [])
  | .store t a x => match szOf P t with | some n => (.store n, [a, x]) | none => (.bad, [])
  | .nilCheck x => (.nilCheck, [x])
  | .binOp op t x y _ => compBin P op t x y
  | .unOp op _ x => (.un op, [x])
  | .convert s d x =>
    match P.underlying s, P.underlying d with
    | some (.int _), some (.int k) => (.convInt k, [x])
    | some .string, some .string => (.convSame, [x])
    | _, _ => (.bad, [])
  | .makeFunc (.func f) first captured => if first.isEmpty then (.mkFn f, captured.toList) else (.bad, [])
  | .makeSlice t l c =>
    match P.underlying t with
    | some (.slice e) => match szOf P e, zeroOf P e with | some (n + 1), some z => if z.length = n + 1 ∧ bytesOk P e = true then (.makeSlice z, [l, c]) else (.bad, []) | _, _ => (.bad, [])
    | _ => (.bad, [])
  | .slice t x lo hi none =>
    match P.underlying t with
    | some .string => (.slice true 1 lo.isSome hi.isSome, x :: lo.toList ++ hi.toList)
    | some (.slice e) => match szOf P e with | some n => (.slice false n lo.isSome hi.isSome, x :: lo.toList ++ hi.toList) | none => (.bad, [])
    | _ => (.bad, [])
  | .fieldAddr s x f =>
    match P.underlying s with
    | some (.struct fields) => match fields[f]? with | some fl => (match szOf P fl.type with | some (_ + 1) => (.fieldAddr fl.offset, [x]) | _ => (.bad, [])) | none => (.bad, [])
    | _ => (.bad, [])
  | .field s x f =>
    match P.underlying s with
    | some (.struct fields) => match fields[f]? with | some fl => (match aggOf P fl.type, szOf P fl.type with | some g, some n => (.field g fl.offset n, [x]) | _, _ => (.bad, [])) | none => (.bad, [])
    | _ => (.bad, [])
  | .indexAddr t x i =>
    match P.underlying t with
    | some (.slice e) => match szOf P e with | some n => (.indexAddr none n, [x, i]) | none => (.bad, [])
    | some (.array len e) => match szOf P e with | some n => (.indexAddr (some len) n, [x, i]) | none => (.bad, [])
    | _ => (.bad, [])
  | .index t x i =>
    match P.underlying t with
    | some .string => (.indexStr, [x, i])
    | some (.array len e) => match aggOf P e, szOf P e with | some g, some n => (.index g len n, [x, i]) | _, _ => (.bad, [])
    | _ => (.bad, [])
  | .extract x i => (.extract i, [x])
  | .makeMap t none =>
    match P.underlying t with
    | some (.map k e) => match aggOf P k, aggOf P e with | some ka, some va => (.makeMap ka va, []) | _, _ => (.bad, [])
    | _ => (.bad, [])
  | .lookup t x ix ok =>
    match P.underlying t with
    | some (.map k e) => match mapOk P k e with | some (ka, ks, va, z) => (.lookup ka ks va z ok, [x, ix]) | none => (.bad, [])
    | _ => (.bad, [])
  | .mapEntry t m k =>
    match P.underlying t with
    | some (.map kt e) => match mapOk P kt e with | some (ka, ks, va, z) => (.mapEntry ka ks va z, [m, k]) | none => (.bad, [])
    | _ => (.bad, [])
  | .entryStore t m s x =>
    match P.underlying t with
    | some (.map kt e) => match mapOk P kt e with | some (_, _, va, z) => (.entryStore va z.length, [m, s, x]) | none => (.bad, [])
    | _ => (.bad, [])
  | .call c =>
    match c.callee with
    | .builtin b => compBuiltin P b c.args.toList c.argTypes.toList
    | .value (.func f) => (.call (sig f).1 (sig f).2, .func f :: c.args.toList)
    | .value f => (.call false [], f :: c.args.toList)
    | .invoke _ _ => (.bad, [])
  | _ => (.bad, [])

section
variable {P : Program} {S K : Nat → Prop} {w0 w : World} {Kn : Nat → Prop} {φ : Nat → Loc} {hf : Nat → Option Ob}

/-- what an operation leaves -/
def Done (S K : Nat → Prop) (w0 w : World) (Kn : Nat → Prop) (φ : Nat → Loc) (hf : Nat → Option Ob) (nxt n' : Nat) (v : TV) (u : Upd) (val : Value) (w' : World) : Prop :=
  nxt ≤ n' ∧ ∃ S' φ', Stp S w S' w' ∧ Ren Kn φ (KnU Kn nxt n') φ' ∧ RTV S' w' (KnU Kn nxt n') φ' v val ∧ Inv S' K w0 (KnU Kn nxt n') φ' (updF u hf) w'

theorem RTV.kn {Kn' : Nat → Prop} {c : TV} {v : Value} (h : RTV S w Kn φ c v) (hs : ∀ i, Kn i → Kn' i) : RTV S w Kn' φ c v := h.mono (Stp.refl _ _) ⟨hs, fun _ _ => rfl⟩

theorem Done.pure {n : Nat} {v : TV} {val : Value} (hI : Inv S K w0 Kn φ hf w) (h : RTV S w Kn φ v val) : Done S K w0 w Kn φ hf n n v [] val w :=
  ⟨Nat.le_refl _, S, φ, Stp.refl _ _, ren_knu _ _, h.kn fun _ hi => .inl hi, hI.kn fun _ hi => .inl hi⟩

/-- the run of an operation that calls nothing -/
def Runs (P : Program) (o : Oper) (ρ : Operand → Value) (S K : Nat → Prop) (w0 w : World) (Kn : Nat → Prop) (φ : Nat → Loc) (hf : Nat → Option Ob) (nxt n' : Nat) (v : TV) (u : Upd) : Prop :=
  ∃ nx val w', (execOp ρ o).run P w = .ok nx w' ∧ (nx = .value val ∨ (nx = .skip ∧ val = undef)) ∧ Done S K w0 w Kn φ hf nxt n' v u val w'

theorem cv_sound {v : Value} {tv : TV} (h : cv v = some tv) : RTV S w Kn φ tv v := by
  unfold cv at h
  split at h
  · rename_i cs
    split at h
    · rename_i hp
      obtain rfl := Option.some.inj h
      refine .agg (by simp) fun i x hi => ?_
      rw [List.getElem?_map] at hi
      obtain ⟨y, hy, rfl⟩ := Option.map_eq_some_iff.1 hi
      have hlt : i < cs.size := by simpa using (List.getElem?_eq_some_iff.1 hy).1
      have e : cs.getD i undef = y := by
        rw [Array.getElem?_toList] at hy
        simp [hy]
      rw [e]
      exact .d (.lit (List.all_eq_true.1 hp y (List.mem_of_getElem? hy)))
    · simp at h
  · split at h
    · rename_i hp
      obtain rfl := Option.some.inj h
      exact .c (.d (.lit hp))
    · simp at h

/-- the frame holds what the environment says -/
def Env.ok (S : Nat → Prop) (w : World) (Kn : Nat → Prop) (φ : Nat → Loc) (e : Env) (tmps : Array Value) : Prop := ∀ t x, fnd e t = some x → RTV S w Kn φ x (tmps.getD t undef)

theorem opv_sound {e : Env} {a : Act} (hg : Glob S w) (hE : Env.ok S w Kn φ e a.tmps) {x : Operand} {tv : TV} (h : opv e x = some tv) : RTV S w Kn φ tv (a.eval x) := by
  cases x with
  | tmp t => exact hE t tv h
  | const v => exact cv_sound h
  | global g =>
    obtain ⟨d, hd, rfl⟩ := Option.map_eq_some_iff.1 (show (glb g).map (fun d => TV.c (.d d)) = some tv from h)
    exact .c (.d (hg g d hd))
  | func f =>
    obtain rfl : TV.c (.d (.fn f [])) = tv := by simpa [opv] using h
    exact .c (.d (.fn rfl fun j x hj => by simp at hj))

theorem RTV.lit {v val : Value} (h : RTV S w Kn φ (.c (.d (.lit v))) val) : val = v ∧ plain v = true := by
  cases h with
  | c h => cases h with
    | d h => cases h with
      | lit h => exact ⟨rfl, h⟩

theorem RTV.of_lit {v : Value} (h : plain v = true) : RTV S w Kn φ (lv v) v := .c (.d (.lit h))

/-! ### numbers -/

theorem run_binV {op : BinOp} {t : TypeId} {x y v : Value} (h : binV op x y = some v) : (binOp op t x y).run P w = .ok v w ∧ plain v = true ∧ (∀ a b, (eqGuard op t a b x y).run P w = .ok () w) := by
  have hg : ∀ a b, (match x, y with | .nilIface, .nilIface => False | .agg _, .agg _ => False | _, _ => True) → (eqGuard op t a b x y).run P w = .ok () w := by
    intro a b hxy
    unfold eqGuard
    cases op <;> simp <;> (cases x <;> cases y <;> simp_all)
  unfold binV at h
  split at h
  · rename_i k a k' b
    refine (fun ⟨h1, h2⟩ => ⟨h1, h2, fun a b => hg a b trivial⟩ : (_ ∧ _) → _) ?_
    split at h
    · split at h
      · simp at h
      · rename_i hb
        obtain rfl := Option.some.inj h
        simp [binOp, Op.shift, hb, plain]
    · split at h
      · simp at h
      · rename_i hb
        obtain rfl := Option.some.inj h
        simp [binOp, Op.shift, hb, plain]
    · rename_i op hshl hshr
      split at h
      · rename_i hk
        subst hk
        split at h <;> first
          | (simp at h; done)
          | (split at h
             · simp at h
             · rename_i hb
               obtain rfl := Option.some.inj h
               simp [binOp, Op.intDiv, hb, plain])
          | (obtain rfl := Option.some.inj h
             simp [binOp, Op.intArith, Op.intBits, Op.intCmp, plain])
      · simp at h
  · rename_i k a k' b
    refine (fun ⟨h1, h2⟩ => ⟨h1, h2, fun a b => hg a b trivial⟩ : (_ ∧ _) → _) ?_
    split at h
    · rename_i hk
      subst hk
      split at h <;> first
        | (simp at h; done)
        | (obtain ⟨r, hr, rfl⟩ := Option.map_eq_some_iff.1 h
           simp [binOp, Op.floatArith, hr, plain])
        | (obtain rfl := Option.some.inj h
           simp [binOp, Op.floatCmp, plain])
    · simp at h
  · rename_i x y
    refine (fun ⟨h1, h2⟩ => ⟨h1, h2, fun a b => hg a b trivial⟩ : (_ ∧ _) → _) ?_
    split at h <;> first
      | (simp at h; done)
      | (split at h
         · simp at h
         · rename_i hb
           obtain rfl := Option.some.inj h
           refine ⟨?_, rfl⟩
           simp only [binOp, Op.stringOp, if_neg hb, Sem.run_pure])
      | (obtain rfl := Option.some.inj h
         simp [binOp, Op.stringOp, plain])
  · simp at h

theorem run_unV {op : UnOp} {x v : Value} (h : unV op x = some v) : (Op.unary op x).run P w = .ok v w ∧ plain v = true := by
  unfold unV at h
  split at h
  · split at h
    · obtain rfl := Option.some.inj h
      simp [Op.unary, plain]
    · simp at h
  · split at h
    · obtain rfl := Option.some.inj h
      simp [Op.unary, Op.intArith, plain]
    · obtain rfl := Option.some.inj h
      simp [Op.unary, Op.intBits, plain]
    · simp at h
  · split at h
    · obtain rfl := Option.some.inj h
      simp [Op.unary, plain]
    · simp at h
  · simp at h

end
end Go.Ev
