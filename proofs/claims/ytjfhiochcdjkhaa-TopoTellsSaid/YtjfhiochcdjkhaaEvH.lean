/- The model's operations, one by one, against the abstract machine's: what each leaves. Conditions: the relation of XEvC. -/
import Derived.Test.YtjfhiochcdjkhaaEvG
namespace Go.Ev

section
variable {P : Program} {S K : Nat → Prop} {w0 w : World} {Kn : Nat → Prop} {φ : Nat → Loc} {H : Heap} {e : Env} {ρ : Operand → Value} {o : Oper} {call : Call}
  {nxt n' : Nat} {v : TV} {u : Upd} {ids : List Nat}

theorem knu_succ (j : Nat) : (Kn j ∨ j = nxt) ↔ KnU Kn nxt (nxt + 1) j := by
  unfold KnU; constructor
  · rintro (h | rfl)
    · exact .inl h
    · exact .inr (by omega)
  · rintro (h | h)
    · exact .inl h
    · exact .inr (by omega)

theorem new_not (hI : Inv S K w0 Kn φ (look H) w) : ¬ S w.heap.size ∧ ¬ K w.heap.size :=
  ⟨fun h => Nat.lt_irrefl _ (hI.slt _ h), fun h => by have := hI.frm.klt _ h; have := hI.frm.grow; omega⟩

/-- a new block, read as a box -/
theorem Done.box {hf : Nat → Option Ob} (hI : Inv S K w0 Kn φ (look H) w) (hh : hf = look H) (hn : ¬ Kn nxt) {cs : List C} {arr : Array Value} (t : TypeId) (hlen : cs.length = arr.size)
    (h : ∀ (i : Nat) (x : C), cs[i]? = some x → RC S w Kn φ x (arr.getD i undef)) :
    Done S K w0 w Kn φ hf nxt (nxt + 1) (.c (.op nxt 0)) [(nxt, some (.box cs))] (.pointer (some ⟨w.heap.size, 0, none⟩)) { w with heap := w.heap.push (.cells arr t) } := by
  subst hh
  obtain ⟨nS, nK⟩ := new_not hI
  have hs := Stp.push (w := w) hI.slt (.cells arr t)
  refine ⟨Nat.le_succ _, S, _, hs, ⟨fun _ h => .inl h, (ren_ext _ hn).same⟩, .c ?_, (hI.alloc hn arr t 1 (.box cs) (.box rfl nS nK (own_push w arr t) hlen fun i x hi =>
    (h i x hi).mono hs (ren_ext _ hn))).knEq fun j => knu_succ j⟩
  have := RC.op (S := S) (w := { w with heap := w.heap.push (.cells arr t) }) (Kn := KnU Kn nxt (nxt + 1)) (φ := ext φ nxt ⟨w.heap.size, 0, 1, arr.size⟩) (id := nxt) (off := 0) (.inr (by omega))
  simpa [ext] using this

/-- a new block, read as an array -/
theorem Done.arr {hf : Nat → Option Ob} (hI : Inv S K w0 Kn φ hf w) (hn : ¬ Kn nxt) {sz cap : Nat} {rows : List (List D)} {arr : Array Value} (t : TypeId) (hsz : 0 < sz)
    (hcap : rows.length ≤ cap) (hfit : cap * sz ≤ arr.size) (h : RowsAt S w sz (fun i => arr[i]?) 0 rows) :
    Done S K w0 w Kn φ hf nxt (nxt + 1) (.c (.osl sz nxt 0 rows.length)) [(nxt, some (.arr sz rows))] (.slice (some ⟨w.heap.size, 0, none⟩) rows.length cap) { w with heap := w.heap.push (.cells arr t) } := by
  have nS : ¬ S w.heap.size := fun h => Nat.lt_irrefl _ (hI.slt _ h)
  have nK : ¬ K w.heap.size := fun h => by have := hI.frm.klt _ h; have := hI.frm.grow; omega
  have hs := Stp.push (w := w) hI.slt (.cells arr t)
  have hrl : rows.length * sz ≤ cap * sz := Nat.mul_le_mul_right _ hcap
  refine ⟨Nat.le_succ _, S, _, hs, ⟨fun _ h => .inl h, (ren_ext _ hn).same⟩, .c ?_, (hI.alloc hn arr t sz (.arr sz rows) (.arr hsz rfl nS nK (own_push w arr t) rfl (by simp only; omega) (h.mono hs))).knEq fun j => knu_succ j⟩
  have e : ext φ nxt ⟨w.heap.size, 0, sz, arr.size⟩ nxt = ⟨w.heap.size, 0, sz, arr.size⟩ := by simp [ext]
  have := RC.osl (S := S) (w := { w with heap := w.heap.push (.cells arr t) }) (Kn := KnU Kn nxt (nxt + 1)) (φ := ext φ nxt ⟨w.heap.size, 0, sz, arr.size⟩) (id := nxt) (off := 0) (len := rows.length) (cap := cap) (addr := 0)
    (.inr (by omega)) hcap (by rw [e]; simp) (by rw [e]; simpa using hfit)
  rw [e] at this
  simpa using this

theorem run_newVar (t : TypeId) (val : Value) : (newVar t val).run P w = .ok ⟨w.heap.size, 0, none⟩ { w with heap := w.heap.push (.cells val.cells t) } := by
  simp [newVar, newRow, newObj, Sem.run]

theorem lits_get {z : List Value} {arr : Array Value} (hz : arr.toList = z) (hp : ∀ x ∈ z, plain x = true) : (lits z).length = arr.size ∧ ∀ (i : Nat) (x : C), (lits z)[i]? = some x → RC S w Kn φ x (arr.getD i undef) := by
  subst hz
  refine ⟨by simp [lits], fun i x hi => ?_⟩
  simp only [lits, List.getElem?_map] at hi
  obtain ⟨y, hy, rfl⟩ := Option.map_eq_some_iff.1 hi
  have e : arr.getD i undef = y := by
    rw [Array.getElem?_toList] at hy
    simp [hy]
  rw [e]
  exact .d (.lit (hp y (List.mem_of_getElem? hy)))

theorem op_alloc {t : TypeId} {z : List Value} (ho : o.op = .alloc t) (hz : zeroOf P t = some z) (hI : Inv S K w0 Kn φ (look H) w) (hn0 : nxt < n' → ¬ Kn nxt)
    (h : ev1 call (.alloc z) [] H nxt = some (v, u, ids, n')) : Runs P o ρ S K w0 w Kn φ (look H) nxt n' v u := by
  obtain ⟨rfl, rfl, rfl, rfl⟩ : TV.c (.op nxt 0) = v ∧ [(nxt, some (.box (lits z)))] = u ∧ [] = ids ∧ nxt + 1 = n' := by simpa [ev1] using h
  have hn := hn0 (Nat.lt_succ_self _)
  obtain ⟨val, hv, hc, hp⟩ := run_zero hz w
  obtain ⟨h1, h2⟩ := lits_get (S := S) (w := w) (Kn := Kn) (φ := φ) hc hp
  refine ⟨.value _, _, _, ?_, .inl rfl, Done.box hI rfl hn t h1 h2⟩
  simp [execOp, ho, Instr.alloc, hv, run_newVar]

theorem op_box {t : TypeId} {x : Operand} (ho : o.op = .box t x) (hI : Inv S K w0 Kn φ (look H) w) (hn0 : nxt < n' → ¬ Kn nxt) {tv : Option TV} (hx : ∀ y, tv = some y → RTV S w Kn φ y (ρ x))
    (h : ev1 call .box [tv] H nxt = some (v, u, ids, n')) : Runs P o ρ S K w0 w Kn φ (look H) nxt n' v u := by
  cases tv with
  | none => simp [ev1] at h
  | some y =>
    simp only [ev1] at h
    split at h
    · rename_i cs hcs
      obtain ⟨rfl, rfl, rfl, rfl⟩ : TV.c (.op nxt 0) = v ∧ [(nxt, some (.box cs))] = u ∧ [] = ids ∧ nxt + 1 = n' := by simpa using h
      have hn := hn0 (Nat.lt_succ_self _)
      obtain ⟨h1, h2, _⟩ := (hx y rfl).cells hcs
      refine ⟨.value _, _, _, ?_, .inl rfl, Done.box hI rfl hn t h1 h2⟩
      simp [execOp, ho, Instr.box, run_newVar]
    · simp at h

theorem op_load {t : TypeId} {x : Operand} {agg : Bool} {n : Nat} (ho : o.op = .load t x) (ha : aggOf P t = some agg) (hs : szOf P t = some n) (hI : Inv S K w0 Kn φ (look H) w)
    {tv : Option TV} (hx : ∀ y, tv = some y → RTV S w Kn φ y (ρ x)) (h : ev1 call (.load agg n) [tv] H nxt = some (v, u, ids, n')) : Runs P o ρ S K w0 w Kn φ (look H) nxt n' v u := by
  cases tv with
  | none => simp [ev1] at h
  | some y =>
    cases y with
    | c p =>
      change (match evLoad agg n p H with | some (v, ids) => some (v, [], ids, nxt) | none => none) = _ at h
      split at h
      · rename_i v' ids' hl
        obtain ⟨rfl, rfl, rfl, rfl⟩ : v' = v ∧ [] = u ∧ ids' = ids ∧ nxt = n' := by simpa using h
        cases hx _ rfl with
        | c hp =>
          obtain ⟨val, h1, h2⟩ := run_evLoad ha hs hI hp hl
          refine ⟨.value _, _, _, ?_, .inl rfl, Done.pure hI h2⟩
          simp [execOp, ho, h1]
      · simp at h
    | _ => simp [ev1] at h

/-! ### operations that look at no memory -/

/-- a value alone -/
theorem Runs.pure {val : Value} (hI : Inv S K w0 Kn φ (look H) w) (hr : (execOp ρ o).run P w = .ok (.value val) w) (h : RTV S w Kn φ v val) : Runs P o ρ S K w0 w Kn φ (look H) nxt nxt v [] :=
  ⟨.value val, val, w, hr, .inl rfl, Done.pure hI h⟩

theorem op_mv {x : Operand} (ho : o.op = .move x ∨ o.op = .assign x) (hI : Inv S K w0 Kn φ (look H) w) {tv : Option TV} (hx : ∀ y, tv = some y → RTV S w Kn φ y (ρ x))
    (h : ev1 call .mv [tv] H nxt = some (v, u, ids, n')) : Runs P o ρ S K w0 w Kn φ (look H) nxt n' v u := by
  cases tv with
  | none => simp [ev1] at h
  | some y =>
    obtain ⟨rfl, rfl, rfl, rfl⟩ : y = v ∧ [] = u ∧ [] = ids ∧ nxt = n' := by simpa [ev1] using h
    refine Runs.pure hI ?_ (hx _ rfl)
    rcases ho with ho | ho <;> simp [execOp, ho]

theorem op_pick {c x y : Operand} (ho : o.op = .pick c x y) (hI : Inv S K w0 Kn φ (look H) w) {tc tx ty : Option TV} (hc : ∀ z, tc = some z → RTV S w Kn φ z (ρ c))
    (hx : ∀ z, tx = some z → RTV S w Kn φ z (ρ x)) (hy : ∀ z, ty = some z → RTV S w Kn φ z (ρ y))
    (h : ev1 call .pick [tc, tx, ty] H nxt = some (v, u, ids, n')) : Runs P o ρ S K w0 w Kn φ (look H) nxt n' v u := by
  match tc, h, hc with
  | some (.c (.d (.lit (.bool b)))), h, hc =>
    change (match (if b then tx else ty) with | some v => some (v, [], [], nxt) | none => none) = _ at h
    obtain ⟨hb, _⟩ := (hc _ rfl).lit
    cases b
    · simp only [Bool.false_eq_true, if_false] at h
      cases ty with
      | none => simp at h
      | some z =>
        obtain ⟨rfl, rfl, rfl, rfl⟩ : z = v ∧ [] = u ∧ [] = ids ∧ nxt = n' := by simpa using h
        exact Runs.pure hI (by simp [execOp, ho, hb, asBool]) (hy _ rfl)
    · simp only [if_true] at h
      cases tx with
      | none => simp at h
      | some z =>
        obtain ⟨rfl, rfl, rfl, rfl⟩ : z = v ∧ [] = u ∧ [] = ids ∧ nxt = n' := by simpa using h
        exact Runs.pure hI (by simp [execOp, ho, hb, asBool]) (hx _ rfl)

theorem op_nilCheck {x : Operand} (ho : o.op = .nilCheck x) (hI : Inv S K w0 Kn φ (look H) w) {tv : Option TV} (hx : ∀ y, tv = some y → RTV S w Kn φ y (ρ x))
    (h : ev1 call .nilCheck [tv] H nxt = some (v, u, ids, n')) : Runs P o ρ S K w0 w Kn φ (look H) nxt n' v u := by
  match tv, h, hx with
  | some (.c c), h, hx =>
    have key : (∃ a, ρ x = .pointer (some a)) ∨ (∃ g vs, ρ x = .func (.func g) #[] vs) → some (TV.c c, ([] : Upd), ([] : List Nat), nxt) = some (v, u, ids, n') → Runs P o ρ S K w0 w Kn φ (look H) nxt n' v u := by
      intro hc h
      obtain ⟨rfl, rfl, rfl, rfl⟩ : TV.c c = v ∧ [] = u ∧ [] = ids ∧ nxt = n' := by simpa using h
      refine Runs.pure hI ?_ (hx _ rfl)
      rcases hc with ⟨a, hc⟩ | ⟨g, vs, hc⟩ <;> simp [execOp, ho, hc]
    have hr := hx _ rfl
    generalize hv0 : ρ x = val at hr
    cases hr with
    | c hr =>
      cases hr with
      | d hd =>
        cases hd with
        | lit hp => simp [ev1] at h
        | sl => simp [ev1] at h
        | sl0 => simp [ev1] at h
        | pt f hb => exact key (.inl ⟨_, hv0⟩) h
        | fn hl hr => exact key (.inr ⟨_, _, hv0⟩) h
      | osl => simp [ev1] at h
      | ep hk => exact key (.inl ⟨_, hv0⟩) h
      | op hk => exact key (.inl ⟨_, hv0⟩) h
      | ofn hl hr => exact key (.inr ⟨_, _, hv0⟩) h
      | om hk => simp [ev1] at h

theorem op_un {t : TypeId} {op : UnOp} {x : Operand} (ho : o.op = .unOp op t x) (hI : Inv S K w0 Kn φ (look H) w) {tv : Option TV} (hx : ∀ y, tv = some y → RTV S w Kn φ y (ρ x))
    (h : ev1 call (.un op) [tv] H nxt = some (v, u, ids, n')) : Runs P o ρ S K w0 w Kn φ (look H) nxt n' v u := by
  match tv, h, hx with
  | some (.c (.d (.lit z))), h, hx =>
    change (match unV op z with | some v => some (lv v, [], [], nxt) | none => none) = _ at h
    split at h
    · rename_i r hr
      obtain ⟨rfl, rfl, rfl, rfl⟩ : lv r = v ∧ [] = u ∧ [] = ids ∧ nxt = n' := by simpa using h
      obtain ⟨hb, _⟩ := (hx _ rfl).lit
      obtain ⟨h1, h2⟩ := run_unV (P := P) (w := w) hr
      exact Runs.pure hI (by simp [execOp, ho, hb, h1]) (.of_lit h2)
    · simp at h

theorem op_bin {t ty : TypeId} {op : BinOp} {x y : Operand} (ho : o.op = .binOp op t x y ty) (hI : Inv S K w0 Kn φ (look H) w) {tx tz : Option TV} (hx : ∀ z, tx = some z → RTV S w Kn φ z (ρ x))
    (hy : ∀ z, tz = some z → RTV S w Kn φ z (ρ y)) (h : ev1 call (.bin op) [tx, tz] H nxt = some (v, u, ids, n')) : Runs P o ρ S K w0 w Kn φ (look H) nxt n' v u := by
  match tx, tz, h, hx, hy with
  | some (.c (.d (.lit a))), some (.c (.d (.lit b))), h, hx, hy =>
    change (match binV op a b with | some v => some (lv v, [], [], nxt) | none => none) = _ at h
    split at h
    · rename_i r hr
      obtain ⟨rfl, rfl, rfl, rfl⟩ : lv r = v ∧ [] = u ∧ [] = ids ∧ nxt = n' := by simpa using h
      obtain ⟨ha, _⟩ := (hx _ rfl).lit
      obtain ⟨hb, _⟩ := (hy _ rfl).lit
      obtain ⟨h1, h2, h3⟩ := run_binV (P := P) (w := w) (t := t) hr
      exact Runs.pure hI (by simp [execOp, ho, ha, hb, h1, h3]) (.of_lit h2)
    · simp at h

theorem run_eqBool {t : TypeId} (hu : P.underlying t = some .bool) (a b : Bool) : (Op.equal t (.bool a) (.bool b)).run P w = .ok (a == b) w := by
  show (Op.equalIn (9999 + 1) t (.bool a) (.bool b)).run P w = _
  unfold Op.equalIn
  rw [Sem.run_bind, run_und hu]
  rfl

theorem op_eqBool {t ty : TypeId} {op : BinOp} {x y : Operand} (ho : o.op = .binOp op t x y ty) (hop : op = .eql ∨ op = .neq) (hu : P.underlying t = some .bool) (hI : Inv S K w0 Kn φ (look H) w)
    {tx tz : Option TV} (hx : ∀ z, tx = some z → RTV S w Kn φ z (ρ x)) (hy : ∀ z, tz = some z → RTV S w Kn φ z (ρ y))
    (h : ev1 call (.eqBool (op == .neq)) [tx, tz] H nxt = some (v, u, ids, n')) : Runs P o ρ S K w0 w Kn φ (look H) nxt n' v u := by
  match tx, tz, h, hx, hy with
  | some (.c (.d (.lit (.bool a)))), some (.c (.d (.lit (.bool b)))), h, hx, hy =>
    obtain ⟨ha, _⟩ := (hx _ rfl).lit
    obtain ⟨hb, _⟩ := (hy _ rfl).lit
    change some (lv (.bool (if (op == .neq) then !(a == b) else a == b)), ([] : Upd), ([] : List Nat), nxt) = _ at h
    obtain ⟨rfl, rfl, rfl, rfl⟩ : lv (.bool (if (op == .neq) then !(a == b) else a == b)) = v ∧ [] = u ∧ [] = ids ∧ nxt = n' := by simpa using h
    refine Runs.pure hI ?_ (.of_lit rfl)
    rcases hop with rfl | rfl
    · simp [execOp, ho, ha, hb, eqGuard, binOp, run_eqBool hu]
    · simp [execOp, ho, ha, hb, eqGuard, binOp, run_eqBool hu]

theorem op_convInt {s d : TypeId} {k k' : IntKind} {x : Operand} (ho : o.op = .convert s d x) (hs : P.underlying s = some (.int k')) (hd : P.underlying d = some (.int k)) (hI : Inv S K w0 Kn φ (look H) w)
    {tv : Option TV} (hx : ∀ y, tv = some y → RTV S w Kn φ y (ρ x)) (h : ev1 call (.convInt k) [tv] H nxt = some (v, u, ids, n')) : Runs P o ρ S K w0 w Kn φ (look H) nxt n' v u := by
  match tv, h, hx with
  | some (.c (.d (.lit (.int k0 n)))), h, hx =>
    obtain ⟨ha, _⟩ := (hx _ rfl).lit
    obtain ⟨rfl, rfl, rfl, rfl⟩ : lv (.int k (k.wrap n)) = v ∧ [] = u ∧ [] = ids ∧ nxt = n' := by simpa [ev1] using h
    exact Runs.pure hI (by simp [execOp, ho, ha, convert, run_und hs, run_und hd, Conv.intToInt]) (.of_lit rfl)

theorem op_convSame {s d : TypeId} {x : Operand} (ho : o.op = .convert s d x) (hs : P.underlying s = some .string) (hd : P.underlying d = some .string) (hI : Inv S K w0 Kn φ (look H) w)
    {tv : Option TV} (hx : ∀ y, tv = some y → RTV S w Kn φ y (ρ x)) (h : ev1 call .convSame [tv] H nxt = some (v, u, ids, n')) : Runs P o ρ S K w0 w Kn φ (look H) nxt n' v u := by
  match tv, h, hx with
  | some (.c (.d (.lit (.string s0)))), h, hx =>
    obtain ⟨ha, _⟩ := (hx _ rfl).lit
    obtain ⟨rfl, rfl, rfl, rfl⟩ : lv (.string s0) = v ∧ [] = u ∧ [] = ids ∧ nxt = n' := by simpa [ev1] using h
    exact Runs.pure hI (by simp [execOp, ho, ha, convert, run_und hs, run_und hd]) (.of_lit rfl)

theorem op_extract {x : Operand} {i : Nat} (ho : o.op = .extract x i) (hI : Inv S K w0 Kn φ (look H) w) {tv : Option TV} (hx : ∀ y, tv = some y → RTV S w Kn φ y (ρ x))
    (h : ev1 call (.extract i) [tv] H nxt = some (v, u, ids, n')) : Runs P o ρ S K w0 w Kn φ (look H) nxt n' v u := by
  match tv, h, hx with
  | some (.tup xs), h, hx =>
    change (match xs[i]? with | some v => some (v, [], [], nxt) | none => none) = _ at h
    split at h
    · rename_i y hy
      obtain ⟨rfl, rfl, rfl, rfl⟩ : y = v ∧ [] = u ∧ [] = ids ∧ nxt = n' := by simpa using h
      have hr := hx _ rfl
      generalize hv0 : ρ x = val at hr
      cases hr with
      | @tup _ arr hlen hr =>
        have hlt : i < arr.size := by rw [← hlen]; exact (List.getElem?_eq_some_iff.1 hy).1
        refine Runs.pure (val := arr.getD i undef) hI ?_ (hr i y hy)
        simp [execOp, ho, hv0, Instr.extract, hlt]
    · simp at h

theorem op_fieldAddr {s : TypeId} {f n : Nat} {fields : Array Field} {fl : Field} {x : Operand} (ho : o.op = .fieldAddr s x f) (hu : P.underlying s = some (.struct fields)) (hf : fields[f]? = some fl)
    (hs : szOf P fl.type = some (n + 1)) (hI : Inv S K w0 Kn φ (look H) w) {tv : Option TV} (hx : ∀ y, tv = some y → RTV S w Kn φ y (ρ x))
    (h : ev1 call (.fieldAddr fl.offset) [tv] H nxt = some (v, u, ids, n')) : Runs P o ρ S K w0 w Kn φ (look H) nxt n' v u := by
  match tv, h, hx with
  | some (.c c), h, hx =>
    change (match evFieldAddr fl.offset c with | some y => some (TV.c y, [], [], nxt) | none => none) = _ at h
    split at h
    · rename_i y hy
      obtain ⟨rfl, rfl, rfl, rfl⟩ : TV.c y = v ∧ [] = u ∧ [] = ids ∧ nxt = n' := by simpa using h
      have run : ∀ b off, ρ x = .pointer (some ⟨b, off, none⟩) → (execOp ρ o).run P w = .ok (.value (.pointer (some ⟨b, off + fl.offset, none⟩))) w := by
        intro b off hv
        simp [execOp, ho, hv, Instr.fieldAt, run_und hu, hf, Instr.sureAddr, fieldPlace, run_sz hs, add_eq]
      have hr := hx _ rfl
      generalize hv0 : ρ x = val at hr
      cases hr with
      | c hr =>
        cases hr with
        | d hd =>
          cases hd with
          | @pt cells b off g hb hcell hrd =>
            simp only [evFieldAddr] at hy
            split at hy
            · obtain rfl := Option.some.inj hy
              refine Runs.pure hI (run _ _ hv0) (.c (.d (.pt_of hb fun j z hj => ?_)))
              rw [List.getElem?_drop] at hj
              exact ⟨_, by rw [Nat.add_assoc]; exact hcell _ _ hj, hrd _ _ hj⟩
            · simp at hy
          | _ => simp [evFieldAddr] at hy
        | @op id off hk =>
          obtain rfl : C.op id (off + fl.offset) = y := by simpa [evFieldAddr] using hy
          refine Runs.pure hI (run _ _ hv0) (.c ?_)
          rw [Nat.add_assoc]; exact .op hk
        | @ep id row off hk =>
          obtain rfl : C.ep id row (off + fl.offset) = y := by simpa [evFieldAddr] using hy
          refine Runs.pure hI (run _ _ hv0) (.c ?_)
          rw [Nat.add_assoc]; exact .ep hk
        | _ => simp [evFieldAddr] at hy
    · simp at h

theorem op_len {str : Bool} {t : TypeId} {x : Operand} {c : Go.Call} (ho : o.op = .call c) (hcal : c.callee = .builtin .len) (hargs : c.args = #[x]) (hts : c.argTypes = #[t])
    (hu : if str then P.underlying t = some .string else ∃ b, P.underlying t = some (.slice b)) (hI : Inv S K w0 Kn φ (look H) w) {tv : Option TV} (hx : ∀ y, tv = some y → RTV S w Kn φ y (ρ x))
    (h : ev1 call (.len str) [tv] H nxt = some (v, u, ids, n')) : Runs P o ρ S K w0 w Kn φ (look H) nxt n' v u := by
  match tv, h, hx with
  | some (.c y), h, hx =>
    change (match evLen str y with | some n => some (lv (.int .i64 n), [], [], nxt) | none => none) = _ at h
    split at h
    · rename_i n hn
      obtain ⟨rfl, rfl, rfl, rfl⟩ : lv (.int .i64 n) = v ∧ [] = u ∧ [] = ids ∧ nxt = n' := by simpa using h
      refine Runs.pure hI ?_ (.of_lit rfl)
      have hr := hx _ rfl
      generalize hv0 : ρ x = val at hr
      cases str with
      | true =>
        simp only [if_true] at hu
        match y, hn, hr with
        | .d (.lit (.string s)), hn, hr =>
          obtain ⟨rfl, _⟩ := hr.lit
          obtain rfl : (s.size : Int) = n := by simpa [evLen] using hn
          simp [execOp, ho, hcal, hargs, hts, resolve, invoke, builtin, hv0, Builtin.len_, run_und hu, goInt]
      | false =>
        simp only [Bool.false_eq_true, if_false] at hu
        obtain ⟨b, hu⟩ := hu
        have hsl : ∀ a l k, val = .slice a l k → n = (l : Int) → (execOp ρ o).run P w = .ok (.value (.int .i64 n)) w := by
          intro a l k e1 e2
          simp [execOp, ho, hcal, hargs, hts, resolve, invoke, builtin, hv0, e1, e2, Builtin.len_, run_und hu, goInt]
        match y, hn, hr with
        | .d (.lit (.slice none 0 0)), hn, hr =>
          obtain ⟨rfl, _⟩ := hr.lit
          exact hsl _ _ _ rfl (by simpa [evLen] using hn.symm)
        | .d (.sl sz rows), hn, hr =>
          cases hr with
          | c hr => cases hr with
            | d hd => cases hd with
              | sl => exact hsl _ _ _ rfl (by simpa [evLen] using hn.symm)
              | sl0 => exact hsl _ _ _ rfl (by simpa [evLen] using hn.symm)
        | .osl sz id off len, hn, hr =>
          cases hr with
          | c hr => cases hr with
            | osl => exact hsl _ _ _ rfl (by simpa [evLen] using hn.symm)
    · simp at h

/-- a comparison that goes by 'equal' -/
theorem run_cmp {op : BinOp} (hop : op = .eql ∨ op = .neq) {t : TypeId} {x y : Value} {b : Bool} (a c : Operand)
    (h1 : binOp .eql t x y = (do pure (.bool (← Op.equal t x y)))) (h2 : binOp .neq t x y = (do pure (.bool (!(← Op.equal t x y)))))
    (hg : (eqGuard op t a c x y).run P w = .ok () w) (he : (Op.equal t x y).run P w = .ok b w) :
    ((do eqGuard op t a c x y; binOp op t x y) : Sem Value).run P w = .ok (.bool (if op == .neq then !b else b)) w := by
  rcases hop with rfl | rfl
  · rw [Sem.run_bind, hg, Result.andThen_ok, h1, Sem.run_bind, he]; rfl
  · rw [Sem.run_bind, hg, Result.andThen_ok, h2, Sem.run_bind, he]; rfl

theorem guard_ok {op : BinOp} {t : TypeId} (a c : Operand) {x y : Value} (h : match x, y with | .nilIface, .nilIface => False | .agg _, .agg _ => False | _, _ => True) :
    (eqGuard op t a c x y).run P w = .ok () w := by
  unfold eqGuard
  cases op <;> simp <;> (cases x <;> cases y <;> simp_all)

theorem equal_eq (t : TypeId) (x y : Value) : Op.equal t x y = Op.equalIn (9999 + 1) t x y := rfl

/-- the kinds of types that nil has -/
def nilTy (P : Program) (t : TypeId) : Nat → Prop
  | 0 => ∃ x, P.underlying t = some (.slice x)
  | 1 => ∃ x, P.underlying t = some (.pointer x)
  | 2 => ∃ a b c, P.underlying t = some (.func a b c)
  | _ => False

theorem run_eqNil {op : BinOp} (hop : op = .eql ∨ op = .neq) {kind : Nat} {t : TypeId} {y : C} {val : Value} {b : Bool} (a c : Operand) (hu : nilTy P t kind)
    (hr : RTV S w Kn φ (.c y) val) (hn : evNil kind y = some b) :
    ((do eqGuard op t a c val (nilOf kind); binOp op t val (nilOf kind)) : Sem Value).run P w = .ok (.bool (if op == .neq then !b else b)) w ∧
    ((do eqGuard op t a c (nilOf kind) val; binOp op t (nilOf kind) val) : Sem Value).run P w = .ok (.bool (if op == .neq then !b else b)) w := by
  have hsl : (∃ x, P.underlying t = some (.slice x)) → ∀ q l k, kind = 0 → val = .slice q l k → b = q.isNone →
      ((do eqGuard op t a c val (nilOf kind); binOp op t val (nilOf kind)) : Sem Value).run P w = .ok (.bool (if op == .neq then !b else b)) w ∧
      ((do eqGuard op t a c (nilOf kind) val; binOp op t (nilOf kind) val) : Sem Value).run P w = .ok (.bool (if op == .neq then !b else b)) w := by
    rintro ⟨x, hu'⟩ q l k rfl rfl rfl
    refine ⟨run_cmp hop a c rfl rfl (guard_ok a c trivial) ?_, run_cmp hop a c rfl rfl (guard_ok a c trivial) ?_⟩
    all_goals
      rw [equal_eq]; unfold Op.equalIn
      rw [Sem.run_bind, run_und hu']
      cases q <;> rfl
  have hpt : (∃ x, P.underlying t = some (.pointer x)) → ∀ q, kind = 1 → val = .pointer q → b = q.isNone →
      ((do eqGuard op t a c val (nilOf kind); binOp op t val (nilOf kind)) : Sem Value).run P w = .ok (.bool (if op == .neq then !b else b)) w ∧
      ((do eqGuard op t a c (nilOf kind) val; binOp op t (nilOf kind) val) : Sem Value).run P w = .ok (.bool (if op == .neq then !b else b)) w := by
    rintro ⟨x, hu'⟩ q rfl rfl rfl
    refine ⟨run_cmp hop a c ?_ ?_ (guard_ok a c trivial) ?_, run_cmp hop a c ?_ ?_ (guard_ok a c trivial) ?_⟩
    · cases q <;> rfl
    · cases q <;> rfl
    · rw [equal_eq]; unfold Op.equalIn
      rw [Sem.run_bind, run_und hu']
      cases q <;> rfl
    · cases q <;> rfl
    · cases q <;> rfl
    · rw [equal_eq]; unfold Op.equalIn
      rw [Sem.run_bind, run_und hu']
      cases q <;> rfl
  have hfn : (∃ x y z, P.underlying t = some (.func x y z)) → kind = 2 → ((val = .nilFunc ∧ b = true) ∨ ((∃ f p q, val = .func f p q) ∧ b = false)) →
      ((do eqGuard op t a c val (nilOf kind); binOp op t val (nilOf kind)) : Sem Value).run P w = .ok (.bool (if op == .neq then !b else b)) w ∧
      ((do eqGuard op t a c (nilOf kind) val; binOp op t (nilOf kind) val) : Sem Value).run P w = .ok (.bool (if op == .neq then !b else b)) w := by
    rintro ⟨x, y, z, hu'⟩ rfl (⟨rfl, rfl⟩ | ⟨⟨f, p, q, rfl⟩, rfl⟩)
    all_goals
      refine ⟨run_cmp hop a c rfl rfl (guard_ok a c trivial) ?_, run_cmp hop a c rfl rfl (guard_ok a c trivial) ?_⟩
      all_goals
        rw [equal_eq]; unfold Op.equalIn
        rw [Sem.run_bind, run_und hu']
        rfl
  cases hr with
  | c hr =>
    match kind, y, hn, hr, hu with
    | 0, .d (.lit (.slice none 0 0)), hn, hr, hu =>
      cases hr with | d hd => cases hd with | lit hp => exact hsl hu _ _ _ rfl rfl (by simpa [evNil] using hn.symm)
    | 0, .d (.sl _ _), hn, hr, hu => cases hr with | d hd => cases hd with | sl => exact hsl hu _ _ _ rfl rfl (by simpa [evNil] using hn.symm) | sl0 => exact hsl hu _ _ _ rfl rfl (by simpa [evNil] using hn.symm)
    | 0, .osl _ _ _ _, hn, hr, hu => cases hr with | osl => exact hsl hu _ _ _ rfl rfl (by simpa [evNil] using hn.symm)
    | 1, .d (.lit (.pointer none)), hn, hr, hu =>
      cases hr with | d hd => cases hd with | lit hp => exact hpt hu _ rfl rfl (by simpa [evNil] using hn.symm)
    | 1, .d (.pt _), hn, hr, hu => cases hr with | d hd => cases hd with | pt => exact hpt hu _ rfl rfl (by simpa [evNil] using hn.symm)
    | 1, .ep _ _ _, hn, hr, hu => cases hr with | ep => exact hpt hu _ rfl rfl (by simpa [evNil] using hn.symm)
    | 1, .op _ _, hn, hr, hu => cases hr with | op => exact hpt hu _ rfl rfl (by simpa [evNil] using hn.symm)
    | 2, .d (.lit .nilFunc), hn, hr, hu =>
      cases hr with | d hd => cases hd with | lit hp => exact hfn hu rfl (.inl ⟨rfl, by simpa [evNil] using hn.symm⟩)
    | 2, .d (.fn _ _), hn, hr, hu => cases hr with | d hd => cases hd with | fn => exact hfn hu rfl (.inr ⟨⟨_, _, _, rfl⟩, by simpa [evNil] using hn.symm⟩)
    | 2, .ofn _ _, hn, hr, hu => cases hr with | ofn => exact hfn hu rfl (.inr ⟨⟨_, _, _, rfl⟩, by simpa [evNil] using hn.symm⟩)

theorem isNilC_eval {kind : Nat} {x : Operand} (h : isNilC kind x = true) : x = .const (nilOf kind) := by
  unfold isNilC at h
  split at h <;> first | rfl | simp at h

theorem op_eqNil {t ty : TypeId} {op : BinOp} {x y z : Operand} {kind : Nat} (ho : o.op = .binOp op t x y ty) (hop : op = .eql ∨ op = .neq) (hu : nilTy P t kind) (hI : Inv S K w0 Kn φ (look H) w)
    (hc : ∀ v, ρ (.const v) = v) (hz : (z = x ∧ isNilC kind y = true) ∨ (z = y ∧ isNilC kind x = true)) {tv : Option TV} (hx : ∀ y, tv = some y → RTV S w Kn φ y (ρ z))
    (h : ev1 call (.eqNil kind (op == .neq)) [tv] H nxt = some (v, u, ids, n')) : Runs P o ρ S K w0 w Kn φ (look H) nxt n' v u := by
  match tv, h, hx with
  | some (.c c), h, hx =>
    change (match evNil kind c with | some b => some (lv (.bool (if (op == BinOp.neq) then !b else b)), ([] : Upd), ([] : List Nat), nxt) | none => none) = _ at h
    split at h
    · rename_i b hb
      obtain ⟨rfl, rfl, rfl, rfl⟩ : lv (.bool (if (op == BinOp.neq) then !b else b)) = v ∧ [] = u ∧ [] = ids ∧ nxt = n' := by simpa using h
      refine Runs.pure hI ?_ (.of_lit rfl)
      obtain ⟨h1, h2⟩ := run_eqNil (P := P) hop x y hu (hx _ rfl) hb
      rcases hz with ⟨rfl, hn⟩ | ⟨rfl, hn⟩
      · have e := isNilC_eval hn
        simp only [execOp, ho, Sem.run_bind]
        rw [Sem.run_bind] at h1
        rw [e] at h1 ⊢
        rw [hc, h1]; rfl
      · have e := isNilC_eval hn
        simp only [execOp, ho, Sem.run_bind]
        rw [Sem.run_bind] at h2
        rw [e] at h2 ⊢
        rw [hc, h2]; rfl
    · simp at h

end
end Go.Ev
