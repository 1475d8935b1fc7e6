/- From what a law is asked at to the typed data of the abstract machine, and from the machine's answer to the law's statement. Conditions: as stated. -/
import Derived.Test.YtjfhiochcdjkhaaEvX
import Derived.OpenShut
import Derived.WideKeyArgs
import Derived.Deep.Slices
import Derived.ProofKit
import Derived.WalkKit
import Derived.JoinedCond
namespace Go.Ev
open Go.ChangeShapes Go.WideShapes Go.ChangeAt Go.RowKit

def S0 (w : World) (b : Nat) : Prop := b < w.heap.size

def Cells (w : World) (cs : List Value) (ds : List D) : Prop := cs.length = ds.length ∧ ∀ (j : Nat) (d : D) (v : Value), ds[j]? = some d → cs[j]? = some v → RD (S0 w) w d v

/-- what is read at a type is typed data that fits -/
def Opens (P : Program) (t : TypeId) {α : Type} (enc : α → List D) (fit : α → Prop) : Prop :=
  ∀ (H : Type) (e : TypeId × Value → H) (w : World) (fuel : Nat) (cs : List Value) (x : DataW H × List MemPlace), DataW.trod e P w 0 (fun _ => true) true fuel t cs = some x → ∃ a, fit a ∧ Cells w cs (enc a)

section
variable {P : Program} {t e : TypeId}

theorem Cells.one {w : World} {v : Value} {d : D} (h : RD (S0 w) w d v) : Cells w [v] [d] := by
  refine ⟨rfl, fun j d' v' hd hv => ?_⟩
  cases j with
  | zero =>
    obtain rfl := Option.some.inj hd
    obtain rfl := Option.some.inj hv
    exact h
  | succ j => simp at hd

theorem Cells.app {w : World} {cs : List Value} {n : Nat} {a b : List D} (h1 : Cells w (cs.take n) a) (h2 : Cells w (cs.drop n) b) (hn : n ≤ cs.length) : Cells w cs (a ++ b) := by
  have l1 : n = a.length := by rw [← h1.1]; simp; omega
  refine ⟨by have := h1.1; have := h2.1; simp at *; omega, fun j d v hd hv => ?_⟩
  by_cases hj : j < a.length
  · rw [List.getElem?_append_left hj] at hd
    exact h1.2 j d v hd (by rw [List.getElem?_take, if_pos (by omega)]; exact hv)
  · rw [List.getElem?_append_right (by omega)] at hd
    refine h2.2 (j - a.length) d v hd ?_
    rw [List.getElem?_drop, l1, show a.length + (j - a.length) = j by omega]; exact hv

theorem Cells.nil {w : World} {cs : List Value} (h : cs.length = 0) : Cells w cs [] := ⟨h, fun j d v hd => by simp at hd⟩

theorem opens_int {k : IntKind} (ht : P.underlying t = some (.int k)) : Opens P t (fun x : Int => [dI k x]) (fun x => k.min ≤ x ∧ x ≤ k.max) := by
  intro H en w fuel cs x h
  obtain ⟨n, rfl, _, hw⟩ := DataW.trod_int ht h
  exact ⟨n, by simpa [Lit.wf] using hw, .one (.lit rfl)⟩

theorem opens_bool (ht : P.underlying t = some .bool) : Opens P t (fun x : Bool => [dB x]) (fun _ => True) := by
  intro H en w fuel cs x h
  obtain ⟨n, rfl, _⟩ := DataW.trod_bool ht h
  exact ⟨n, trivial, .one (.lit rfl)⟩

theorem opens_string (ht : P.underlying t = some .string) : Opens P t (fun x : ByteArray => [dS x]) (fun s => s.size ≤ maxLen) := by
  intro H en w fuel cs x h
  obtain ⟨n, rfl, _, hm⟩ := DataW.trod_string ht h
  exact ⟨n, hm, .one (.lit rfl)⟩

theorem opens_float {k : FloatKind} (ht : P.underlying t = some (.float k)) : Opens P t (fun x : Nat => [D.lit (.float k x)]) (fun b => (Lit.float k b).wf = true) := by
  intro H en w fuel cs x h
  cases fuel with
  | zero => simp [DataW.trod] at h
  | succ n =>
    unfold DataW.trod at h
    simp only [ht] at h
    match cs, h with
    | [.float k' b], h =>
      simp only at h
      split at h
      · rename_i hw
        obtain ⟨rfl, hw⟩ := hw
        exact ⟨b, hw, .one (.lit rfl)⟩
      · simp at h

theorem opens_slice {α : Type} [Inhabited α] {enc : α → List D} {fit : α → Prop} {sz : Nat} (ht : P.underlying t = some (.slice e)) (hc : P.cellsOf e = sz) (hsz : 0 < sz) (hlen : ∀ a, (enc a).length = sz) (he : Opens P e enc fit) :
    Opens P t (fun s : Sl α => [slD sz enc s]) (fun s => s.l.length ≤ maxLen ∧ ∀ x ∈ s.l, fit x) := by
  intro H en w fuel cs x h
  rcases Go.Deep.open_slice ht h with ⟨rfl, _⟩ | ⟨a, len, cap, m, n, D', Pl, rfl, hb, hl, hmax, hm, _, hx⟩
  · exact ⟨.nil, ⟨by simp [Sl.l], by simp [Sl.l]⟩, .one (.lit rfl)⟩
  · simp only [if_true] at hm
    rw [hm] at hx
    have hx' : ∀ i, i < len → ∃ y, fit y ∧ ∃ cs', w.cells? 0 (a.add (i * sz)) sz = some cs' ∧ Cells w cs' (enc y) := by
      intro i hi
      obtain ⟨cs', h1, h2⟩ := hx i (by omega)
      obtain ⟨y, h3, h4⟩ := he H en w n cs' _ h2
      rw [hc] at h1
      exact ⟨y, h3, cs', h1, h4⟩
    have hch : ∃ Y : Nat → α, ∀ i, i < len → fit (Y i) ∧ ∃ cs', w.cells? 0 (a.add (i * sz)) sz = some cs' ∧ Cells w cs' (enc (Y i)) := by
      refine ⟨fun i => if hi : i < len then Classical.choose (hx' i hi) else default, fun i hi => ?_⟩
      simp only [dif_pos hi]
      exact Classical.choose_spec (hx' i hi)
    obtain ⟨Y, hY⟩ := hch
    refine ⟨.mk ((List.range len).map Y), ⟨by simp [Sl.l]; omega, fun x hx => ?_⟩, .one ?_⟩
    · simp only [Sl.l, List.mem_map, List.mem_range] at hx
      obtain ⟨i, hi, rfl⟩ := hx
      exact (hY i hi).1
    · simp only [slD]
      have hrow : ∀ (i : Nat) (r : List D), (((List.range len).map Y).map enc)[i]? = some r → i < len ∧ r = enc (Y i) := by
        intro i r hi
        rw [List.getElem?_map, List.getElem?_map] at hi
        by_cases hlt : i < len
        · rw [List.getElem?_range hlt] at hi
          exact ⟨hlt, by simpa using hi.symm⟩
        · rw [List.getElem?_eq_none (by simp; omega)] at hi
          simp at hi
      by_cases h0 : cap = 0
      · obtain rfl : len = 0 := by omega
        subst h0
        exact .sl0 hsz
      · have hcell : ∀ i, i < cap → ∃ cs', w.cells? 0 (a.add (i * sz)) sz = some cs' := by
          intro i hi
          obtain ⟨cs', h1, h2⟩ := hx i hi
          rw [hc] at h1
          exact ⟨cs', h1⟩
        obtain ⟨cs0, h1⟩ := hcell 0 (by omega)
        obtain ⟨_, hl0, hc0⟩ := World.cells?_some h1
        have hz := hc0 0 hsz
        rw [Nat.zero_mul] at hz
        have hadd : (a.add 0).add 0 = a := by simp [Addr.add]
        rw [hadd, List.getElem?_eq_getElem (by omega)] at hz
        obtain ⟨b, off, spot⟩ := a
        have hsp : spot = none ∧ b < w.heap.size := by
          unfold World.cell? at hz
          split at hz
          · rename_i hh
            split at hz
            · simp at hz
            · rename_i hs
              refine ⟨by simpa using hs, (Array.getElem?_eq_some_iff.1 hh).1⟩
          · simp at hz
        obtain ⟨rfl, hblk⟩ := hsp
        have key : ∀ (i : Nat) (r : List D), (((List.range len).map Y).map enc)[i]? = some r → ∀ (j : Nat) (x : D), r[j]? = some x → ∃ v, w.cell? ⟨b, off + i * sz + j, none⟩ = some v ∧ RD (S0 w) w x v := by
          intro i r hi j x hj
          obtain ⟨hlt, rfl⟩ := hrow i r hi
          obtain ⟨_, cs', h2, h3⟩ := hY i hlt
          obtain ⟨_, h4, h5⟩ := World.cells?_some h2
          have hjl : j < sz := by rw [← hlen (Y i)]; exact (List.getElem?_eq_some_iff.1 hj).1
          have h6 := h5 j hjl
          rw [add_eq, add_eq, List.getElem?_eq_getElem (by omega)] at h6
          exact ⟨_, h6, h3.2 j x _ hj (List.getElem?_eq_getElem (by omega))⟩
        have hh := RD.sl (S := S0 w) (w := w) (sz := sz) (rows := ((List.range len).map Y).map enc) (b := b) (off := off) (cap := cap) (fun i j => (w.cell? ⟨b, off + i * sz + j, none⟩).getD undef) hblk hsz (by simp; omega)
          (fun i r hi => by obtain ⟨_, rfl⟩ := hrow i r hi; exact hlen _) (fun i r hi j x hj => by obtain ⟨v, h2, _⟩ := key i r hi j x hj; rw [h2]; rfl) (fun i r hi j x hj => by obtain ⟨v, h2, h3⟩ := key i r hi j x hj; rw [h2]; exact h3)
        simpa using hh

/-- a struct: its fields, one by one -/
def OpensAt (P : Program) (w : World) (cs : List Value) (f : Field) {α : Type} (enc : α → List D) (fit : α → Prop) : Prop := ∃ a, fit a ∧ Cells w ((cs.drop f.offset).take (P.cellsOf f.type)) (enc a)

theorem opens_field {H : Type} {en : TypeId × Value → H} {w : World} {fuel : Nat} {cs : List Value} {x : DataW H × List MemPlace} {fs : Array Field} (ht : P.underlying t = some (.struct fs)) (h : DataW.trod en P w 0 (fun _ => true) true fuel t cs = some x) {i : Nat} {f : Field} (hi : fs[i]? = some f)
    {α : Type} {enc : α → List D} {fit : α → Prop} (ho : Opens P f.type enc fit) : ∃ a, fit a ∧ Cells w ((cs.drop f.offset).take (P.cellsOf f.type)) (enc a) := by
  obtain ⟨xs, n, rfl, _, hl, hxl, hf⟩ := DataW.trod_struct ht h
  have h1 := hf i f hi
  have hlt : i < xs.length := by rw [hxl]; exact (Array.getElem?_eq_some_iff.1 hi).1
  rw [List.getElem?_eq_getElem hlt] at h1
  exact ho H en w n _ _ h1

theorem struct_len {H : Type} {en : TypeId × Value → H} {w : World} {fuel : Nat} {cs : List Value} {x : DataW H × List MemPlace} {fs : Array Field} (ht : P.underlying t = some (.struct fs)) (h : DataW.trod en P w 0 (fun _ => true) true fuel t cs = some x) : cs.length = P.cellsOf t := by
  obtain ⟨xs, n, rfl, _, hl, _⟩ := DataW.trod_struct ht h
  exact hl

/-- an array: its elements, one by one -/
theorem array_len {H : Type} {en : TypeId × Value → H} {w : World} {fuel : Nat} {cs : List Value} {x : DataW H × List MemPlace} {n : Nat} (ht : P.underlying t = some (.array n e)) (h : DataW.trod en P w 0 (fun _ => true) true fuel t cs = some x) : cs.length = P.cellsOf t := by
  obtain ⟨_, _, _, _, hl, _⟩ := DataW.trod_array ht h
  exact hl

theorem opens_elem {H : Type} {en : TypeId × Value → H} {w : World} {fuel : Nat} {cs : List Value} {x : DataW H × List MemPlace} {n : Nat} (ht : P.underlying t = some (.array n e)) (h : DataW.trod en P w 0 (fun _ => true) true fuel t cs = some x) {i : Nat} (hi : i < n)
    {α : Type} {enc : α → List D} {fit : α → Prop} (ho : Opens P e enc fit) : ∃ a, fit a ∧ Cells w ((cs.drop (i * P.cellsOf e)).take (P.cellsOf e)) (enc a) := by
  obtain ⟨xs, m, _, _, _, hxl, hf⟩ := DataW.trod_array ht h
  have h1 := hf i hi
  have hlt : i < xs.length := by omega
  rw [List.getElem?_eq_getElem hlt] at h1
  exact ho H en w m _ _ h1

/-- one more field ahead of those behind it -/
theorem Cells.field {w : World} {cs : List Value} {off n m : Nat} {a b : List D} (h1 : Cells w ((cs.drop off).take n) a) (hm : off + n = m) (h2 : Cells w (cs.drop m) b) (hl : m ≤ cs.length) : Cells w (cs.drop off) (a ++ b) := by
  refine Cells.app h1 ?_ (by simp; omega)
  rw [List.drop_drop, hm]; exact h2

/-! ### arguments -/

theorem one_of_okWide {w : World} {r : Reach} {b : Nat} {v : Value} (h : Value.okWide P w r b t v) (hs : match P.underlying t with | some (.struct _) | some (.array _ _) | some (.interface _) | some (.func ..) | some (.chan ..) | some .unsafePointer | some (.map _ _) => False | _ => True) : one v = true := by
  unfold Value.okWide at h
  split at h
  · rename_i he; rw [he] at hs; exact hs.elim
  · rename_i he; rw [he] at hs; exact hs.elim
  · unfold Cell.okWide at h
    split at h
    all_goals first
      | (rename_i he; rw [he] at hs; exact hs.elim)
      | skip
    unfold Cell.ok at h
    split at h <;> first | rfl | exact h.elim

theorem arg_d {α : Type} {d : α → D} {fit : α → Prop} (ho : Opens P t (fun a => [d a]) fit) {w : World} {r : Reach} {b : Nat} {v : Value} (hv : Value.okWide P w r b t v)
    (hs : match P.underlying t with | some (.struct _) | some (.array _ _) | some (.interface _) | some (.func ..) | some (.chan ..) | some .unsafePointer | some (.map _ _) => False | _ => True)
    {H : Type} {en : TypeId × Value → H} {x : DataW H} {ps : List MemPlace} (h : DataW.Trod en P w 0 (fun _ => true) true t v x ps) : ∃ a, fit a ∧ RA (S0 w) w (.d (d a)) v [] := by
  obtain ⟨fuel, h⟩ := h
  obtain ⟨a, h1, h2⟩ := ho H en w fuel _ _ h
  have hone := cells_of_one (one_of_okWide hv hs)
  refine ⟨a, h1, ?_, rfl⟩
  exact h2.2 0 _ v rfl (by rw [hone]; rfl)

theorem arg_of {α : Type} {enc : α → List D} {fit : α → Prop} (ho : Opens P t enc fit) {w : World} {v : Value} {arr : Array Value} (hv : v = .agg arr)
    {H : Type} {en : TypeId × Value → H} {x : DataW H} {ps : List MemPlace} (h : DataW.Trod en P w 0 (fun _ => true) true t v x ps) : ∃ a, fit a ∧ RA (S0 w) w (.agg (enc a)) v [] := by
  subst hv
  obtain ⟨fuel, h⟩ := h
  obtain ⟨a, h1, h2⟩ := ho H en w fuel _ _ h
  have h3 : (Value.agg arr).cells.toList = arr.toList := rfl
  rw [h3] at h2
  refine ⟨a, h1, arr, rfl, by have := h2.1; simpa using this.symm, fun i d hi => ?_, rfl⟩
  have hlt : i < arr.size := by have := h2.1; have := (List.getElem?_eq_some_iff.1 hi).1; simp at *; omega
  refine h2.2 i d _ hi ?_
  rw [Array.getElem?_toList, Array.getD_eq_getD_getElem?, Array.getElem?_eq_getElem hlt]; rfl

theorem arg_agg {α : Type} {enc : α → List D} {fit : α → Prop} (ho : Opens P t enc fit) {w : World} {r : Reach} {b : Nat} {v : Value} (hv : Value.okWide P w r b t v) {fs : Array Field} (hs : P.underlying t = some (.struct fs))
    {H : Type} {en : TypeId × Value → H} {x : DataW H} {ps : List MemPlace} (h : DataW.Trod en P w 0 (fun _ => true) true t v x ps) : ∃ a, fit a ∧ RA (S0 w) w (.agg (enc a)) v [] := by
  unfold Value.okWide at hv
  rw [hs] at hv
  obtain ⟨arr, hv, _, _⟩ := hv
  exact arg_of ho hv h

theorem arg_arr {α : Type} {enc : α → List D} {fit : α → Prop} (ho : Opens P t enc fit) {w : World} {r : Reach} {b : Nat} {v : Value} (hv : Value.okWide P w r b t v) {n : Nat} (hs : P.underlying t = some (.array n e))
    {H : Type} {en : TypeId × Value → H} {x : DataW H} {ps : List MemPlace} (h : DataW.Trod en P w 0 (fun _ => true) true t v x ps) : ∃ a, fit a ∧ RA (S0 w) w (.agg (enc a)) v [] := by
  unfold Value.okWide at hv
  rw [hs] at hv
  obtain ⟨arr, hv, _, _⟩ := hv
  exact arg_of ho hv h

theorem ras_cons {S : Nat → Prop} {w : World} {a : A} {as : List A} {v : Value} {vs : List Value} (h1 : RA S w a v []) (h2 : RAs S w as vs []) : RAs S w (a :: as) (v :: vs) [] := ⟨[], [], rfl, h1, h2⟩
theorem ras_nil {S : Nat → Prop} {w : World} : RAs S w [] [] [] := rfl

/-! ### the answer -/

theorem trodAll_stays {H : Type} {en : TypeId × Value → H} (hl : laidOutB P = true) {W W' : World} {sp : Nat → Bool} : ∀ {ts : List TypeId} {vs : List Value} {ds : List (DataW H)} {ps : List MemPlace}, ts.all (fun t => P.readableRec t && decide (t < P.types.size)) = true →
    DataW.TrodAll en P W 0 (fun _ => true) true ts vs ds ps → (∀ p ∈ ps, W.sameAt W' p) → (∀ p ∈ ps, sp p.block = true) → DataW.TrodAll en P W' 0 sp true ts vs ds ps := by
  intro ts
  induction ts with
  | nil => intro vs ds ps _ h _ _; cases vs <;> cases ds <;> exact h
  | cons t ts ih =>
    intro vs ds ps hts h hsame hsp
    cases vs with
    | nil => cases ds <;> exact h
    | cons v vs =>
      cases ds with
      | nil => exact h
      | cons d ds =>
        obtain ⟨p, q, h1, h2, rfl⟩ := h
        simp only [List.all_cons, Bool.and_eq_true, decide_eq_true_eq] at hts
        exact ⟨p, q, WideElems.Trod_stays hl hts.1.1 hts.1.2 h1 (fun x hx => hsame x (List.mem_append_left _ hx)) (fun x hx => hsp x (List.mem_append_left _ hx)),
          ih hts.2 h2 (fun x hx => hsame x (List.mem_append_right _ hx)) (fun x hx => hsp x (List.mem_append_right _ hx)), rfl⟩

/-- a law's contract: wherever its arguments are typed data that fit, the abstract machine answers true -/
theorem contract {f : FuncId} {fn : Func} {s : ChangeSpec} {apart fresh handsOn again : Bool} {tb : TypeId} {H : Type} {en : TypeId × Value → H} (hl : laidOutB P = true) (hfn : P.funcs[f]? = some fn) (hbody : fn.body.isSome = true) (hname : (fn.name == "runtime.NumGoroutine") = false)
    (hts : fn.params.toList.all (fun t => P.readableRec t && decide (t < P.types.size)) = true) (hrt : fn.resultTypes = #[tb]) (htb : P.underlying tb = some .bool) (hvars : s.vars = [])
    {W : World} {args : Array Value} {ds gs : List (DataW H)} {before : List MemPlace} (hW : DataW.Whole en P fn.params.toList s.vars apart W args.toList ds gs before)
    (hspec : (s.fn H (ds ++ gs)).results = [.lit (.bool true)] ∧ (s.fn H (ds ++ gs)).args = ds ∧ (s.fn H (ds ++ gs)).vars = [])
    (hgl : Glob (S0 W) W) (hG : ∃ as, RAs (S0 W) W as args.toList [] ∧ Good P f as [.c (.d (.lit (.bool true)))] []) :
    Calls P f args W fun e W' => ∃ v, e = .returned v ∧ s.post en P fn apart fresh handsOn again W args v W' := by
  obtain ⟨as, hras, hgood⟩ := hG
  have hent := hgood (S0 W) W args.toList [] (fun b hb => hb) hras List.nodup_nil (fun b hb => by simp at hb) hgl
  have hcall : (callFunc f args).run P W = .ok (.enter f args) W := by
    have hb : ∃ c, fn.body = some c := Option.isSome_iff_exists.1 hbody
    obtain ⟨c, hb⟩ := hb
    simp [callFunc, run_program, hfn, hb]
    intro e
    rw [e] at hname
    simp at hname
  rw [Array.toArray_toList] at hent
  rcases hent with ⟨g, as', h1, h2⟩ | ⟨v, h1, _⟩
  · rw [hcall] at h1
    obtain ⟨⟨rfl, rfl⟩, _⟩ : (f = g ∧ args = as') ∧ True := by simpa using h1
    refine h2.mono fun e W' hp => ?_
    obtain ⟨v, rfl, S', rvs, fp1, fp2, rfl, hst, hsub, hlt, hrr, hrt', hnd, hb, hfrm⟩ := hp
    have hv : retVal rvs = .bool true := by
      cases rvs with
      | nil => exact hrr.elim
      | cons v rvs =>
        obtain ⟨f1, f2, _, h3, h4⟩ := hrr
        cases rvs with
        | cons _ _ => exact h4.elim
        | nil =>
          cases h3 with
          | d h5 => cases h5; rfl
    refine ⟨_, rfl, ?_⟩
    rw [hv]
    have hheap : ∀ b, b < W.heap.size → W'.heap[b]? = W.heap[b]? := fun b hb => hst.same b hb
    obtain ⟨p, q, hA, hV, hpq, hfz, hno⟩ := id hW
    have hV' : DataW.TrodVars en P W (fun _ => true) [] gs q := by rw [← hvars]; exact hV
    obtain ⟨rfl, rfl⟩ := trodVars_none hV'
    have hkept : ∀ may : MemPlace → Prop, W.keptBut W' may := by
      intro may
      refine ⟨hfrm.io.1, hfrm.io.2, fun i hi => ?_⟩
      have := hheap i hi
      rw [this]
      cases hx : W.heap[i]? with
      | none => trivial
      | some o => cases o <;> simp
    refine post_of_same (pa := before) (pv := []) hW (fun _ _ _ => ?_) (fun sp hsp => ?_) (fun _ _ => ?_) (by simp) (hkept _) hfrm.frz ?_
    · rw [hspec.1, hrt]
      exact trodAll_cons_mk (shut_bool htb _) trodAll_mk0
    · rw [hspec.2.1]
      have hbp : before = p := by rw [hpq, List.append_nil]
      refine trodAll_stays hl hts (by rw [hbp]; exact hA) (fun x hx => ?_) hsp
      have hx' := hW.lt x hx
      have hs := hheap x.block hx'
      cases x with
      | cell b off => exact cell?_same hs off
      | map b => exact hs
    · rw [hspec.2.2, hvars]; rfl
    · exact ok_one hrt rfl (okWide_bool_mk htb _)
  · rw [hcall] at h1
    simp at h1
end

/-- the one variable's table, as the row says it -/
theorem glob_tab {W : World} {k : IntKind} {l : List Int} (hg : ∀ g d, glb g = some d → g = 0 ∧ d = .pt (l.map fun x => .lit (.int k x))) (h0 : 0 < W.heap.size)
    (hc : ∀ (j : Nat) (x : Int), l[j]? = some x → W.cell? ⟨0, j, none⟩ = some (.int k x)) : Glob (S0 W) W := by
  intro g d h
  obtain ⟨rfl, rfl⟩ := hg g d h
  refine .pt (fun j => .int k (l.getD j 0)) h0 (fun j x hx => ?_) (fun j x hx => ?_)
  · rw [List.getElem?_map] at hx
    obtain ⟨y, hy, rfl⟩ := Option.map_eq_some_iff.1 hx
    rw [Nat.zero_add, hc j y hy, List.getD_eq_getElem?_getD, hy]; rfl
  · rw [List.getElem?_map] at hx
    obtain ⟨y, hy, rfl⟩ := Option.map_eq_some_iff.1 hx
    rw [List.getD_eq_getElem?_getD, hy]; exact .lit rfl
theorem glob_none {S : Nat → Prop} {w : World} (h : ∀ g, glb g = none) : Glob S w := fun g d hg => by rw [h g] at hg; simp at hg
end Go.Ev
