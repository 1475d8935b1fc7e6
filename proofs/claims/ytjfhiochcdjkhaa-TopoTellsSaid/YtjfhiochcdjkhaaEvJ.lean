/- The model's operations against the abstract machine's, third part: least and greatest, composite values, stores, append. Conditions: the relation of XEvC. -/
import Derived.Test.YtjfhiochcdjkhaaEvI
namespace Go.Ev

section
variable {P : Program} {S K : Nat → Prop} {w0 w : World} {Kn : Nat → Prop} {φ : Nat → Loc} {H : Heap} {e : Env} {ρ : Operand → Value} {o : Oper} {call : Call}
  {nxt n' : Nat} {v : TV} {u : Upd} {ids : List Nat}

/-! ### least and greatest -/

def mmF (m : Bool) : Value → Value → Sem Value := if m then Builtin.max2 else Builtin.min2

theorem run_mm2 {m : Bool} {x y z : Value} (h : mm2 m x y = some z) : (mmF m x y).run P w = .ok z w ∧ plain z = true := by
  unfold mm2 at h
  split at h
  · rename_i k a k' b
    split at h
    · obtain rfl := Option.some.inj h
      cases m <;> simp [mmF, Builtin.max2, Builtin.min2, plain]
    · simp at h
  · rename_i k a k' b
    split at h
    · rename_i hk
      subst hk
      split at h
      · simp at h
      · rename_i ho
        obtain rfl := Option.some.inj h
        cases m <;> simp [mmF, Builtin.max2, Builtin.min2, plain, ho]
      · rename_i ho
        obtain rfl := Option.some.inj h
        cases m <;> simp [mmF, Builtin.max2, Builtin.min2, plain, ho]
      · rename_i ho
        obtain rfl := Option.some.inj h
        cases m <;> simp [mmF, Builtin.max2, Builtin.min2, plain, ho]
    · simp at h
  · simp at h

theorem run_mmL {m : Bool} (hρ : ∀ x tv, opv e x = some tv → RTV S w Kn φ tv (ρ x)) : ∀ (r : List Operand) (x z : Value), plain x = true → mmL m x (r.map (opv e)) = some z →
    ((r.map ρ).foldlM (mmF m) x).run P w = .ok z w ∧ plain z = true := by
  intro r
  induction r with
  | nil =>
    intro x z hp h
    obtain rfl : x = z := by simpa [mmL] using h
    exact ⟨rfl, hp⟩
  | cons a r ih =>
    intro x z hp h
    simp only [List.map_cons] at h ⊢
    match ha : opv e a, h with
    | some (.c (.d (.lit y))), h =>
      simp only [mmL] at h
      split at h
      · rename_i z' hz
        obtain ⟨h1, h2⟩ := run_mm2 (P := P) (w := w) hz
        obtain ⟨hv, _⟩ := (hρ a _ ha).lit
        obtain ⟨h3, h4⟩ := ih z' z h2 h
        refine ⟨?_, h4⟩
        simp only [List.foldlM_cons, Sem.run_bind, hv, h1, Result.andThen_ok, h3]
      · simp at h

theorem op_minmax {m : Bool} {c : Go.Call} (ho : o.op = .call c) (hcal : c.callee = .builtin (if m then .max else .min)) (hI : Inv S K w0 Kn φ (look H) w)
    (hρ : ∀ x tv, opv e x = some tv → RTV S w Kn φ tv (ρ x)) (h : ev1 call (.minmax m) (c.args.toList.map (opv e)) H nxt = some (v, u, ids, n')) : Runs P o ρ S K w0 w Kn φ (look H) nxt n' v u := by
  generalize hargs : c.args.toList = args at h
  cases args with
  | nil => simp [ev1] at h
  | cons a r =>
    simp only [List.map_cons] at h
    match ha : opv e a, h with
    | some (.c (.d (.lit x))), h =>
      change (match mmL m x (r.map (opv e)) with | some v => some (lv v, ([] : Upd), ([] : List Nat), nxt) | none => none) = _ at h
      split at h
      · rename_i z hz
        obtain ⟨rfl, rfl, rfl, rfl⟩ : lv z = v ∧ [] = u ∧ [] = ids ∧ nxt = n' := by simpa using h
        obtain ⟨hv, hp⟩ := (hρ a _ ha).lit
        obtain ⟨h1, h2⟩ := run_mmL (P := P) hρ r x z hp hz
        refine Runs.pure hI ?_ (.of_lit h2)
        have e1 : List.map ρ c.args.toList = x :: r.map ρ := by rw [hargs, List.map_cons, hv]
        cases m
        · simp only [Bool.false_eq_true, if_false] at hcal
          have h1' : ((r.map ρ).foldlM Builtin.min2 x).run P w = .ok z w := h1
          simp [execOp, ho, hcal, resolve, invoke, builtin, Builtin.min_, e1, h1']
        · simp only [if_true] at hcal
          have h1' : ((r.map ρ).foldlM Builtin.max2 x).run P w = .ok z w := h1
          simp [execOp, ho, hcal, resolve, invoke, builtin, Builtin.max_, e1, h1']
      · simp at h

/-! ### composite values -/

/-- cells and the values that they are -/
def CR (S : Nat → Prop) (w : World) (Kn : Nat → Prop) (φ : Nat → Loc) (cs : List C) (vs : List Value) : Prop :=
  cs.length = vs.length ∧ ∀ (i : Nat) (x : C) (y : Value), cs[i]? = some x → vs[i]? = some y → RC S w Kn φ x y

theorem CR.splice {cs ds : List C} {vs us : List Value} (h1 : CR S w Kn φ cs vs) (h2 : CR S w Kn φ ds us) (off : Nat) (hfit : off + ds.length ≤ cs.length) :
    CR S w Kn φ (splice cs off ds) (splice vs off us) := by
  have hl1 := h1.1
  have hl2 := h2.1
  refine ⟨by rw [splice_length _ _ _ hfit, splice_length _ _ _ (by omega)]; exact h1.1, fun i x y hx hy => ?_⟩
  rw [splice_get _ _ _ hfit] at hx
  rw [splice_get _ _ _ (by omega)] at hy
  by_cases c1 : i < off
  · rw [if_pos c1] at hx hy; exact h1.2 i x y hx hy
  · rw [if_neg c1] at hx hy
    by_cases c2 : i < off + ds.length
    · rw [if_pos c2] at hx
      rw [if_pos (by omega)] at hy
      exact h2.2 _ x y hx hy
    · rw [if_neg c2] at hx
      rw [if_neg (by omega)] at hy
      exact h1.2 i x y hx hy

theorem RTV.cr {tv : TV} {val : Value} {cs : List C} (h : RTV S w Kn φ tv val) (hc : cellsOf tv = some cs) : CR S w Kn φ cs val.cells.toList := by
  obtain ⟨h1, h2, _⟩ := h.cells hc
  refine ⟨by simpa using h1, fun i x y hx hy => ?_⟩
  have := h2 i x hx
  have e1 : val.cells.getD i undef = y := by
    rw [Array.getElem?_toList] at hy
    simp [hy]
  rwa [e1] at this

theorem cr_arr {cs : List C} {arr : Array Value} (h : CR S w Kn φ cs arr.toList) : cs.length = arr.size ∧ ∀ (i : Nat) (x : C), cs[i]? = some x → RC S w Kn φ x (arr.getD i undef) := by
  have hl : cs.length = arr.size := by simpa using h.1
  refine ⟨hl, fun i x hx => ?_⟩
  have hlt : i < arr.size := by rw [← hl]; exact (List.getElem?_eq_some_iff.1 hx).1
  refine h.2 i x _ hx ?_
  simp [hlt]

theorem list_put : ∀ (l : List Value) (k : Nat) (arr : Array Value) (off : Nat), off + k + l.length ≤ arr.size →
    ((l.zipIdx k).foldl (fun (cs : Array Value) (p : Value × Nat) => cs.setIfInBounds (off + p.2) p.1) arr).toList = splice arr.toList (off + k) l := by
  intro l
  induction l with
  | nil => intro k arr off _; simp [splice]
  | cons a l ih =>
    intro k arr off hfit
    simp only [List.length_cons] at hfit
    simp only [List.zipIdx_cons, List.foldl_cons]
    rw [ih (k + 1) (arr.setIfInBounds (off + k) a) off (by simp; omega)]
    apply List.ext_getElem?
    intro i
    rw [splice_get _ _ _ (by simp; omega), splice_get _ _ _ (by simp; omega)]
    simp only [Array.toList_setIfInBounds, List.getElem?_set, List.length_cons]
    by_cases c1 : i < off + k
    · have c3 : i < off + (k + 1) := by omega
      have c4 : ¬ off + k = i := by omega
      simp [c1, c3, c4]
    · by_cases c2 : i = off + k
      · subst c2
        have : off + k < off + (k + 1) := by omega
        have c5 : off + k < arr.size := by omega
        simp [this, c5]
      · have c3 : ¬ i < off + (k + 1) := by omega
        have c4 : ¬ off + k = i := by omega
        by_cases c5 : i < off + k + (l.length + 1)
        · have c6 : i < off + (k + 1) + l.length := by omega
          have c7 : i - (off + k) = (i - (off + (k + 1))) + 1 := by omega
          simp [c1, c3, c5, c6, c7]
        · have c6 : ¬ i < off + (k + 1) + l.length := by omega
          simp [c1, c3, c4, c5, c6]

theorem arr_put (vs arr : Array Value) (off : Nat) (hfit : off + vs.size ≤ arr.size) :
    (vs.zipIdx.foldl (fun (cs : Array Value) (p : Value × Nat) => cs.setIfInBounds (off + p.2) p.1) arr).toList = splice arr.toList off vs.toList := by
  rw [← Array.foldl_toList, Array.toList_zipIdx]
  have := list_put vs.toList 0 arr off (by simpa using hfit)
  simpa using this

theorem fill_sound (place : Nat → Option (Nat × Nat)) : ∀ (parts : List (Nat × Operand)) (pl : List (Nat × Nat)) (xs : List TV) (cs cs' : List C) (arr : Array Value),
    pl.length = parts.length → (∀ (i : Nat) (p : Nat × Operand) (q : Nat × Nat), parts[i]? = some p → pl[i]? = some q → place p.1 = some q) →
    xs.length = parts.length → (∀ (i : Nat) (p : Nat × Operand) (x : TV), parts[i]? = some p → xs[i]? = some x → RTV S w Kn φ x (ρ p.2)) →
    CR S w Kn φ cs arr.toList → fillC cs (pl.zip xs) = some cs' →
    ∃ arr', Instr.fill place arr (parts.map fun p => (p.1, ρ p.2)) = some arr' ∧ CR S w Kn φ cs' arr'.toList := by
  intro parts
  induction parts with
  | nil =>
    intro pl xs cs cs' arr h1 _ h2 _ hcr h
    have e1 : pl = [] := List.length_eq_zero_iff.1 h1
    subst e1
    obtain rfl : cs = cs' := by simpa [fillC] using h
    exact ⟨arr, rfl, hcr⟩
  | cons p parts ih =>
    intro pl xs cs cs' arr h1 hpl h2 hxs hcr h
    cases pl with
    | nil => simp at h1
    | cons q pl =>
      cases xs with
      | nil => simp at h2
      | cons x xs =>
        obtain ⟨off, n⟩ := q
        simp only [List.zip_cons_cons, fillC] at h
        split at h
        · rename_i ds hds
          split at h
          · rename_i hb
            obtain ⟨hb1, hb2⟩ := hb
            have hp := hpl 0 p (off, n) rfl rfl
            have hx := (hxs 0 p x rfl rfl).cr hds
            have hsz : (ρ p.2).cells.size = n := by have := hx.1; simp at this; omega
            have hal : cs.length = arr.size := by simpa using hcr.1
            have hcr' := hcr.splice hx off (by omega)
            rw [← arr_put (ρ p.2).cells arr off (by omega)] at hcr'
            obtain ⟨arr', h3, h4⟩ := ih pl xs _ cs' _ (by simpa using h1) (fun i p q hp hq => hpl (i + 1) p q (by simpa using hp) (by simpa using hq)) (by simpa using h2)
              (fun i p x hp hx => hxs (i + 1) p x (by simpa using hp) (by simpa using hx)) hcr' h
            refine ⟨arr', ?_, h4⟩
            simp only [List.map_cons, Instr.fill, hp]
            rw [if_neg (by simp [hsz]; omega)]
            exact h3
          · simp at h
        · simp at h

theorem lits_cr {z : List Value} (hp : ∀ x ∈ z, plain x = true) : CR S w Kn φ (lits z) z := by
  refine ⟨by simp [lits], fun i x y hx hy => ?_⟩
  simp only [lits, List.getElem?_map, hy, Option.map_some] at hx
  obtain rfl := Option.some.inj hx
  exact .d (.lit (hp y (List.mem_of_getElem? hy)))

theorem places_get {fields : Array Field} : ∀ {is : List Nat} {pl : List (Nat × Nat)}, placesOf P fields is = some pl → pl.length = is.length ∧
    ∀ (k i : Nat) (q : Nat × Nat), is[k]? = some i → pl[k]? = some q → ∃ f, fields[i]? = some f ∧ q.1 = f.offset ∧ szOf P f.type = some q.2 := by
  intro is
  induction is with
  | nil =>
    intro pl h
    obtain rfl : [] = pl := by simpa [placesOf] using h
    exact ⟨rfl, fun k i q hk => by simp at hk⟩
  | cons i is ih =>
    intro pl h
    simp only [placesOf] at h
    split at h
    · rename_i f l hf hl
      split at h
      · rename_i n hn
        obtain rfl := Option.some.inj h
        obtain ⟨h1, h2⟩ := ih hl
        refine ⟨by simp [h1], fun k j q hk hq => ?_⟩
        cases k with
        | zero =>
          obtain rfl : i = j := by simpa using hk
          obtain rfl : (f.offset, n) = q := by simpa using hq
          exact ⟨f, hf, rfl, hn⟩
        | succ k => exact h2 k j q (by simpa using hk) (by simpa using hq)
      · simp at h
    · simp at h

/-- the places of all fields -/
theorem run_places (g : Field → Nat × Nat) : ∀ (l : List Field), (∀ f ∈ l, ∃ n, szOf P f.type = some n ∧ g f = (f.offset, n)) →
    (l.mapM fun f => (do pure (f.offset, ← sizeOf f.type) : Sem (Nat × Nat))).run P w = .ok (l.map g) w := by
  intro l
  induction l with
  | nil => intro _; rfl
  | cons f l ih =>
    intro h
    obtain ⟨n, hn, hg⟩ := h f (by simp)
    have := ih fun f hf => h f (by simp [hf])
    simp only [List.mapM_cons, Sem.run_bind, run_sz hn, Result.andThen_ok, Sem.run_pure, this, List.map_cons, hg]

theorem op_build {t : TypeId} {parts : Array (Nat × Operand)} {z : List Value} {pl : List (Nat × Nat)} (ho : o.op = .build t parts) (hz : zeroOf P t = some z)
    (hu : (∃ fields, P.underlying t = some (.struct fields) ∧ placesOf P fields (parts.toList.map (·.1)) = some pl ∧ fields.toList.all (fun f => (szOf P f.type).isSome) = true) ∨
      (∃ len el n, P.underlying t = some (.array len el) ∧ szOf P el = some n ∧ pl = parts.toList.map fun p => (p.1 * n, n)))
    (hI : Inv S K w0 Kn φ (look H) w) (hρ : ∀ x tv, opv e x = some tv → RTV S w Kn φ tv (ρ x))
    (h : ev1 call (.build z pl) ((parts.toList.map (·.2)).map (opv e)) H nxt = some (v, u, ids, n')) : Runs P o ρ S K w0 w Kn φ (look H) nxt n' v u := by
  change (match allSome ((parts.toList.map (·.2)).map (opv e)) with
    | some xs => (match fillC (lits z) (pl.zip xs) with | some cs => some (TV.agg cs, ([] : Upd), ([] : List Nat), nxt) | none => none)
    | none => none) = _ at h
  split at h
  · rename_i xs hxs
    split at h
    · rename_i cs hcs
      obtain ⟨rfl, rfl, rfl, rfl⟩ : TV.agg cs = v ∧ [] = u ∧ [] = ids ∧ nxt = n' := by simpa using h
      obtain ⟨hl, hr⟩ := args_get hρ hxs
      obtain ⟨zv, hzr, hzl, hzp⟩ := run_zero hz w
      have key : ∀ place : Nat → Option (Nat × Nat), pl.length = parts.toList.length → (∀ (i : Nat) (p : Nat × Operand) (q : Nat × Nat), parts.toList[i]? = some p → pl[i]? = some q → place p.1 = some q) →
          ∃ arr', Instr.fill place zv.cells ((parts.map fun p => (p.1, ρ p.2)).toList) = some arr' ∧ CR S w Kn φ cs arr'.toList := by
        intro place h1 h2
        have := fill_sound (S := S) (w := w) (Kn := Kn) (φ := φ) (ρ := ρ) place parts.toList pl xs (lits z) cs zv.cells h1 h2 (by simpa using hl) (fun i p x hp hx => hr i p.2 x (by simp only [List.getElem?_map, hp, Option.map_some]) hx)
          (by rw [hzl]; exact lits_cr hzp) hcs
        simpa using this
      rcases hu with ⟨fields, hu, hpl, hall⟩ | ⟨len, el, n, hu, hn, rfl⟩
      · obtain ⟨h1, h2⟩ := places_get hpl
        let g : Field → Nat × Nat := fun f => (f.offset, (szOf P f.type).getD 0)
        have hg : (fields.mapM fun f => (do pure (f.offset, ← sizeOf f.type) : Sem (Nat × Nat))).run P w = .ok (fields.map g) w := by
          rw [Array.mapM_eq_mapM_toList]
          have := run_places (P := P) (w := w) g fields.toList fun f hf => by
            have := List.all_eq_true.1 hall f hf
            obtain ⟨n, hn⟩ := Option.isSome_iff_exists.1 this
            exact ⟨n, hn, by simp [g, hn]⟩
          simp only [Sem.run_map, this, Result.andThen_ok]
          congr 1
          apply Array.ext'
          rw [Array.toList_map]
        obtain ⟨arr', h3, h4⟩ := key (fun i => (fields.map g)[i]?) (by simpa using h1) (fun i p q hp hq => by
          obtain ⟨f, hf, hq1, hq2⟩ := h2 i p.1 q (by simp only [List.getElem?_map, hp, Option.map_some]) hq
          simp only [Array.getElem?_map, hf, Option.map_some, g, hq2, Option.getD_some, ← hq1])
        obtain ⟨h5, h6⟩ := cr_arr h4
        refine Runs.pure (val := .agg arr') hI ?_ (.agg h5 h6)
        simp only [execOp, ho, Sem.run_bind, Instr.build, hzr, Result.andThen_ok, run_und hu, hg, h3, Sem.run_pure]
      · obtain ⟨arr', h3, h4⟩ := key (fun i => some (i * n, n)) (by simp) (fun i p q hp hq => by
          simp only [List.getElem?_map, hp, Option.map_some] at hq
          exact hq)
        obtain ⟨h5, h6⟩ := cr_arr h4
        refine Runs.pure (val := .agg arr') hI ?_ (.agg h5 h6)
        simp only [execOp, ho, Sem.run_bind, Instr.build, hzr, Result.andThen_ok, run_und hu, run_sz hn, h3, Sem.run_pure]
    · simp at h
  · simp at h

/-! ### new slices -/

theorem Done.from {S1 : Nat → Prop} {hf hf1 : Nat → Option Ob} {u1 u2 : Upd} {val : Value} {w' : World} (hs : Stp S w S1 w) (he : hf1 = updF u1 hf) (h : Done S1 K w0 w Kn φ hf1 nxt n' v u2 val w') :
    Done S K w0 w Kn φ hf nxt n' v (u2 ++ u1) val w' := by
  obtain ⟨h1, S', φ', h2, h3, h4, h5⟩ := h
  exact ⟨h1, S', φ', hs.trans h2, h3, h4, by rw [updF_append, ← he]; exact h5⟩

theorem chunks_get {α : Type} (sz : Nat) : ∀ (n : Nat) (l : List α), n * sz ≤ l.length → (chunks sz n l).length = n ∧ ∀ i r, (chunks sz n l)[i]? = some r → r = (l.drop (i * sz)).take sz ∧ r.length = sz := by
  intro n
  induction n with
  | zero => intro l _; exact ⟨rfl, fun i r hi => by simp [chunks] at hi⟩
  | succ n ih =>
    intro l hl
    have e1 : (n + 1) * sz = n * sz + sz := Nat.succ_mul n sz
    obtain ⟨h1, h2⟩ := ih (l.drop sz) (by simp; omega)
    refine ⟨by simp [chunks, h1], fun i r hi => ?_⟩
    cases i with
    | zero =>
      obtain rfl : l.take sz = r := by simpa [chunks] using hi
      exact ⟨by simp, by simp; omega⟩
    | succ i =>
      obtain ⟨h3, h4⟩ := h2 i r (by simpa [chunks] using hi)
      refine ⟨?_, h4⟩
      rw [h3, List.drop_drop]
      congr 2
      rw [Nat.succ_mul]; omega

theorem zeros_eq {zc : Array Value} {z : List Value} {sz n : Nat} (hz : zc.toList = z) (hl : z.length = sz) (hpos : 0 < sz) :
    ((Array.range n).map (fun i => zc[i % zc.size]!)).toList = (List.range n).map fun i => z.getD (i % sz) undef := by
  simp only [Array.toList_map, Array.toList_range]
  apply List.map_congr_left
  intro i _
  have e1 : zc.size = sz := by rw [← hl, ← hz]; simp
  have hlt : i % sz < zc.size := by rw [e1]; exact Nat.mod_lt _ hpos
  rw [e1, ← hz]
  have : i % sz < zc.toList.length := by simpa using hlt
  simp [hlt]

theorem op_buildSlice {t el : TypeId} {len n : Nat} {parts : Array (Nat × Operand)} {z : List Value} (ho : o.op = .buildSlice t len parts) (hu : P.underlying t = some (.slice el))
    (hs : szOf P el = some (n + 1)) (hz : zeroOf P el = some z) (hlim : len * (n + 1) ≤ 4096 ∧ z.length = n + 1)
    (hI : Inv S K w0 Kn φ (look H) w) (hn0 : nxt < n' → ¬ Kn nxt) (hρ : ∀ x tv, opv e x = some tv → RTV S w Kn φ tv (ρ x))
    (h : ev1 call (.buildSlice (n + 1) len ((List.range (len * (n + 1))).map fun i => z.getD (i % (n + 1)) undef) (parts.toList.map (·.1))) ((parts.toList.map (·.2)).map (opv e)) H nxt = some (v, u, ids, n')) :
    Runs P o ρ S K w0 w Kn φ (look H) nxt n' v u := by
  generalize hzs : ((List.range (len * (n + 1))).map fun i => z.getD (i % (n + 1)) undef) = zs at h
  change (match allSome ((parts.toList.map (·.2)).map (opv e)) with
    | some xs =>
      (match fillC (lits zs) (((parts.toList.map fun (p : Nat × Operand) => p.1).map fun i => (i * (n + 1), n + 1)).zip xs) with
      | some cs =>
        (match viewCs H cs with
        | some (ds, ids) => (match freezeIds H ids ids with | some u => some (TV.c (.osl (n + 1) nxt 0 len), (nxt, some (Ob.arr (n + 1) (chunks (n + 1) len ds))) :: u, ids, nxt + 1) | none => none)
        | none => none)
      | none => none)
    | none => none) = _ at h
  split at h
  · rename_i xs hxs
    split at h
    · rename_i cs hcs
      split at h
      · rename_i ds ids' hv
        split at h
        · rename_i u' hfz
          obtain ⟨rfl, rfl, rfl, rfl⟩ : TV.c (.osl (n + 1) nxt 0 len) = v ∧ (nxt, some (Ob.arr (n + 1) (chunks (n + 1) len ds))) :: u' = u ∧ ids' = ids ∧ nxt + 1 = n' := by simpa using h
          have hn := hn0 (Nat.lt_succ_self _)
          obtain ⟨hl, hr⟩ := args_get hρ hxs
          obtain ⟨zv, hzr, hzl, hzp⟩ := run_zero hz w
          have hzp' : ∀ x ∈ zs, plain x = true := by
            intro x hx
            rw [← hzs] at hx
            obtain ⟨i, _, rfl⟩ := List.mem_map.1 hx
            have hlt : i % (n + 1) < z.length := by rw [hlim.2]; exact Nat.mod_lt _ (Nat.succ_pos _)
            have : z.getD (i % (n + 1)) undef = z[i % (n + 1)] := by simp [List.getD, hlt]
            rw [this]; exact hzp _ (List.getElem_mem hlt)
          have hzero : ∃ zc : Array Value, (len * (n + 1) = 0 → zc = #[]) ∧ (¬ len * (n + 1) = 0 → zc = zv.cells) ∧
              ((Array.range (len * (n + 1))).map (fun i => zc[i % zc.size]!)).toList = zs := by
            by_cases hc : len * (n + 1) = 0
            · refine ⟨#[], fun _ => rfl, fun h => absurd hc h, ?_⟩
              rw [← hzs, hc]; simp
            · refine ⟨zv.cells, fun h => absurd h hc, fun _ => rfl, ?_⟩
              rw [zeros_eq hzl hlim.2 (Nat.succ_pos _), hzs]
          obtain ⟨zc, hzc, hzc1, hzc2⟩ := hzero
          obtain ⟨arr', h3, h4⟩ := fill_sound (S := S) (w := w) (Kn := Kn) (φ := φ) (ρ := ρ) (fun i => some (i * (n + 1), n + 1)) parts.toList _ xs (lits zs) cs ((Array.range (len * (n + 1))).map (fun i => zc[i % zc.size]!))
            (by simp) (fun i p q hp hq => by simp only [List.getElem?_map, hp, Option.map_some] at hq; exact hq) (by simpa using hl)
            (fun i p x hp hx => hr i p.2 x (by simp only [List.getElem?_map, hp, Option.map_some]) hx) (by rw [hzc2]; exact lits_cr hzp') hcs
          obtain ⟨h5, h6⟩ := cr_arr h4
          have hcl : cs.length = len * (n + 1) := by
            have : ∀ (l : List ((Nat × Nat) × TV)) (a b : List C), fillC a l = some b → b.length = a.length := by
              intro l
              induction l with
              | nil =>
                intro a b h
                obtain rfl : a = b := by simpa [fillC] using h
                rfl
              | cons p l ih =>
                intro a b h
                obtain ⟨⟨off, m⟩, x⟩ := p
                simp only [fillC] at h
                split at h
                · split at h
                  · rename_i hb
                    rw [ih _ _ h, splice_length _ _ _ (by omega)]
                  · simp at h
                · simp at h
            rw [this _ _ _ hcs, ← hzs]
            simp [lits]
          obtain ⟨h7, h8⟩ := viewCs_sound hI cs ds ids' hv (fun i => arr'[i]?) (fun i c hi => by
            have hlt : i < arr'.size := by rw [← h5]; exact (List.getElem?_eq_some_iff.1 hi).1
            exact ⟨arr'.getD i undef, by simp [hlt], h6 i c hi⟩)
          obtain ⟨h9, h10⟩ := chunks_get (n + 1) len ds (by omega)
          have hI1 := hI.freeze hfz
          have hrows : RowsAt (SB S φ ids') w (n + 1) (fun i => arr'[i]?) 0 (chunks (n + 1) len ds) := by
            refine ⟨fun i r hi => (h10 i r hi).2, fun i r hi j x hj => ?_⟩
            rw [(h10 i r hi).1, List.getElem?_take] at hj
            split at hj
            · rw [List.getElem?_drop] at hj
              obtain ⟨y, hy, hd⟩ := h8 _ x hj
              exact ⟨y, by rw [← hy]; simp, hd⟩
            · simp at hj
          have hD := Done.arr (K := K) (w0 := w0) hI1 hn (cap := len) (arr := arr') (sz := n + 1) el (Nat.succ_pos n) (by omega) (by omega) hrows
          rw [h9] at hD
          refine ⟨.value _, _, _, ?_, .inl rfl, Done.from (u1 := u') (SB.stp0 w _) rfl hD⟩
          have h3' : Instr.fill (fun i => some (i * (n + 1), n + 1)) ((Array.range (len * (n + 1))).map (fun i => zc[i % zc.size]!)) (parts.map fun p => (p.1, ρ p.2)).toList = some arr' := by
            rw [← h3]; simp
          have hlim' : ¬ len * (n + 1) > 2 ^ 24 := by have := hlim.1; omega
          simp only [execOp, ho, Sem.run_bind, Instr.buildSlice, run_und hu, Result.andThen_ok, run_sz hs, if_neg hlim']
          by_cases hc : len * (n + 1) = 0
          · rw [hzc hc] at h3'
            simp only [if_pos hc, Sem.run_bind, Sem.run_pure, Result.andThen_ok, h3', newRow, run_newObj]
          · rw [hzc1 hc] at h3'
            simp only [if_neg hc, Sem.run_bind, hzr, Sem.run_pure, Result.andThen_ok, h3', newRow, run_newObj]
        · simp at h
      · simp at h
    · simp at h
  · simp at h

end
end Go.Ev
