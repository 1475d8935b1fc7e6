/- The model's operations against the abstract machine's, second part: functions, new slices, slicing, indexes. Conditions: the relation of XEvC. -/
import Derived.Test.YtjfhiochcdjkhaaEvH
namespace Go.Ev

section
variable {P : Program} {S K : Nat → Prop} {w0 w : World} {Kn : Nat → Prop} {φ : Nat → Loc} {H : Heap} {e : Env} {ρ : Operand → Value} {o : Oper} {call : Call}
  {nxt n' : Nat} {v : TV} {u : Upd} {ids : List Nat}

theorem allSome_get {α : Type} : ∀ {l : List (Option α)} {xs : List α}, allSome l = some xs → l = xs.map some := by
  intro l
  induction l with
  | nil =>
    intro xs h
    obtain rfl : [] = xs := by simpa [allSome] using h
    rfl
  | cons a l ih =>
    intro xs h
    cases a with
    | none => simp [allSome] at h
    | some x =>
      simp only [allSome] at h
      split at h
      · rename_i ys hy
        obtain rfl := Option.some.inj h
        simp [ih hy]
      · simp at h

/-- what a list of operands holds -/
theorem args_get {args : List Operand} {xs : List TV} (hρ : ∀ x tv, opv e x = some tv → RTV S w Kn φ tv (ρ x)) (h : allSome (args.map (opv e)) = some xs) :
    xs.length = args.length ∧ ∀ (i : Nat) (x : Operand) (tv : TV), args[i]? = some x → xs[i]? = some tv → RTV S w Kn φ tv (ρ x) := by
  have h1 := allSome_get h
  have hl : xs.length = args.length := by have := congrArg List.length h1; simpa using this.symm
  refine ⟨hl, fun i x tv hx htv => hρ x tv ?_⟩
  have h2 := congrArg (fun l => l[i]?) h1
  simp only [List.getElem?_map, hx, htv, Option.map_some] at h2
  exact Option.some.inj h2

theorem op_mkFn {f : FuncId} {first captured : Array Operand} (ho : o.op = .makeFunc (.func f) first captured) (hf : first.isEmpty = true) (hI : Inv S K w0 Kn φ (look H) w)
    (hρ : ∀ x tv, opv e x = some tv → RTV S w Kn φ tv (ρ x)) (h : ev1 call (.mkFn f) (captured.toList.map (opv e)) H nxt = some (v, u, ids, n')) : Runs P o ρ S K w0 w Kn φ (look H) nxt n' v u := by
  change (match allSome (captured.toList.map (opv e)) with
    | some xs => (match allSome (xs.map fun (x : TV) => match x with | .c c => some c | _ => none) with | some cs => some (TV.c (.ofn f cs), ([] : Upd), ([] : List Nat), nxt) | none => none)
    | none => none) = _ at h
  split at h
  · rename_i xs hxs
    split at h
    · rename_i cs hcs
      obtain ⟨rfl, rfl, rfl, rfl⟩ : TV.c (.ofn f cs) = v ∧ [] = u ∧ [] = ids ∧ nxt = n' := by simpa using h
      obtain ⟨hl, hr⟩ := args_get hρ hxs
      have h2 := allSome_get hcs
      have hl2 : cs.length = xs.length := by have := congrArg List.length h2; simpa using this.symm
      have hf' : first = #[] := by simpa using hf
      refine Runs.pure (val := .func (.func f) #[] (captured.map ρ)) hI (by simp [execOp, ho, Instr.makeFunc, hf']) (.c (.ofn (by simp [hl2, hl]) fun j c hj => ?_))
      have hj' : j < xs.length := by rw [← hl2]; exact (List.getElem?_eq_some_iff.1 hj).1
      have h3 := congrArg (fun l => l[j]?) h2
      simp only [List.getElem?_map, hj, Option.map_some, List.getElem?_eq_getElem hj'] at h3
      have h4 := Option.some.inj h3
      have hcap : j < captured.size := by rw [hl] at hj'; simpa using hj'
      have hx := hr j captured[j] xs[j] (by simp [hcap]) (List.getElem?_eq_getElem hj')
      have e1 : (captured.map ρ).getD j undef = ρ captured[j] := by simp [hcap]
      rw [e1]
      cases hy : xs[j] with
      | c y =>
        rw [hy] at h4 hx
        obtain rfl : y = c := by simpa using h4
        cases hx with | c hx => exact hx
      | _ => rw [hy] at h4; simp at h4
    · simp at h
  · simp at h

/-! ### bounds -/

theorem wrap_small {n : Int} (h0 : 0 ≤ n) (h1 : n ≤ 2147483648) : IntKind.i64.wrap n = n := by
  unfold IntKind.wrap IntKind.bits IntKind.signed
  simp only [Bool.true_and, decide_eq_true_eq]
  have : n % (2 ^ 64 : Int) = n := Int.emod_eq_of_lt h0 (by omega)
  rw [this]
  split <;> omega

theorem run_asInt {v : Value} {k : IntKind} {n : Int} (h : v = .int k n) : (asInt v).run P w = .ok n w := by subst h; simp [asInt, asIntOf]
theorem run_asIntOf {v : Value} {k : IntKind} {n : Int} (h : v = .int k n) : (asIntOf v).run P w = .ok (k, n) w := by subst h; simp [asIntOf]

theorem intOf_get {tv : Option TV} {val : Value} {n : Int} (h : intOf? tv = some n) (hr : ∀ y, tv = some y → RTV S w Kn φ y val) : ∃ k, val = .int k n := by
  unfold intOf? at h
  split at h
  · obtain rfl := Option.some.inj h
    obtain ⟨hv, _⟩ := (hr _ rfl).lit
    exact ⟨_, hv⟩
  · simp at h

theorem run_sliceBound {v : Value} {k : IntKind} {n : Int} {y : Nat} {code : BoundsCode} (h : v = .int k n) (h0 : 0 ≤ n) (h1 : n ≤ y) : (Instr.sliceBound v y code).run P w = .ok n.toNat w := by
  simp only [Instr.sliceBound, Sem.run_bind, run_asIntOf h, Result.andThen_ok, h0, h1, and_self, if_true, Sem.run_pure]

/-- the bounds of a slice expression -/
theorem run_bounds {isSl : Bool} {len cap : Nat} {lo hi : Option Value} {l h : Option Int} (hlo' : lo.isSome = l.isSome) (hl1 : ∀ x, lo = some x → ∃ k n, x = .int k n ∧ l = some n)
    (hhi' : hi.isSome = h.isSome) (hhi : ∀ x, hi = some x → ∃ k n, x = .int k n ∧ h = some n)
    (h0 : 0 ≤ l.getD 0) (h1 : l.getD 0 ≤ h.getD len) (h2 : h.getD len ≤ cap) :
    (Instr.sliceBounds isSl len cap lo hi none).run P w = .ok ((l.getD 0).toNat, (h.getD len).toNat, cap) w := by
  unfold Instr.sliceBounds
  cases hi with
  | none =>
    cases h with
    | some _ => simp at hhi'
    | none =>
      cases lo with
      | none =>
        cases l with
        | some _ => simp at hlo'
        | none => simp
      | some x =>
        obtain ⟨k, n, rfl, rfl⟩ := hl1 x rfl
        simp only [Option.getD_some, Option.getD_none] at h0 h1
        have := run_sliceBound (P := P) (w := w) (v := .int k n) (y := len) (code := .sliceB) rfl h0 h1
        simp [this]
  | some y =>
    obtain ⟨k, n, rfl, rfl⟩ := hhi y rfl
    simp only [Option.getD_some] at h1 h2
    have hb := run_sliceBound (P := P) (w := w) (v := .int k n) (y := cap) (code := if isSl then .sliceAcap else .sliceAlen) rfl (by omega) h2
    cases lo with
    | none =>
      cases l with
      | some _ => simp at hlo'
      | none => simp [hb]
    | some x =>
      obtain ⟨k', n', rfl, rfl⟩ := hl1 x rfl
      simp only [Option.getD_some] at h0 h1
      have := run_sliceBound (P := P) (w := w) (v := .int k' n') (y := n.toNat) (code := .sliceB) rfl h0 (by omega)
      simp [hb, this]

/-- a slice expression, whatever its bounds -/
theorem run_evSlice {str : Bool} {sz : Nat} {t : TypeId} {x y : C} {val : Value} {lo hi : Option Value} {l h : Option Int}
    (hu : if str then P.underlying t = some .string else ∃ el, P.underlying t = some (.slice el) ∧ szOf P el = some sz) (hr : RC S w Kn φ x val)
    (hlo' : lo.isSome = l.isSome) (hl1 : ∀ x, lo = some x → ∃ k n, x = .int k n ∧ l = some n) (hhi' : hi.isSome = h.isSome) (hhi : ∀ x, hi = some x → ∃ k n, x = .int k n ∧ h = some n)
    (hs : evSlice str sz x l h = some y) : ∃ val', (Instr.sliceAt t val lo hi none).run P w = .ok val' w ∧ RC S w Kn φ y val' := by
  unfold evSlice at hs
  cases str with
  | true =>
    simp only [if_true] at hs hu
    split at hs
    · rename_i s
      split at hs
      · rename_i hb
        obtain ⟨hb1, hb2, hb3⟩ := hb
        obtain rfl := Option.some.inj hs
        cases hr with
        | d hd => cases hd with
          | lit hp =>
            have := run_bounds (P := P) (w := w) (isSl := false) (len := s.size) (cap := s.size) hlo' hl1 hhi' hhi hb1 hb2 hb3
            exact ⟨.string (s.extract (l.getD 0).toNat (h.getD s.size).toNat), by simp [Instr.sliceAt, Instr.slice, run_und hu, this], .d (.lit rfl)⟩
      · simp at hs
    · simp at hs
  | false =>
    simp only [Bool.false_eq_true, if_false] at hs hu
    obtain ⟨el, hu, hsz⟩ := hu
    have run : ∀ (a : Addr) (len cap : Nat), val = .slice (some a) len cap → 0 ≤ l.getD 0 → l.getD 0 ≤ h.getD len → h.getD len ≤ cap → (cap ≠ (l.getD 0).toNat → a.spot = none) →
        (Instr.sliceAt t val lo hi none).run P w = .ok (.slice (some (if cap = (l.getD 0).toNat then a else ⟨a.block, a.off + (l.getD 0).toNat * sz, none⟩))
          ((h.getD len).toNat - (l.getD 0).toNat) (cap - (l.getD 0).toNat)) w := by
      intro a len cap hv h0 h1 h2 hsp
      have hb := run_bounds (P := P) (w := w) (isSl := true) (len := len) (cap := cap) hlo' hl1 hhi' hhi h0 h1 h2
      simp only [Instr.sliceAt, Instr.slice, Sem.run_bind, run_und hu, Result.andThen_ok, hv, hb, run_sz hsz, Sem.run_pure]
      congr 2
      split
      · rfl
      · rename_i hne
        obtain ⟨b, off, spot⟩ := a
        obtain rfl : spot = none := hsp hne
        simp [add_eq]
    split at hs
    · split at hs
      · rename_i hb
        obtain ⟨hb1, hb2, hb3⟩ := hb
        obtain rfl := Option.some.inj hs
        cases hr with
        | d hd => cases hd with
          | lit hp =>
            have e1 : l.getD 0 = 0 := by omega
            have e2 : h.getD 0 = 0 := by omega
            have hb := run_bounds (P := P) (w := w) (isSl := true) (len := 0) (cap := 0) hlo' hl1 hhi' hhi hb1 (by simpa using hb2) (by simpa using hb3)
            refine ⟨.slice none 0 0, ?_, .d (.lit rfl)⟩
            have e3 : h.getD (((0 : Nat) : Int)) = 0 := e2
            rw [e1, e3] at hb
            simp only [Instr.sliceAt, Instr.slice, Sem.run_bind, run_und hu, Result.andThen_ok, hb, run_sz hsz, Sem.run_pure]
            rfl
      · simp at hs
    · rename_i sz' id off len
      split at hs
      · rename_i hb
        obtain ⟨hb0, hb1, hb2, hb3⟩ := hb
        obtain rfl := Option.some.inj hs
        cases hr with
        | @osl _ _ _ cap addr hk hcap haddr hext =>
          subst hb0
          refine ⟨_, run _ len cap rfl hb1 hb2 (by omega) (fun _ => rfl), ?_⟩
          have hle : (l.getD 0).toNat ≤ cap := by omega
          by_cases e : cap = (l.getD 0).toNat
          · rw [if_pos e]
            exact .osl hk (by omega) (fun h => by omega) (by rw [← e, Nat.sub_self]; omega)
          · rw [if_neg e]
            have ha := haddr (by omega)
            refine .osl hk (by omega) (fun _ => ?_) ?_
            · show addr + _ = _
              rw [ha, Nat.add_mul]; omega
            · have : (l.getD 0).toNat * (φ id).sz + (cap - (l.getD 0).toNat) * (φ id).sz = cap * (φ id).sz := by rw [← Nat.add_mul]; congr 1; omega
              show addr + _ + _ ≤ _
              omega
      · simp at hs
    · rename_i sz' rows
      split at hs
      · rename_i hb
        obtain ⟨hb0, hb1, hb2, hb3⟩ := hb
        obtain rfl := Option.some.inj hs
        cases hr with
        | d hd =>
          cases hd with
          | @sl _ _ b off cap g hb hsz0 hcap hrow hcell hrd =>
            subst hb0
            refine ⟨_, run _ rows.length cap rfl hb1 hb2 (by omega) (fun _ => rfl), ?_⟩
            have hR : RowsAt S w sz' (fun i => w.cell? ⟨b, i, none⟩) off rows := ⟨hrow, fun i r hi j x hj => ⟨_, hcell i r hi j x hj, hrd i r hi j x hj⟩⟩
            have hlen : ((rows.drop (l.getD 0).toNat).take ((h.getD rows.length).toNat - (l.getD 0).toNat)).length = (h.getD rows.length).toNat - (l.getD 0).toNat := by simp; omega
            by_cases e : cap = (l.getD 0).toNat
            · rw [if_pos e]
              exact .d (.sl_of hb hsz0 hlen (by omega) (hR.sub' _ _ fun h => by omega))
            · rw [if_neg e]
              exact .d (.sl_of hb hsz0 hlen (by omega) (hR.sub' _ _ fun _ => rfl))
          | @sl0 _ a hsz0 =>
            subst hb0
            simp only [List.length_nil] at hb1 hb2 hb3
            have e1 : l.getD 0 = 0 := by
              have h2 : l.getD 0 ≤ h.getD 0 := hb2
              have h3 : h.getD 0 ≤ 0 := hb3
              omega
            refine ⟨_, run _ 0 0 rfl hb1 hb2 (by simpa using hb3) (fun hne => absurd (by rw [e1]; rfl) hne), ?_⟩
            rw [if_pos (by rw [e1]; rfl)]
            have e2 : (([] : List (List D)).drop (l.getD 0).toNat).take ((h.getD ([] : List (List D)).length).toNat - (l.getD 0).toNat) = [] := by simp
            rw [e2]
            have e3 : (h.getD ((0 : Nat) : Int)).toNat - (l.getD 0).toNat = 0 := by
              have h3 : h.getD 0 ≤ 0 := hb3
              have h4 : h.getD ((0 : Nat) : Int) = h.getD 0 := rfl
              rw [h4]; omega
            have e4 : (0 : Nat) - (l.getD 0).toNat = 0 := by omega
            first
              | (rw [e3, e4]; exact .d (.sl0 hsz0))
              | (simp [e1] at hb3 ⊢; exact .d (.sl0 hsz0))
      · simp at hs
    · simp at hs

theorem op_slice {str : Bool} {sz : Nat} {t : TypeId} {x : Operand} {lo hi : Option Operand} (ho : o.op = .slice t x lo hi none)
    (hu : if str then P.underlying t = some .string else ∃ el, P.underlying t = some (.slice el) ∧ szOf P el = some sz) (hI : Inv S K w0 Kn φ (look H) w)
    (hρ : ∀ x tv, opv e x = some tv → RTV S w Kn φ tv (ρ x))
    (h : ev1 call (.slice str sz lo.isSome hi.isSome) ((x :: lo.toList ++ hi.toList).map (opv e)) H nxt = some (v, u, ids, n')) : Runs P o ρ S K w0 w Kn φ (look H) nxt n' v u := by
  simp only [List.cons_append, List.map_cons, List.map_append] at h
  cases hx : opv e x with
  | none => rw [hx] at h; cases lo <;> cases hi <;> simp [ev1] at h
  | some tv =>
    rw [hx] at h
    cases tv with
    | agg cs => cases lo <;> cases hi <;> simp [ev1] at h
    | tup xs => cases lo <;> cases hi <;> simp [ev1] at h
    | c c =>
      have hr := hρ x _ hx
      cases hr with
      | c hr =>
      have fin : ∀ l h', lo.isSome = l.isSome → (∀ y, lo = some y → intOf? (opv e y) = l) → hi.isSome = h'.isSome → (∀ y, hi = some y → intOf? (opv e y) = h') →
          (match evSlice str sz c l h' with | some y => some (TV.c y, ([] : Upd), ([] : List Nat), nxt) | none => none) = some (v, u, ids, n') → Runs P o ρ S K w0 w Kn φ (look H) nxt n' v u := by
        intro l h' e1 e2 e3 e4 hm
        split at hm
        · rename_i y hy
          obtain ⟨rfl, rfl, rfl, rfl⟩ : TV.c y = v ∧ [] = u ∧ [] = ids ∧ nxt = n' := by simpa using hm
          have conv : ∀ (q : Option Operand) (l : Option Int), q.isSome = l.isSome → (∀ y, q = some y → intOf? (opv e y) = l) → ∀ x, q.map ρ = some x → ∃ k n, x = .int k n ∧ l = some n := by
            intro q l e1 e2 x hq
            cases q with
            | none => simp at hq
            | some y =>
              obtain rfl : ρ y = x := by simpa using hq
              cases l with
              | none => simp at e1
              | some n =>
                obtain ⟨k, hk⟩ := intOf_get (e2 y rfl) (hρ y)
                exact ⟨k, n, hk, rfl⟩
          obtain ⟨val', h1, h2⟩ := run_evSlice (P := P) (lo := lo.map ρ) (hi := hi.map ρ) hu hr (by simpa using e1) (conv lo l e1 e2) (by simpa using e3) (conv hi h' e3 e4) hy
          exact Runs.pure hI (by simp [execOp, ho, h1]) (.c h2)
        · simp at hm
      cases lo with
      | none =>
        cases hi with
        | none => exact fin none none rfl (fun y hy => by simp at hy) rfl (fun y hy => by simp at hy) h
        | some z =>
          change (match intOf? (opv e z) with | some u => (match evSlice str sz c none (some u) with | some y => some (TV.c y, ([] : Upd), ([] : List Nat), nxt) | none => none) | none => none) = _ at h
          split at h
          · rename_i n hn
            exact fin none (some n) rfl (fun y hy => by simp at hy) rfl (fun y hy => Option.some.inj hy ▸ hn) h
          · simp at h
      | some q =>
        cases hi with
        | none =>
          change (match intOf? (opv e q) with | some l => (match evSlice str sz c (some l) none with | some y => some (TV.c y, ([] : Upd), ([] : List Nat), nxt) | none => none) | none => none) = _ at h
          split at h
          · rename_i n hn
            exact fin (some n) none rfl (fun y hy => Option.some.inj hy ▸ hn) rfl (fun y hy => by simp at hy) h
          · simp at h
        | some z =>
          change (match intOf? (opv e q), intOf? (opv e z) with
            | some l, some u => (match evSlice str sz c (some l) (some u) with | some y => some (TV.c y, ([] : Upd), ([] : List Nat), nxt) | none => none)
            | _, _ => none) = _ at h
          split at h
          · rename_i m n hm hn
            exact fin (some m) (some n) rfl (fun y hy => Option.some.inj hy ▸ hm) rfl (fun y hy => Option.some.inj hy ▸ hn) h
          · simp at h

theorem op_indexAddr {t : TypeId} {x i : Operand} {arr : Option Nat} {sz : Nat} (ho : o.op = .indexAddr t x i)
    (hu : match arr with | none => ∃ el, P.underlying t = some (.slice el) ∧ szOf P el = some sz | some len => ∃ el, P.underlying t = some (.array len el) ∧ szOf P el = some sz)
    (hI : Inv S K w0 Kn φ (look H) w) {tx ti : Option TV} (hx : ∀ y, tx = some y → RTV S w Kn φ y (ρ x)) (hi : ∀ y, ti = some y → RTV S w Kn φ y (ρ i))
    (h : ev1 call (.indexAddr arr sz) [tx, ti] H nxt = some (v, u, ids, n')) : Runs P o ρ S K w0 w Kn φ (look H) nxt n' v u := by
  match tx, h, hx with
  | some (.c c), h, hx =>
    change (match intOf? ti with | some i => (match evIndexAddr arr sz c i with | some y => some (TV.c y, ([] : Upd), ([] : List Nat), nxt) | none => none) | none => none) = _ at h
    split at h
    · rename_i n hn
      obtain ⟨k, hk⟩ := intOf_get hn hi
      split at h
      · rename_i y hy
        obtain ⟨rfl, rfl, rfl, rfl⟩ : TV.c y = v ∧ [] = u ∧ [] = ids ∧ nxt = n' := by simpa using h
        have hr := hx _ rfl
        generalize hv0 : ρ x = val at hr
        cases hr with
        | c hr =>
        cases arr with
        | none =>
          obtain ⟨el, hu, hsz⟩ := hu
          simp only [evIndexAddr] at hy
          have run : ∀ b off len cap, val = .slice (some ⟨b, off, none⟩) len cap → 0 ≤ n → n < len → (execOp ρ o).run P w = .ok (.value (.pointer (some ⟨b, off + n.toNat * sz, none⟩))) w := by
            intro b off len cap hv h0 h1
            simp [execOp, ho, hv0, hv, Instr.indexAt, run_asIntOf hk, run_und hu, h0, h1, run_sz hsz, add_eq]
          split at hy
          · rename_i sz' id off len
            split at hy
            · rename_i hb
              obtain ⟨h0, h1, rfl⟩ := hb
              obtain rfl := Option.some.inj hy
              cases hr with
              | @osl _ _ _ cap addr hkn hcap haddr hext =>
                refine Runs.pure hI (run _ _ _ _ rfl h0 h1) (.c ?_)
                have ha := haddr (by omega)
                have e1 : addr + n.toNat * (φ id).sz = (φ id).base + (off + n.toNat) * (φ id).sz + 0 := by rw [ha, Nat.add_mul]; omega
                rw [e1]; exact .ep hkn
            · simp at hy
          · rename_i sz' rows
            split at hy
            · rename_i hb
              obtain ⟨h0, rfl⟩ := hb
              split at hy
              · rename_i r hr'
                obtain rfl := Option.some.inj hy
                cases hr with
                | d hd =>
                  cases hd with
                  | @sl _ _ b off cap g hb hsz0 hcap hrow hcell hrd =>
                    have hlt : n.toNat < rows.length := (List.getElem?_eq_some_iff.1 hr').1
                    refine Runs.pure hI (run _ _ _ _ rfl h0 (by omega)) (.c (.d (.pt_of hb fun j z hj => ⟨_, hcell _ _ hr' j z hj, hrd _ _ hr' j z hj⟩)))
                  | sl0 => simp at hr'
              · simp at hy
            · simp at hy
          · simp at hy
        | some len =>
          obtain ⟨el, hu, hsz⟩ := hu
          simp only [evIndexAddr] at hy
          split at hy
          · rename_i hb
            obtain ⟨h0, h1⟩ := hb
            have run : ∀ b off, val = .pointer (some ⟨b, off, none⟩) → (execOp ρ o).run P w = .ok (.value (.pointer (some ⟨b, off + n.toNat * sz, none⟩))) w := by
              intro b off hv
              have hu' : ∀ w, (underlying t).run P w = .ok (.array len el) w := run_und hu
              simp only [execOp, ho, hv0, hv, Instr.indexAt, Sem.run_bind, run_asIntOf hk, Result.andThen_ok, hu', Instr.sureAddr, Sem.run_pure, h0, h1, and_self, if_true, run_sz hsz, add_eq]
            split at hy
            · rename_i id off
              obtain rfl := Option.some.inj hy
              cases hr with
              | op hkn =>
                refine Runs.pure hI (run _ _ rfl) (.c ?_)
                rw [Nat.add_assoc]; exact .op hkn
            · rename_i id row off
              obtain rfl := Option.some.inj hy
              cases hr with
              | ep hkn =>
                refine Runs.pure hI (run _ _ rfl) (.c ?_)
                rw [Nat.add_assoc]; exact .ep hkn
            · rename_i cells
              split at hy
              · obtain rfl := Option.some.inj hy
                cases hr with
                | d hd =>
                  cases hd with
                  | @pt _ b off g hb hcell hrd =>
                    refine Runs.pure hI (run _ _ rfl) (.c (.d (.pt_of hb fun j z hj => ?_)))
                    rw [List.getElem?_drop] at hj
                    exact ⟨_, by rw [Nat.add_assoc]; exact hcell _ _ hj, hrd _ _ hj⟩
              · simp at hy
            · simp at hy
          · simp at hy
      · simp at h
    · simp at h

theorem op_indexStr {t : TypeId} {x i : Operand} (ho : o.op = .index t x i) (hu : P.underlying t = some .string) (hI : Inv S K w0 Kn φ (look H) w)
    {tx ti : Option TV} (hx : ∀ y, tx = some y → RTV S w Kn φ y (ρ x)) (hi : ∀ y, ti = some y → RTV S w Kn φ y (ρ i))
    (h : ev1 call .indexStr [tx, ti] H nxt = some (v, u, ids, n')) : Runs P o ρ S K w0 w Kn φ (look H) nxt n' v u := by
  match tx, h, hx with
  | some (.c (.d (.lit (.string s)))), h, hx =>
    change (match intOf? ti with | some i => (match (if 0 ≤ i then s[i.toNat]? else none) with | some b => some (lv (.int .u8 b.toNat), ([] : Upd), ([] : List Nat), nxt) | none => none) | none => none) = _ at h
    split at h
    · rename_i n hn
      obtain ⟨k, hk⟩ := intOf_get hn hi
      split at h
      · rename_i b hb
        obtain ⟨rfl, rfl, rfl, rfl⟩ : lv (.int .u8 b.toNat) = v ∧ [] = u ∧ [] = ids ∧ nxt = n' := by simpa using h
        obtain ⟨hv, _⟩ := (hx _ rfl).lit
        exact Runs.pure hI (by simp [execOp, ho, hv, Instr.index, run_asIntOf hk, run_und hu, hb]) (.of_lit rfl)
      · simp at h
    · simp at h

/-- a part of a value -/
theorem run_part {t : TypeId} {agg : Bool} {n off : Nat} (ha : aggOf P t = some agg) (hn : szOf P t = some n) {cs : List C} {arr : Array Value} {v : TV} (hlen : cs.length = arr.size)
    (hc : ∀ (i : Nat) (x : C), cs[i]? = some x → RC S w Kn φ x (arr.getD i undef)) (h : ldC agg n (cs.drop off) = some v) : ∃ val, (part t arr off).run P w = .ok val w ∧ RTV S w Kn φ v val := by
  unfold ldC at h
  cases agg with
  | true =>
    simp only [if_true] at h
    split at h
    · rename_i hle
      obtain rfl := Option.some.inj h
      simp only [List.length_drop] at hle
      refine ⟨.agg (arr.extract off (off + n)), by simp [part, run_agg ha, run_sz hn], .agg ?_ fun i x hi => ?_⟩
      · simp; omega
      · rw [List.getElem?_take] at hi
        split at hi
        · rename_i hin
          rw [List.getElem?_drop] at hi
          have hlt : off + i < arr.size := by rw [← hlen]; exact (List.getElem?_eq_some_iff.1 hi).1
          have e1 : (arr.extract off (off + n)).getD i undef = arr.getD (off + i) undef := by
            have h1 : (arr.extract off (off + n))[i]? = arr[off + i]? := by
              rw [Array.getElem?_extract, if_pos (by omega)]
            simp only [Array.getD_eq_getD_getElem?, h1]
          rw [e1]; exact hc _ _ hi
        · simp at hi
    · simp at h
  | false =>
    simp only [Bool.false_eq_true, if_false] at h
    split at h
    · rename_i x r hd
      obtain rfl := Option.some.inj h
      have hx : cs[off]? = some x := by have := congrArg (fun l => l[0]?) hd; simpa using this
      have hlt : off < arr.size := by rw [← hlen]; exact (List.getElem?_eq_some_iff.1 hx).1
      refine ⟨arr.getD off undef, ?_, .c (hc _ _ hx)⟩
      simp [part, run_agg ha, hlt]
    · simp at h

theorem op_field {s : TypeId} {f n : Nat} {agg : Bool} {fields : Array Field} {fl : Field} {x : Operand} (ho : o.op = .field s x f) (hu : P.underlying s = some (.struct fields)) (hf : fields[f]? = some fl)
    (ha : aggOf P fl.type = some agg) (hs : szOf P fl.type = some n) (hI : Inv S K w0 Kn φ (look H) w) {tv : Option TV} (hx : ∀ y, tv = some y → RTV S w Kn φ y (ρ x))
    (h : ev1 call (.field agg fl.offset n) [tv] H nxt = some (v, u, ids, n')) : Runs P o ρ S K w0 w Kn φ (look H) nxt n' v u := by
  match tv, h, hx with
  | some (.agg cs), h, hx =>
    change (match ldC agg n (cs.drop fl.offset) with | some v => some (v, ([] : Upd), ([] : List Nat), nxt) | none => none) = _ at h
    split at h
    · rename_i y hy
      obtain ⟨rfl, rfl, rfl, rfl⟩ : y = v ∧ [] = u ∧ [] = ids ∧ nxt = n' := by simpa using h
      have hr := hx _ rfl
      generalize hv0 : ρ x = val at hr
      cases hr with
      | agg hlen hc =>
        obtain ⟨val, h1, h2⟩ := run_part ha hs hlen hc hy
        exact Runs.pure hI (by simp [execOp, ho, hv0, Instr.field, run_und hu, hf, asAgg, h1]) h2
    · simp at h

theorem op_index {t el : TypeId} {len n : Nat} {agg : Bool} {x i : Operand} (ho : o.op = .index t x i) (hu : P.underlying t = some (.array len el))
    (ha : aggOf P el = some agg) (hs : szOf P el = some n) (hI : Inv S K w0 Kn φ (look H) w) {tx ti : Option TV} (hx : ∀ y, tx = some y → RTV S w Kn φ y (ρ x)) (hi : ∀ y, ti = some y → RTV S w Kn φ y (ρ i))
    (h : ev1 call (.index agg len n) [tx, ti] H nxt = some (v, u, ids, n')) : Runs P o ρ S K w0 w Kn φ (look H) nxt n' v u := by
  match tx, h, hx with
  | some (.agg cs), h, hx =>
    change (match intOf? ti with | some i => (if 0 ≤ i ∧ i < len then (match ldC agg n (cs.drop (i.toNat * n)) with | some v => some (v, ([] : Upd), ([] : List Nat), nxt) | none => none) else none) | none => none) = _ at h
    split at h
    · rename_i m hm
      obtain ⟨k, hk⟩ := intOf_get hm hi
      split at h
      · rename_i hb
        split at h
        · rename_i y hy
          obtain ⟨rfl, rfl, rfl, rfl⟩ : y = v ∧ [] = u ∧ [] = ids ∧ nxt = n' := by simpa using h
          have hr := hx _ rfl
          generalize hv0 : ρ x = val at hr
          cases hr with
          | agg hlen hc =>
            obtain ⟨val, h1, h2⟩ := run_part ha hs hlen hc hy
            exact Runs.pure hI (by simp [execOp, ho, hv0, Instr.index, run_asIntOf hk, run_und hu, hb.1, hb.2, run_sz hs, h1]) h2
        · simp at h
      · simp at h
    · simp at h

end
end Go.Ev
