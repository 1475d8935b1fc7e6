/- A region in the text's order, numbers made small again, against the abstract machine's. Conditions: the relation of XEvC; the oracle's answers are good. -/
import Derived.Test.YtjfhiochcdjkhaaEvP
namespace Go.Ev

/-- an operation, translated; nt: how many slots the frame has -/
def compOp (P : Program) (sig : Sig) (nt : Nat) (all : Array Oper) (o : Oper) : COp :=
  { dst := o.dst
    k := if (match o.dst with | some d => decide (d < nt) | none => true) then (compK P sig o.op).1 else .bad
    args := (compK P sig o.op).2
    guard := match o.guard with | none => none | some (j, b) => some (((all[j]?).bind (·.dst)).getD 1000000000, b) }

structure Rel (S K : Nat → Prop) (w0 : World) (Kn : Nat → Prop) (φ : Nat → Loc) (gv : List Value) (nt : Nat) (s : St) (a : Act) (w : World) : Prop where
  inv : Inv S K w0 Kn φ (look s.heap) w
  env : Env.ok S w Kn φ s.env a.tmps
  size : a.tmps.size = nt
  defers : a.defers = []
  fresh : ∀ j, s.next ≤ j → ¬ Kn j
  gh : ∀ (i : Nat) (c : C) (v : Value), s.gh[i]? = some c → gv[i]? = some v → RC S w Kn φ c v

/-- the state is related, for some names -/
def Ok (S : Nat → Prop) (K : Nat → Prop) (w0 : World) (gv : List Value) (nt : Nat) (s : St) (a : Act) (w : World) : Prop := ∃ Kn φ, Rel S K w0 Kn φ gv nt s a w

section
variable {P : Program} {S K : Nat → Prop} {w0 w : World} {Kn : Nat → Prop} {φ : Nat → Loc} {gv : List Value} {nt : Nat} {a : Act} {call : Call} {sig : Sig} {s s' : St}

theorem put_get {a : Act} {d : Nat} {v : Value} (h : d < a.tmps.size) (t : Nat) : (a.put (some d) v).tmps.getD t undef = if t = d then v else a.tmps.getD t undef := by
  simp only [Act.put, Array.getD_eq_getD_getElem?, Array.getElem?_setIfInBounds]
  by_cases e : d = t
  · subst e; simp [h]
  · have e2 : ¬ t = d := fun h => e h.symm
    simp [e, e2]

theorem put_size {a : Act} (d : Option Nat) (v : Value) : (a.put d v).tmps.size = a.tmps.size := by
  cases d <;> simp [Act.put]

theorem put_defers {a : Act} (d : Option Nat) (v : Value) : (a.put d v).defers = a.defers := by
  cases d <;> simp [Act.put]

theorem fnd_put (e : Env) (d : Option Nat) (v : TV) (t : Nat) : fnd (put e d v) t = if d = some t then some v else fnd e t := by
  cases d with
  | none => simp [put]
  | some d =>
    simp only [put, fnd]
    by_cases h : d = t
    · simp [h]
    · have h' : (d == t) = false := by simpa using h
      simp [h, h']

theorem fnd_drop (e : Env) (d : Option Nat) (t : Nat) : fnd (drop e d) t = if d = some t then some (.tup []) else fnd e t := fnd_put e d (.tup []) t

theorem Env.put_ok {e : Env} {S' : Nat → Prop} {w' : World} {Kn' : Nat → Prop} {φ' : Nat → Loc} (hE : Env.ok S w Kn φ e a.tmps) (hs : Stp S w S' w') (hr : Ren Kn φ Kn' φ') {d : Option Nat} {v : TV} {val : Value}
    (hd : ∀ x, d = some x → x < a.tmps.size) (hv : RTV S' w' Kn' φ' v val) : Env.ok S' w' Kn' φ' (Ev.put e d v) (a.put d val).tmps := by
  intro t x hx
  rw [fnd_put] at hx
  cases d with
  | none =>
    simp only [reduceCtorEq, if_false] at hx
    exact (hE t x hx).mono hs hr
  | some d =>
    rw [put_get (hd d rfl)]
    by_cases h : t = d
    · subst h
      simp only [if_true] at hx
      rw [if_pos rfl, ← Option.some.inj hx]; exact hv
    · have h2 : ¬ (some d = some t) := fun e => h (Option.some.inj e).symm
      rw [if_neg h2] at hx
      rw [if_neg h]; exact (hE t x hx).mono hs hr

theorem Env.drop_ok {e : Env} (hE : Env.ok S w Kn φ e a.tmps) {d : Option Nat} : Env.ok S w Kn φ (Ev.drop e d) (a.put d undef).tmps := by
  intro t x hx
  rw [fnd_drop] at hx
  have hu : RTV S w Kn φ (.tup []) undef := .tup rfl fun i x hi => by simp at hi
  split at hx
  · rename_i h
    subst h
    obtain rfl := Option.some.inj hx
    have : (a.put (some t) undef).tmps.getD t undef = undef := by
      simp only [Act.put, Array.getD_eq_getD_getElem?, Array.getElem?_setIfInBounds, if_true]
      split <;> rfl
    rw [this]; exact hu
  · rename_i h
    have := hE t x hx
    cases d with
    | none => exact this
    | some d =>
      have h2 : ¬ d = t := fun e => h (by rw [e])
      simp only [Act.put, Array.getD_eq_getD_getElem?, Array.getElem?_setIfInBounds, if_neg h2]
      rw [Array.getD_eq_getD_getElem?] at this
      exact this

/-- whether an operation is wanted: as the environment says -/
theorem wants_sound {e : Env} (hE : Env.ok S w Kn φ e a.tmps) (hsz : a.tmps.size < 1000000000) {all : Array Oper} {o : Oper} {b : Bool} (h : wants e (compOp P sig nt all o).guard = some b) :
    Region.wanted o (yielded all a.tmps) = b := by
  unfold compOp at h
  simp only at h
  unfold Region.wanted
  cases hg : o.guard with
  | none =>
    rw [hg] at h
    simpa [wants] using h
  | some p =>
    obtain ⟨j, want⟩ := p
    rw [hg] at h
    simp only [wants] at h
    split at h
    · rename_i x hx
      have hr := hE _ _ hx
      obtain ⟨hv, _⟩ := hr.lit
      cases hd : (all[j]?).bind (·.dst) with
      | none =>
        rw [hd] at hv
        simp only [Option.getD_none] at hv
        rw [Array.getD_eq_getD_getElem?, Array.getElem?_eq_none (by omega)] at hv
        simp [undef] at hv
      | some t =>
        rw [hd] at hv
        simp only [Option.getD_some] at hv
        have ht : a.tmps[t]? = some (.bool x) := by
          rw [Array.getD_eq_getD_getElem?] at hv
          cases ht : a.tmps[t]? with
          | none => rw [ht] at hv; simp [undef] at hv
          | some y => rw [ht] at hv; simpa using hv
        obtain rfl := Option.some.inj h
        simp only [yielded, hd, Option.bind_some, ht]
        cases x <;> cases want <;> rfl
    · rename_i hx
      have hr := hE _ _ hx
      obtain rfl := Option.some.inj h
      cases hd : (all[j]?).bind (·.dst) with
      | none => simp only [yielded, hd, Option.bind_none]; rfl
      | some t =>
        rw [hd] at hr
        simp only [Option.getD_some] at hr
        generalize hv : a.tmps.getD t undef = v at hr
        cases hr with
        | @tup _ arr hlen _ =>
          rw [Array.getD_eq_getD_getElem?] at hv
          simp only [yielded, hd, Option.bind_some]
          cases ht : a.tmps[t]? with
          | none => rfl
          | some y =>
            rw [ht] at hv
            simp only [Option.getD_some] at hv
            subst hv; rfl
    · simp at h

/-- a region in the text's order -/
theorem ops_sound (hok : CallOk P call) {all : Array Oper} {Q : Exit → Act → World → Prop} (hnt : nt < 1000000000) : ∀ (l : List Nat) (os : List Oper) (s s' : St) (S : Nat → Prop) (Kn : Nat → Prop) (φ : Nat → Loc) (a : Act) (w : World),
    (∀ (i j : Nat), l[i]? = some j → all[j]? = os[i]?) → l.length = os.length → evOps call (os.map (compOp P sig nt all)) s = some s' → Rel S K w0 Kn φ gv nt s a w →
    (∀ S' Kn' φ' a' w', Stp S w S' w' → Rel S' K w0 Kn' φ' gv nt s' a' w' → Q .normal a' w') → wpOps P all Q l a w := by
  intro l
  induction l with
  | nil =>
    intro os s s' S Kn φ a w _ hl h hR hQ
    obtain rfl : os = [] := List.length_eq_zero_iff.1 hl.symm
    obtain rfl : s = s' := by simpa [evOps] using h
    exact hQ S Kn φ a w (Stp.refl _ _) hR
  | cons i l ih =>
    intro os s s' S Kn φ a w hi hl h hR hQ
    cases os with
    | nil => simp at hl
    | cons o os =>
      have ho : all[i]? = some o := by simpa using hi 0 i rfl
      simp only [List.map_cons, evOps] at h
      simp only [wpOps, ho]
      split at h
      · rename_i hw
        have hwant := wants_sound hR.env (by rw [hR.size]; exact hnt) hw
        rw [if_pos hwant]
        split at h
        · rename_i v u ids n hev
          left
          have hdst : ∀ x, o.dst = some x → x < a.tmps.size := by
            intro x hx
            rw [hR.size]
            rcases Nat.lt_or_ge x nt with h1 | h1
            · exact h1
            · exfalso
              have : (compOp P sig nt all o).k = .bad := by
                simp only [compOp, hx]
                rw [if_neg (by simp; omega)]
              rw [this, bad_none] at hev
              simp at hev
          have hk : compK P sig o.op = ((compOp P sig nt all o).k, (compOp P sig nt all o).args) := by
            have : (compOp P sig nt all o).k = (compK P sig o.op).1 := by
              simp only [compOp]
              rw [if_pos]
              cases hd : o.dst with
              | none => rfl
              | some d => have := hdst d hd; rw [hR.size] at this; simpa using this
            rw [this]; rfl
          have hgo := op_sound hok hk hR.inv hR.env (fun j hj _ => hR.fresh j hj) hev
          refine hgo _ _ fun val w' hD => ?_
          obtain ⟨hle, S', φ', h1, h2, h3, h4⟩ := hD
          refine ih os _ s' S' (KnU Kn s.next n) φ' _ w' (fun i' j hj => hi (i' + 1) j (by simpa using hj)) (by simpa using hl) h ⟨?_, ?_, ?_, ?_, ?_, ?_⟩ fun S2 Kn2 φ2 a2 w2 h5 h6 => hQ S2 Kn2 φ2 a2 w2 (h1.trans h5) h6
          · simp only [look_append]; exact h4
          · exact Env.put_ok hR.env h1 h2 hdst h3
          · rw [put_size]; exact hR.size
          · rw [put_defers]; exact hR.defers
          · intro j hj hk
            simp only at hj
            rcases hk with hk | hk
            · exact hR.fresh j (by omega) hk
            · omega
          · intro i c v hc hv
            exact (hR.gh i c v hc hv).mono h1 h2
        · simp at h
      · rename_i hw
        have hwant := wants_sound hR.env (by rw [hR.size]; exact hnt) hw
        rw [if_neg (by simp [hwant])]
        refine ih os _ s' S Kn φ _ w (fun i' j hj => hi (i' + 1) j (by simpa using hj)) (by simpa using hl) h ⟨hR.inv, ?_, ?_, ?_, hR.fresh, hR.gh⟩ hQ
        · exact Env.drop_ok hR.env
        · rw [put_size]; exact hR.size
        · rw [put_defers]; exact hR.defers
      · simp at h

theorem keepEnv_get {e : Env} : ∀ {keep : List Nat} {t : Nat} {x : TV}, fnd (keepEnv e keep) t = some x → fnd e t = some x := by
  intro keep
  induction keep with
  | nil => intro t x h; simp [keepEnv, fnd] at h
  | cons k r ih =>
    intro t x h
    simp only [keepEnv] at h
    split at h
    · rename_i v hv
      simp only [fnd] at h
      by_cases hkt : k = t
      · subst hkt
        simp at h
        rw [hv, h]
      · have h' : (k == t) = false := by simpa using hkt
        rw [h', cond_false] at h
        exact ih h
    · exact ih h

theorem Rel.keep (h : Rel S K w0 Kn φ gv nt s a w) (keep : List Nat) : Rel S K w0 Kn φ gv nt { s with env := keepEnv s.env keep } a w :=
  ⟨h.inv, fun t x hx => h.env t x (keepEnv_get hx), h.size, h.defers, h.fresh, h.gh⟩

/-! ### numbers made small again -/

theorem reach_nodup (h : Heap) : ∀ (n : Nat) (todo seen : List Nat), seen.Nodup → (reach h n todo seen).Nodup := by
  intro n
  induction n with
  | zero => intro todo seen hs; cases todo <;> exact hs
  | succ n ih =>
    intro todo seen hs
    cases todo with
    | nil => exact hs
    | cons id r =>
      simp only [reach]
      split
      · exact ih _ _ hs
      · rename_i hc
        have hc' : id ∉ seen := by simpa using hc
        have hn : (seen ++ [id]).Nodup := by
          rw [List.nodup_append]
          exact ⟨hs, by simp, fun a ha b hb e => hc' (by rw [← List.mem_singleton.1 hb, ← e]; exact ha)⟩
        split
        · exact ih _ _ hn
        · exact ih _ _ hn
        · exact ih _ _ hs

theorem idxOf_get {ids : List Nat} {id i : Nat} (h : ids.idxOf? id = some i) : ids[i]? = some id := by
  rw [List.idxOf?_eq_some_iff] at h
  obtain ⟨hlt, hb, _⟩ := h
  rw [List.getElem?_eq_getElem hlt]
  simpa using hb

/-- the new names -/
def newKn (ids : List Nat) (i : Nat) : Prop := i < ids.length
def newφ (φ : Nat → Loc) (ids : List Nat) (i : Nat) : Loc := φ (ids.getD i 0)

theorem newφ_get {ids : List Nat} {i id : Nat} (h : ids[i]? = some id) : newφ φ ids i = φ id ∧ newKn ids i := by
  refine ⟨by simp [newφ, List.getD, h], (List.getElem?_eq_some_iff.1 h).1⟩

mutual
theorem renC_sound {ids : List Nat} (c : C) : ∀ (c' : C) (v : Value), renC ids c = some c' → RC S w Kn φ c v → RC S w (newKn ids) (newφ φ ids) c' v := by
  intro c' v h hr
  cases c with
  | d x =>
    obtain rfl : C.d x = c' := by simpa [renC] using h
    cases hr with
    | d hd => exact .d hd
  | osl sz id o l =>
    simp only [renC] at h
    split at h
    · rename_i i hi
      obtain rfl := Option.some.inj h
      obtain ⟨e1, e2⟩ := newφ_get (φ := φ) (idxOf_get hi)
      obtain ⟨cap, addr, rfl, rfl, hk, hcap, haddr, hext⟩ := hr.osl_inv
      have := RC.osl (S := S) (w := w) (Kn := newKn ids) (φ := newφ φ ids) (id := i) (off := o) (len := l) (cap := cap) (addr := addr) e2 hcap (by rw [e1]; exact haddr) (by rw [e1]; exact hext)
      rw [e1] at this
      exact this
    · simp at h
  | ep id r o =>
    simp only [renC] at h
    split at h
    · rename_i i hi
      obtain rfl := Option.some.inj h
      obtain ⟨e1, e2⟩ := newφ_get (φ := φ) (idxOf_get hi)
      cases hr with
      | ep hk =>
        have := RC.ep (S := S) (w := w) (Kn := newKn ids) (φ := newφ φ ids) (id := i) (row := r) (off := o) e2
        rw [e1] at this
        exact this
    · simp at h
  | op id o =>
    simp only [renC] at h
    split at h
    · rename_i i hi
      obtain rfl := Option.some.inj h
      obtain ⟨e1, e2⟩ := newφ_get (φ := φ) (idxOf_get hi)
      cases hr with
      | op hk =>
        have := RC.op (S := S) (w := w) (Kn := newKn ids) (φ := newφ φ ids) (id := i) (off := o) e2
        rw [e1] at this
        exact this
    · simp at h
  | ofn f caps =>
    simp only [renC] at h
    split at h
    · rename_i cs hcs
      obtain rfl := Option.some.inj h
      cases hr with
      | ofn hlen hrc =>
        obtain ⟨h1, h2⟩ := renL_sound caps cs hcs
        refine .ofn (h1.trans hlen) fun j x hj => ?_
        obtain ⟨y, hy, hyx⟩ := h2 j x hj
        exact hyx _ (hrc j y hy)
    · simp at h
  | om id =>
    simp only [renC] at h
    split at h
    · rename_i i hi
      obtain rfl := Option.some.inj h
      obtain ⟨e1, e2⟩ := newφ_get (φ := φ) (idxOf_get hi)
      cases hr with
      | om hk =>
        have := RC.om (S := S) (w := w) (Kn := newKn ids) (φ := newφ φ ids) (id := i) e2
        rw [e1] at this
        exact this
    · simp at h
theorem renL_sound {ids : List Nat} (cs : List C) : ∀ (cs' : List C), renC.renL ids cs = some cs' → cs'.length = cs.length ∧
    ∀ (i : Nat) (x : C), cs'[i]? = some x → ∃ y, cs[i]? = some y ∧ ∀ v, RC S w Kn φ y v → RC S w (newKn ids) (newφ φ ids) x v := by
  intro cs' h
  cases cs with
  | nil =>
    obtain rfl : [] = cs' := by simpa [renC.renL] using h
    exact ⟨rfl, fun i x hi => by simp at hi⟩
  | cons c r =>
    simp only [renC.renL] at h
    split at h
    · rename_i c1 r1 hc hr
      obtain rfl := Option.some.inj h
      obtain ⟨h1, h2⟩ := renL_sound r r1 hr
      refine ⟨by simp [h1], fun i x hi => ?_⟩
      cases i with
      | zero =>
        obtain rfl : c1 = x := by simpa using hi
        exact ⟨c, rfl, fun v hv => renC_sound c c1 v hc hv⟩
      | succ i => exact h2 i x (by simpa using hi)
    · simp at h
end

mutual
theorem renTV_sound {ids : List Nat} (t : TV) : ∀ (t' : TV) (v : Value), renTV ids t = some t' → RTV S w Kn φ t v → RTV S w (newKn ids) (newφ φ ids) t' v := by
  intro t' v h hr
  cases t with
  | c x =>
    simp only [renTV] at h
    split at h
    · rename_i y hy
      obtain rfl := Option.some.inj h
      cases hr with
      | c hr => exact .c (renC_sound x y v hy hr)
    · simp at h
  | agg cs =>
    simp only [renTV] at h
    split at h
    · rename_i ys hy
      obtain rfl := Option.some.inj h
      cases hr with
      | agg hlen hr =>
        obtain ⟨h1, h2⟩ := renL_sound cs ys hy
        refine .agg (h1.trans hlen) fun i x hi => ?_
        obtain ⟨y, hyi, hyx⟩ := h2 i x hi
        exact hyx _ (hr i y hyi)
    · simp at h
  | tup xs =>
    simp only [renTV] at h
    split at h
    · rename_i ys hy
      obtain rfl := Option.some.inj h
      cases hr with
      | tup hlen hr =>
        obtain ⟨h1, h2⟩ := renT_sound xs ys hy
        refine .tup (h1.trans hlen) fun i x hi => ?_
        obtain ⟨y, hyi, hyx⟩ := h2 i x hi
        exact hyx _ (hr i y hyi)
    · simp at h
theorem renT_sound {ids : List Nat} (ts : List TV) : ∀ (ts' : List TV), renTV.renT ids ts = some ts' → ts'.length = ts.length ∧
    ∀ (i : Nat) (x : TV), ts'[i]? = some x → ∃ y, ts[i]? = some y ∧ ∀ v, RTV S w Kn φ y v → RTV S w (newKn ids) (newφ φ ids) x v := by
  intro ts' h
  cases ts with
  | nil =>
    obtain rfl : [] = ts' := by simpa [renTV.renT] using h
    exact ⟨rfl, fun i x hi => by simp at hi⟩
  | cons c r =>
    simp only [renTV.renT] at h
    split at h
    · rename_i c1 r1 hc hr
      obtain rfl := Option.some.inj h
      obtain ⟨h1, h2⟩ := renT_sound r r1 hr
      refine ⟨by simp [h1], fun i x hi => ?_⟩
      cases i with
      | zero =>
        obtain rfl : c1 = x := by simpa using hi
        exact ⟨c, rfl, fun v hv => renTV_sound c c1 v hc hv⟩
      | succ i => exact h2 i x (by simpa using hi)
    · simp at h
end

theorem renEnv_get {ids : List Nat} : ∀ {e : Env} {t : Nat} {x : TV}, fnd (renEnv ids e) t = some x → ∃ y, (t, y) ∈ e ∧ renTV ids y = some x := by
  intro e
  induction e with
  | nil => intro t x h; simp [renEnv, fnd] at h
  | cons p r ih =>
    obtain ⟨k, v⟩ := p
    intro t x h
    simp only [renEnv] at h
    split at h
    · rename_i v' hv
      simp only [fnd] at h
      by_cases hkt : k = t
      · subst hkt
        simp at h
        exact ⟨v, by simp, by rw [hv, h]⟩
      · have h' : (k == t) = false := by simpa using hkt
        rw [h', cond_false] at h
        obtain ⟨y, h1, h2⟩ := ih h
        exact ⟨y, by simp [h1], h2⟩
    · obtain ⟨y, h1, h2⟩ := ih h
      exact ⟨y, by simp [h1], h2⟩

theorem keepEnv_mem {e : Env} : ∀ {keep : List Nat} {t : Nat} {x : TV}, (t, x) ∈ keepEnv e keep → fnd e t = some x := by
  intro keep
  induction keep with
  | nil => intro t x h; simp [keepEnv] at h
  | cons k r ih =>
    intro t x h
    simp only [keepEnv] at h
    split at h
    · rename_i v hv
      rcases List.mem_cons.1 h with h | h
      · obtain ⟨rfl, rfl⟩ := Prod.mk.inj h
        exact hv
      · exact ih h
    · exact ih h

theorem renHeap_get {all : List Nat} {h : Heap} : ∀ {l : List Nat} {i0 i : Nat} {o : Ob}, look (renHeap all h l i0) i = some o → ∃ id o0, i0 ≤ i ∧ l[i - i0]? = some id ∧ look h id = some o0 ∧ renOb all o0 = some o := by
  intro l
  induction l with
  | nil => intro i0 i o hl; simp [renHeap, look, fnd] at hl
  | cons a l ih =>
    intro i0 i o hl
    have step : look (renHeap all h l (i0 + 1)) i = some o → ∃ id o0, i0 ≤ i ∧ (a :: l)[i - i0]? = some id ∧ look h id = some o0 ∧ renOb all o0 = some o := by
      intro hl
      obtain ⟨id, o0, h1, h2, h3, h4⟩ := ih hl
      refine ⟨id, o0, by omega, ?_, h3, h4⟩
      have : i - i0 = (i - (i0 + 1)) + 1 := by omega
      rw [this]; simpa using h2
    simp only [renHeap] at hl
    split at hl
    · rename_i o1 ho1
      split at hl
      · rename_i o2 ho2
        simp only [look, fnd] at hl
        by_cases e : i0 = i
        · subst e
          simp at hl
          exact ⟨a, o1, Nat.le_refl _, by simp, ho1, by rw [ho2, hl]⟩
        · have e' : (i0 == i) = false := by simpa using e
          rw [e', cond_false] at hl
          exact step hl
      · exact step hl
    · exact step hl

theorem canon_sound (h : Rel S K w0 Kn φ gv nt s a w) (keep : List Nat) (ids : List Nat) (hn : ids.Nodup) :
    Rel S K w0 (newKn ids) (newφ φ ids) gv nt (canonWith ids (keepEnv s.env keep) s) a w := by
  have hget : ∀ i o, look (renHeap ids s.heap ids 0) i = some o → ∃ id o0, ids[i]? = some id ∧ look s.heap id = some o0 ∧ renOb ids o0 = some o ∧ isOwn o = isOwn o0 := by
    intro i o ho
    obtain ⟨id, o0, _, h2, h3, h4⟩ := renHeap_get ho
    refine ⟨id, o0, by simpa using h2, h3, h4, ?_⟩
    unfold renOb at h4
    split at h4
    · split at h4
      · rw [← Option.some.inj h4]; rfl
      · simp at h4
    · rw [← Option.some.inj h4]
  refine ⟨?_, fun t x hx => ?_, h.size, h.defers, fun j hj hk => ?_, fun i c v hc hv => ?_⟩
  · refine ⟨h.inv.slt, h.inv.sk, h.inv.frm, fun i o ho => ?_, fun i j oi oj hi hj hoi hoj hne => ?_, h.inv.glob⟩
    · obtain ⟨id, o0, h1, h2, h3, _⟩ := hget i o ho
      obtain ⟨e1, e2⟩ := newφ_get (φ := φ) h1
      refine ⟨e2, ?_⟩
      rw [e1]
      obtain ⟨_, h0⟩ := h.inv.obj id o0 h2
      unfold renOb at h3
      split at h3
      · split at h3
        · rename_i cs hcs
          obtain rfl := Option.some.inj h3
          cases h0 with
          | box hb hS hK hown hlen hr =>
            obtain ⟨h5, h6⟩ := renL_sound (S := S) (w := w) (Kn := Kn) (φ := φ) _ cs hcs
            refine .box hb hS hK hown (h5.trans hlen) fun i x hi => ?_
            obtain ⟨y, hyi, hyx⟩ := h6 i x hi
            exact hyx _ (hr i y hyi)
        · simp at h3
      · obtain rfl := Option.some.inj h3
        cases h0 with
        | arr hsz hl hS hK hown hext hfit hr => exact .arr hsz hl hS hK hown hext hfit hr
        | imm hsz hl hS hr => exact .imm hsz hl hS hr
        | ibox hb hS hr => exact .ibox hb hS hr
        | box => simp_all
        | map hS hK hmp hlen hr => exact .map hS hK hmp hlen hr
    · obtain ⟨id1, o1, h1, h2, _, h4⟩ := hget i oi hi
      obtain ⟨id2, o2, h5, h6, _, h8⟩ := hget j oj hj
      rw [(newφ_get (φ := φ) h1).1, (newφ_get (φ := φ) h5).1]
      refine h.inv.dist id1 id2 o1 o2 h2 h6 (h4 ▸ hoi) (h8 ▸ hoj) fun e => hne ?_
      subst e
      obtain ⟨l1, g1⟩ := List.getElem?_eq_some_iff.1 h1
      obtain ⟨l2, g2⟩ := List.getElem?_eq_some_iff.1 h5
      exact (List.getElem_inj hn).1 (g1.trans g2.symm)
  · obtain ⟨y, hy, hyx⟩ := renEnv_get hx
    exact renTV_sound y x _ hyx (h.env t y (keepEnv_mem hy))
  · simp only [canonWith] at hj
    have : j < ids.length := hk
    omega
  · simp only [canonWith] at hc
    cases hg : renC.renL ids s.gh with
    | none => rw [hg] at hc; simp at hc
    | some cs =>
      rw [hg] at hc
      obtain ⟨_, h2⟩ := renL_sound (S := S) (w := w) (Kn := Kn) (φ := φ) s.gh cs hg
      obtain ⟨y, hyi, hyx⟩ := h2 i c hc
      exact hyx _ (h.gh i y v hyi hv)

end
end Go.Ev
