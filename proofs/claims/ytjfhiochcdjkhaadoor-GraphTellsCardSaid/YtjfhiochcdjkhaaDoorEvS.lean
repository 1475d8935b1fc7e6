/- A region in any order, against the text's order. Conditions: operations whose names meet are ordered by the text; operations whose objects meet are ordered by the text, or the check at the run says that they do not meet. -/
import Derived.Test.YtjfhiochcdjkhaaDoorEvR
import Derived.Orders
namespace Go.Ev

/-! ### the check -/

/-- 0: no memory; 1: looks only; 2: else -/
def kcl : Ev.K → Nat
  | .mv | .pick | .build _ _ | .nilCheck | .bin _ | .eqBool _ | .eqNil _ _ | .eqAgg _ _ | .un _ | .convInt _ | .convSame | .mkFn _ | .slice _ _ _ _ | .fieldAddr _ | .field _ _ _
  | .indexAddr _ _ | .indexStr | .index _ _ _ | .extract _ | .len _ | .minmax _ | .bad => 0
  | .load _ _ => 1
  | _ => 2

theorem kcl_none {call : Call} {k : Ev.K} {vs : List (Option TV)} {H : Heap} {nxt n : Nat} {v : TV} {u : Upd} {ids : List Nat} (hk : kcl k ≤ 1) (h : ev1 call k vs H nxt = some (v, u, ids, n)) : u = [] := by
  cases k <;> first
    | (simp [kcl] at hk; done)
    | (unfold ev1 at h
       repeat' split at h
       all_goals first
         | (simp at h; done)
         | (simp only [Option.some.injEq, Prod.mk.injEq] at h; exact h.2.1.symm)
         | (simp_all; done))

theorem kcl_zero {call : Call} {k : Ev.K} {vs : List (Option TV)} {H : Heap} {nxt n : Nat} {v : TV} {u : Upd} {ids : List Nat} (hk : kcl k = 0) (h : ev1 call k vs H nxt = some (v, u, ids, n)) : ids = [] := by
  cases k <;> first
    | (simp [kcl] at hk; done)
    | (unfold ev1 at h
       repeat' split at h
       all_goals first
         | (simp at h; done)
         | (simp only [Option.some.injEq, Prod.mk.injEq] at h; exact h.2.2.1.symm)
         | (simp_all; done))

/-- who comes before, as bits -/
def edgeMask (acc : List Nat) : List Edge → Nat
  | [] => 0
  | e :: r => if Region.binds .any e then (edgeMask acc r) ||| 2 ^ e.on ||| acc.getD e.on 0 else edgeMask acc r

def ancs : List Oper → List Nat → List Nat
  | [], acc => acc
  | o :: r, acc => ancs r (acc ++ [edgeMask acc o.after.toList])

def ordOk (m : List Nat) : List Oper → Nat → Bool
  | [], _ => true
  | o :: r, i => m.getD i 0 == edgeMask m o.after.toList && o.after.toList.all (fun e => !(Region.binds .any e) || decide (e.on < i)) && ordOk m r (i + 1)

def before (m : List Nat) (i j : Nat) : Bool := (m.getD j 0).testBit i

def opT : Operand → Option Nat
  | .tmp t => some t
  | _ => none

def looksC (o : COp) : List Nat := o.args.filterMap opT ++ (match o.guard with | some (t, _) => [t] | none => [])

def hits (d : Option Nat) (l : List Nat) : Bool := match d with | some d => l.contains d | none => false

def confl (a b : COp) : Bool := hits a.dst (looksC b) || hits b.dst (looksC a) || hits a.dst b.dst.toList

def schedRow (m : List Nat) (i : Nat) (a : COp) : List COp → Nat → Bool
  | [], _ => true
  | b :: r, j => (before m i j || !confl a b) && schedRow m i a r (j + 1)

def sched (m : List Nat) : List COp → Nat → Bool
  | [], _ => true
  | a :: r, i => schedRow m i a r (i + 1) && sched m r (i + 1)

def dynRow (m : List Nat) (i c : Nat) : List COp → Nat → List (Nat × Nat)
  | [], _ => []
  | b :: r, j => if before m i j || kcl b.k == 0 || kcl b.k + c ≤ 2 then dynRow m i c r (j + 1) else (i, j) :: dynRow m i c r (j + 1)

def dynAll (m : List Nat) : List COp → Nat → List (Nat × Nat)
  | [], _ => []
  | a :: r, i => (if kcl a.k == 0 then [] else dynRow m i (kcl a.k) r (i + 1)) ++ dynAll m r (i + 1)

def compDrawn (ops : List Oper) (cops : List COp) (keep : List Nat) : CC :=
  let m := ancs ops []
  if ordOk m ops 0 && sched m cops 0 then .drawn cops (dynAll m cops 0) keep else .bad

theorem edgeMask_spec {acc : List Nat} {j : Nat} : ∀ {es : List Edge}, (edgeMask acc es).testBit j = true → ∃ e ∈ es, Region.binds .any e = true ∧ (e.on = j ∨ (acc.getD e.on 0).testBit j = true) := by
  intro es
  induction es with
  | nil => intro h; simp [edgeMask] at h
  | cons e r ih =>
    intro h
    simp only [edgeMask] at h
    split at h
    · rename_i hb
      simp only [Nat.testBit_or, Bool.or_eq_true, Nat.testBit_two_pow, decide_eq_true_eq] at h
      rcases h with (h | h) | h
      · obtain ⟨e', he, h'⟩ := ih h
        exact ⟨e', List.mem_cons_of_mem _ he, h'⟩
      · exact ⟨e, List.mem_cons_self, hb, .inl h⟩
      · exact ⟨e, List.mem_cons_self, hb, .inr h⟩
    · obtain ⟨e', he, h'⟩ := ih h
      exact ⟨e', List.mem_cons_of_mem _ he, h'⟩

theorem ordOk_spec {m : List Nat} : ∀ {l : List Oper} {i : Nat}, ordOk m l i = true → ∀ (k : Nat) (o : Oper), l[k]? = some o →
    (∀ j, before m j (i + k) = true → ∃ e ∈ o.after, Region.binds .any e = true ∧ (e.on = j ∨ before m j e.on = true)) ∧ ∀ e ∈ o.after, Region.binds .any e = true → e.on < i + k := by
  intro l
  induction l with
  | nil => intro i _ k o hk; simp at hk
  | cons o0 r ih =>
    intro i h k o hk
    simp only [ordOk, Bool.and_eq_true] at h
    obtain ⟨⟨h1, h2⟩, h3⟩ := h
    cases k with
    | zero =>
      obtain rfl : o0 = o := by simpa using hk
      refine ⟨fun j hj => ?_, fun e he hb => ?_⟩
      · unfold before at hj
        rw [Nat.add_zero, (by simpa using h1 : m.getD i 0 = _)] at hj
        obtain ⟨e, he, h'⟩ := edgeMask_spec hj
        exact ⟨e, by simpa using he, h'⟩
      · have := List.all_eq_true.1 h2 e (by simpa using he)
        simpa [hb] using this
    | succ k =>
      have := ih h3 k o (by simpa using hk)
      rw [show i + 1 + k = i + (k + 1) by omega] at this
      exact this

theorem schedRow_spec {m : List Nat} {i : Nat} {a : COp} : ∀ {l : List COp} {j : Nat}, schedRow m i a l j = true → ∀ (k : Nat) (b : COp), l[k]? = some b → before m i (j + k) = true ∨ confl a b = false := by
  intro l
  induction l with
  | nil => intro j _ k b hk; simp at hk
  | cons b0 r ih =>
    intro j h k b hk
    simp only [schedRow, Bool.and_eq_true] at h
    cases k with
    | zero =>
      obtain rfl : b0 = b := by simpa using hk
      simpa using h.1
    | succ k =>
      have := ih h.2 k b (by simpa using hk)
      rwa [show j + 1 + k = j + (k + 1) by omega] at this

theorem sched_spec {m : List Nat} : ∀ {l : List COp} {i : Nat}, sched m l i = true → ∀ (k k' : Nat) (a b : COp), l[k]? = some a → l[k']? = some b → k < k' → before m (i + k) (i + k') = true ∨ confl a b = false := by
  intro l
  induction l with
  | nil => intro i _ k k' a b hk; simp at hk
  | cons a0 r ih =>
    intro i h k k' a b hk hk' hlt
    simp only [sched, Bool.and_eq_true] at h
    cases k' with
    | zero => omega
    | succ k' =>
      cases k with
      | zero =>
        obtain rfl : a0 = a := by simpa using hk
        have := schedRow_spec h.1 k' b (by simpa using hk')
        rwa [show i + 1 + k' = i + (k' + 1) by omega] at this
      | succ k =>
        have := ih h.2 k k' a b (by simpa using hk) (by simpa using hk') (by omega)
        rwa [show i + 1 + k = i + (k + 1) by omega, show i + 1 + k' = i + (k' + 1) by omega] at this

theorem dynRow_spec {m : List Nat} {i c : Nat} : ∀ {l : List COp} {j : Nat}, ∀ (k : Nat) (b : COp), l[k]? = some b → before m i (j + k) = true ∨ kcl b.k = 0 ∨ kcl b.k + c ≤ 2 ∨ (i, j + k) ∈ dynRow m i c l j := by
  intro l
  induction l with
  | nil => intro j k b hk; simp at hk
  | cons b0 r ih =>
    intro j k b hk
    cases k with
    | zero =>
      obtain rfl : b0 = b := by simpa using hk
      simp only [dynRow]
      split
      · rename_i h
        simp only [Bool.or_eq_true, beq_iff_eq, decide_eq_true_eq] at h
        rcases h with (h | h) | h
        · exact .inl h
        · exact .inr (.inl h)
        · exact .inr (.inr (.inl h))
      · exact .inr (.inr (.inr (by simp)))
    | succ k =>
      have := ih (j := j + 1) k b (by simpa using hk)
      rw [show j + 1 + k = j + (k + 1) by omega] at this
      rcases this with h | h | h | h
      · exact .inl h
      · exact .inr (.inl h)
      · exact .inr (.inr (.inl h))
      · refine .inr (.inr (.inr ?_))
        simp only [dynRow]
        split
        · exact h
        · exact List.mem_cons_of_mem _ h

theorem dynAll_spec {m : List Nat} : ∀ {l : List COp} {i : Nat}, ∀ (k k' : Nat) (a b : COp), l[k]? = some a → l[k']? = some b → k < k' →
    before m (i + k) (i + k') = true ∨ kcl a.k = 0 ∨ kcl b.k = 0 ∨ kcl b.k + kcl a.k ≤ 2 ∨ (i + k, i + k') ∈ dynAll m l i := by
  intro l
  induction l with
  | nil => intro i k k' a b hk; simp at hk
  | cons a0 r ih =>
    intro i k k' a b hk hk' hlt
    cases k' with
    | zero => omega
    | succ k' =>
      cases k with
      | zero =>
        obtain rfl : a0 = a := by simpa using hk
        have := dynRow_spec (m := m) (i := i) (c := kcl a0.k) (j := i + 1) k' b (by simpa using hk')
        rw [show i + 1 + k' = i + (k' + 1) by omega] at this
        rcases this with h | h | h | h
        · exact .inl h
        · exact .inr (.inr (.inl h))
        · exact .inr (.inr (.inr (.inl h)))
        · by_cases e : kcl a0.k = 0
          · exact .inr (.inl e)
          · refine .inr (.inr (.inr (.inr ?_)))
            simp only [dynAll, beq_iff_eq, e, if_false]
            exact List.mem_append_left _ h
      | succ k =>
        have := ih (i := i + 1) k k' a b (by simpa using hk) (by simpa using hk') (by omega)
        rw [show i + 1 + k = i + (k + 1) by omega, show i + 1 + k' = i + (k' + 1) by omega] at this
        rcases this with h | h | h | h | h
        · exact .inl h
        · exact .inr (.inl h)
        · exact .inr (.inr (.inl h))
        · exact .inr (.inr (.inr (.inl h)))
        · exact .inr (.inr (.inr (.inr (by simp only [dynAll]; exact List.mem_append_right _ h))))

/-! ### the run in the text's order, step by step -/

abbrev Eff := Option (TV × Upd × List Nat × Nat)

def effV : Eff → Option TV
  | some (v, _) => some v
  | none => some (.tup [])
def effU : Eff → Upd
  | some (_, u, _) => u
  | none => []
def effR : Eff → List Nat
  | some (_, _, r, _) => r
  | none => []

def Step (call : Call) (base i : Nat) (o : COp) (e : Env) (h : Heap) (f : Eff) (e' : Env) (h' : Heap) : Prop :=
  match f with
  | some (v, u, ids, n) => wants e o.guard = some true ∧ ev1 call o.k (o.args.map (opv e)) h (base + room * i) = some (v, u, ids, n) ∧ n ≤ base + room * (i + 1) ∧ e' = put e o.dst v ∧ h' = u ++ h
  | none => wants e o.guard = some false ∧ e' = drop e o.dst ∧ h' = h

theorem drawn_trace {calls : Nat → Call} {base : Nat} : ∀ (l : List COp) (i : Nat) (e : Env) (h : Heap) (e' : Env) (h' : Heap) (tr : List (List Nat × List Nat)), evDrawn calls base l i e h = some (e', h', tr) →
    ∃ (E : Nat → Env) (Hp : Nat → Heap) (ef : Nat → Eff), E 0 = e ∧ Hp 0 = h ∧ E l.length = e' ∧ Hp l.length = h' ∧
      ∀ (k : Nat) (o : COp), l[k]? = some o → Step (calls (i + k)) base (i + k) o (E k) (Hp k) (ef k) (E (k + 1)) (Hp (k + 1)) ∧ tr[k]? = some (effR (ef k), (effU (ef k)).map (·.1)) := by
  intro l
  induction l with
  | nil =>
    intro i e h e' h' tr hh
    obtain ⟨rfl, rfl, rfl⟩ : e = e' ∧ h = h' ∧ [] = tr := by simpa [evDrawn] using hh
    exact ⟨fun _ => e, fun _ => h, fun _ => none, rfl, rfl, rfl, rfl, fun k o hk => by simp at hk⟩
  | cons o r ih =>
    intro i e h e' h' tr hh
    simp only [evDrawn] at hh
    have fin : ∀ (f : Eff) (e1 : Env) (h1 : Heap) (tr1 : List (List Nat × List Nat)), evDrawn calls base r (i + 1) e1 h1 = some (e', h', tr1) → Step (calls i) base i o e h f e1 h1 → tr = (effR f, (effU f).map (·.1)) :: tr1 →
        ∃ (E : Nat → Env) (Hp : Nat → Heap) (ef : Nat → Eff), E 0 = e ∧ Hp 0 = h ∧ E (o :: r).length = e' ∧ Hp (o :: r).length = h' ∧
          ∀ (k : Nat) (o' : COp), (o :: r)[k]? = some o' → Step (calls (i + k)) base (i + k) o' (E k) (Hp k) (ef k) (E (k + 1)) (Hp (k + 1)) ∧ tr[k]? = some (effR (ef k), (effU (ef k)).map (·.1)) := by
      intro f e1 h1 tr1 hrun hs htr
      obtain ⟨E, Hp, ef, a1, a2, a3, a4, a5⟩ := ih (i + 1) e1 h1 e' h' tr1 hrun
      refine ⟨fun k => match k with | 0 => e | k + 1 => E k, fun k => match k with | 0 => h | k + 1 => Hp k, fun k => match k with | 0 => f | k + 1 => ef k, rfl, rfl, a3, a4, fun k o' hk => ?_⟩
      subst htr
      cases k with
      | zero =>
        obtain rfl : o = o' := by simpa using hk
        refine ⟨?_, by simp⟩
        simp only [Nat.add_zero, a1, a2]
        exact hs
      | succ k =>
        have := a5 k o' (by simpa using hk)
        rw [show i + 1 + k = i + (k + 1) by omega] at this
        exact ⟨this.1, by simpa using this.2⟩
    split at hh
    · rename_i hw
      split at hh
      · rename_i v u ids n hev
        split at hh
        · rename_i hn
          split at hh
          · rename_i e1 h1 tr1 hrun
            obtain ⟨rfl, rfl, rfl⟩ : e1 = e' ∧ h1 = h' ∧ _ = tr := by simpa using hh
            exact fin (some (v, u, ids, n)) _ _ tr1 hrun ⟨hw, hev, hn, rfl, rfl⟩ rfl
          · simp at hh
        · simp at hh
      · simp at hh
    · rename_i hw
      split at hh
      · rename_i e1 h1 tr1 hrun
        obtain ⟨rfl, rfl, rfl⟩ : e1 = e' ∧ h1 = h' ∧ _ = tr := by simpa using hh
        exact fin none _ _ tr1 hrun ⟨hw, rfl, rfl⟩ rfl
      · simp at hh
    · simp at hh

/-! ### what a set of operations makes -/

section
variable (dst : Nat → Option Nat) (ef : Nat → Eff) (D : Nat → Bool) (e0 : Nat → Option TV) (h0 : Nat → Option Ob)

def envX : Nat → Nat → Option TV
  | 0, t => e0 t
  | k + 1, t => if D k = true ∧ dst k = some t then effV (ef k) else envX k t

def heapX : Nat → Nat → Option Ob
  | 0, i => h0 i
  | k + 1, i => if D k = true then (match fnd (effU (ef k)) i with | some o => o | none => heapX k i) else heapX k i
end

/-- the operation touches the object -/
def tch (ef : Nat → Eff) (k id : Nat) : Prop := id ∈ (effU (ef k)).map (·.1)

theorem fnd_out {α : Type} {u : List (Nat × α)} {id : Nat} (h : id ∉ u.map (·.1)) : fnd u id = none := by
  induction u with
  | nil => rfl
  | cons p r ih =>
    obtain ⟨i, x⟩ := p
    simp only [List.map_cons, List.mem_cons, not_or] at h
    have : (i == id) = false := by simpa using fun e : i = id => h.1 e.symm
    simp [fnd, this, ih h.2]

theorem fnd_some {α : Type} {u : List (Nat × α)} {id : Nat} (h : id ∈ u.map (·.1)) : ∃ x, fnd u id = some x := by
  induction u with
  | nil => simp at h
  | cons p r ih =>
    obtain ⟨i, x⟩ := p
    by_cases e : i = id
    · exact ⟨x, by simp [fnd, e]⟩
    · have e' : (i == id) = false := by simpa using e
      simp only [List.map_cons, List.mem_cons] at h
      rcases h with h | h
      · exact absurd h.symm e
      · simpa [fnd, e'] using ih h

section
variable {dst : Nat → Option Nat} {ef : Nat → Eff} {D D' : Nat → Bool} {E : Nat → Env} {Hp : Nat → Heap}

theorem envX_at {n i t : Nat} (hstep : ∀ k, k < n → ∀ t, fnd (E (k + 1)) t = if dst k = some t then effV (ef k) else fnd (E k) t) (hi : i ≤ n)
    (h1 : ∀ k, k < i → dst k = some t → D k = true) (h2 : ∀ k, i ≤ k → k < n → dst k = some t → D k = false) : envX dst ef D (fnd (E 0)) n t = fnd (E i) t := by
  have a : ∀ k, k ≤ i → envX dst ef D (fnd (E 0)) k t = fnd (E k) t := by
    intro k
    induction k with
    | zero => intro _; rfl
    | succ k ih =>
      intro hk
      rw [envX, hstep k (by omega)]
      by_cases hd : dst k = some t
      · rw [if_pos ⟨h1 k (by omega) hd, hd⟩, if_pos hd]
      · rw [if_neg (fun h => hd h.2), if_neg hd, ih (by omega)]
  have b : ∀ d, i + d ≤ n → envX dst ef D (fnd (E 0)) (i + d) t = fnd (E i) t := by
    intro d
    induction d with
    | zero => intro _; exact a i (Nat.le_refl _)
    | succ d ih =>
      intro hd
      rw [← Nat.add_assoc, envX, if_neg, ih (by omega)]
      rintro ⟨hD, hdst⟩
      rw [h2 (i + d) (by omega) (by omega) hdst] at hD
      simp at hD
  have := b (n - i) (by omega)
  rwa [Nat.add_sub_cancel' hi] at this

theorem heapX_at {n i id : Nat} (hstep : ∀ k, k < n → ∀ id, look (Hp (k + 1)) id = match fnd (effU (ef k)) id with | some o => o | none => look (Hp k) id) (hi : i ≤ n)
    (h1 : ∀ k, k < i → tch ef k id → D k = true) (h2 : ∀ k, i ≤ k → k < n → tch ef k id → D k = false) : heapX ef D (look (Hp 0)) n id = look (Hp i) id := by
  have a : ∀ k, k ≤ i → heapX ef D (look (Hp 0)) k id = look (Hp k) id := by
    intro k
    induction k with
    | zero => intro _; rfl
    | succ k ih =>
      intro hk
      rw [heapX, hstep k (by omega), ih (by omega)]
      by_cases ht : tch ef k id
      · rw [if_pos (h1 k (by omega) ht)]
      · rw [fnd_out ht]; simp
  have b : ∀ d, i + d ≤ n → heapX ef D (look (Hp 0)) (i + d) id = look (Hp i) id := by
    intro d
    induction d with
    | zero => intro _; exact a i (Nat.le_refl _)
    | succ d ih =>
      intro hd
      rw [← Nat.add_assoc, heapX, ih (by omega)]
      by_cases ht : tch ef (i + d) id
      · rw [if_neg (by simp [h2 (i + d) (by omega) (by omega) ht])]
      · rw [fnd_out ht]; simp
  have := b (n - i) (by omega)
  rwa [Nat.add_sub_cancel' hi] at this

theorem envX_add {e0 : Nat → Option TV} {n i t : Nat} (hi : i < n) (hD : ∀ k, k ≠ i → D' k = D k) (hDi : D' i = true) (hDi0 : D i = false)
    (h : dst i = some t → ∀ k, i < k → k < n → D k = true → dst k ≠ some t) :
    envX dst ef D' e0 n t = if dst i = some t then effV (ef i) else envX dst ef D e0 n t := by
  have a : ∀ k, k ≤ i → envX dst ef D' e0 k t = envX dst ef D e0 k t := by
    intro k
    induction k with
    | zero => intro _; rfl
    | succ k ih => intro hk; rw [envX, envX, hD k (by omega), ih (by omega)]
  have b : ∀ d, i + 1 + d ≤ n → envX dst ef D' e0 (i + 1 + d) t = if dst i = some t then effV (ef i) else envX dst ef D e0 (i + 1 + d) t := by
    intro d
    induction d with
    | zero =>
      intro _
      show envX dst ef D' e0 (i + 1) t = if dst i = some t then effV (ef i) else envX dst ef D e0 (i + 1) t
      rw [envX, envX, hDi, hDi0, a i (Nat.le_refl _)]
      simp
    | succ d ih =>
      intro hd
      rw [← Nat.add_assoc, envX, envX, hD (i + 1 + d) (by omega), ih (by omega)]
      by_cases hc : D (i + 1 + d) = true ∧ dst (i + 1 + d) = some t
      · rw [if_pos hc, if_pos hc, if_neg]
        intro hdi
        exact h hdi (i + 1 + d) (by omega) (by omega) hc.1 hc.2
      · rw [if_neg hc, if_neg hc]
  have := b (n - (i + 1)) (by omega)
  rwa [Nat.add_sub_cancel' (by omega)] at this

theorem heapX_add {h0 : Nat → Option Ob} {n i id : Nat} (hi : i < n) (hD : ∀ k, k ≠ i → D' k = D k) (hDi : D' i = true) (hDi0 : D i = false)
    (h : tch ef i id → ∀ k, i < k → k < n → D k = true → ¬ tch ef k id) :
    heapX ef D' h0 n id = match fnd (effU (ef i)) id with | some o => o | none => heapX ef D h0 n id := by
  have a : ∀ k, k ≤ i → heapX ef D' h0 k id = heapX ef D h0 k id := by
    intro k
    induction k with
    | zero => intro _; rfl
    | succ k ih => intro hk; rw [heapX, heapX, hD k (by omega), ih (by omega)]
  have b : ∀ d, i + 1 + d ≤ n → heapX ef D' h0 (i + 1 + d) id = match fnd (effU (ef i)) id with | some o => o | none => heapX ef D h0 (i + 1 + d) id := by
    intro d
    induction d with
    | zero =>
      intro _
      show heapX ef D' h0 (i + 1) id = match fnd (effU (ef i)) id with | some o => o | none => heapX ef D h0 (i + 1) id
      rw [heapX, heapX, hDi, hDi0, a i (Nat.le_refl _)]
      simp
    | succ d ih =>
      intro hd
      rw [← Nat.add_assoc, heapX, heapX, hD (i + 1 + d) (by omega), ih (by omega)]
      by_cases ht : tch ef i id
      · by_cases hc : D (i + 1 + d) = true
        · rw [fnd_out (h ht (i + 1 + d) (by omega) (by omega) hc)]; simp
        · rw [if_neg hc, if_neg hc]
      · rw [fnd_out ht]
  have := b (n - (i + 1)) (by omega)
  rwa [Nat.add_sub_cancel' (by omega)] at this
end

end Go.Ev
