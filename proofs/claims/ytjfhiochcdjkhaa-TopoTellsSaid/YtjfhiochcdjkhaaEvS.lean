/- A region in any order, against the text's order. Conditions: operations whose names meet are ordered by the text; operations whose objects meet are ordered by the text, or the check at the run says that they do not meet. -/
import Derived.Test.YtjfhiochcdjkhaaEvR
import Derived.Orders
namespace Go.Ev

/-! ### the check -/

/-- 0: no memory; 1: looks only; 2: else -/
def kcl : Ev.K → Nat
  | .mv | .pick | .build _ _ | .nilCheck | .bin _ | .eqBool _ | .eqNil _ _ | .eqAgg _ _ | .un _ | .convInt _ | .convSame | .mkFn _ | .slice _ _ _ _ | .fieldAddr _ | .field _ _ _
  | .indexAddr _ _ | .indexStr | .index _ _ _ | .extract _ | .len _ | .minmax _ | .bad => 0
  | .load _ _ | .lookup _ _ _ _ _ => 1
  | _ => 2

theorem kcl_none {call : Call} {k : Ev.K} {vs : List (Option TV)} {H : Heap} {nxt n : Nat} {v : TV} {u : Upd} {ids : List Nat} (hk : kcl k ≤ 1) (h : ev1 call k vs H nxt = some (v, u, ids, n)) : u = [] := by
  cases k <;> first
    | (simp [kcl] at hk; done)
    | (unfold ev1 at h
       repeat' split at h
       all_goals first
         | (simp at h; done)
         | (simp only [Option.some.injEq, Prod.mk.injEq] at h; exact h.2.1.symm)
         | (simp_all; done))

theorem kcl_zero {call : Call} {k : Ev.K} {vs : List (Option TV)} {H : Heap} {nxt n : Nat} {v : TV} {u : Upd} {ids : List Nat} (hk : kcl k = 0) (h : ev1 call k vs H nxt = some (v, u, ids, n)) : ids = [] := by
  cases k <;> first
    | (simp [kcl] at hk; done)
    | (unfold ev1 at h
       repeat' split at h
       all_goals first
         | (simp at h; done)
         | (simp only [Option.some.injEq, Prod.mk.injEq] at h; exact h.2.2.1.symm)
         | (simp_all; done))

/-- who comes before, as bits -/
def edgeMask (acc : List Nat) : List Edge → Nat
  | [] => 0
  | e :: r => if Region.binds .any e then (edgeMask acc r) ||| 2 ^ e.on ||| acc.getD e.on 0 else edgeMask acc r

def ancs : List Oper → List Nat → List Nat
  | [], acc => acc
  | o :: r, acc => ancs r (acc ++ [edgeMask acc o.after.toList])

def ordOk (m : List Nat) : List Oper → Nat → Bool
  | [], _ => true
  | o :: r, i => m.getD i 0 == edgeMask m o.after.toList && o.after.toList.all (fun e => !(Region.binds .any e) || decide (e.on < i)) && ordOk m r (i + 1)

def before (m : List Nat) (i j : Nat) : Bool := (m.getD j 0).testBit i

def opT : Operand → Option Nat
  | .tmp t => some t
  | _ => none

def looksC (o : COp) : List Nat := o.args.filterMap opT ++ (match o.guard with | some (t, _) => [t] | none => [])

def hits (d : Option Nat) (l : List Nat) : Bool := match d with | some d => l.contains d | none => false

def confl (a b : COp) : Bool := hits a.dst (looksC b) || hits b.dst (looksC a) || hits a.dst b.dst.toList

def schedRow (m : List Nat) (i : Nat) (a : COp) : List COp → Nat → Bool
  | [], _ => true
  | b :: r, j => (before m i j || !confl a b) && schedRow m i a r (j + 1)

def sched (m : List Nat) : List COp → Nat → Bool
  | [], _ => true
  | a :: r, i => schedRow m i a r (i + 1) && sched m r (i + 1)

def sameZ1 : Value → Value → Bool
  | .int k a, .int k' b => decide (k = k') && decide (a = b)
  | .bool a, .bool b => decide (a = b)
  | .string a, .string b => decide (a.toList = b.toList)
  | .float k a, .float k' b => decide (k = k') && decide (a = b)
  | .slice none 0 0, .slice none 0 0 | .pointer none, .pointer none | .map none, .map none | .nilFunc, .nilFunc | .nilIface, .nilIface => true
  | _, _ => false

def sameZ : List Value → List Value → Bool
  | [], [] => true
  | x :: xs, y :: ys => sameZ1 x y && sameZ xs ys
  | _, _ => false

/-- a look that does not tell an entry that is only made from none -/
def softK : Ev.K → Ev.K → Bool
  | .lookup ka ks va z false, .mapEntry ka' ks' va' z' => decide (ka = ka') && decide (ks = ks') && decide (va = va') && sameZ z z'
  | _, _ => false

def dynRow (m : List Nat) (i : Nat) (a : COp) : List COp → Nat → List (Nat × Nat)
  | [], _ => []
  | b :: r, j => if before m i j || kcl b.k == 0 || kcl b.k + kcl a.k ≤ 2 then dynRow m i a r (j + 1) else (i, if softK a.k b.k then 1000 + j else j) :: dynRow m i a r (j + 1)

def dynAll (m : List Nat) : List COp → Nat → List (Nat × Nat)
  | [], _ => []
  | a :: r, i => (if kcl a.k == 0 then [] else dynRow m i a r (i + 1)) ++ dynAll m r (i + 1)

def compDrawn (ops : List Oper) (cops : List COp) (keep : List Nat) : CC :=
  let m := ancs ops []
  if ordOk m ops 0 && sched m cops 0 && decide (cops.length ≤ 1000) then .drawn cops (dynAll m cops 0) keep else .bad

theorem edgeMask_spec {acc : List Nat} {j : Nat} : ∀ {es : List Edge}, (edgeMask acc es).testBit j = true → ∃ e ∈ es, Region.binds .any e = true ∧ (e.on = j ∨ (acc.getD e.on 0).testBit j = true) := by
  intro es
  induction es with
  | nil => intro h; simp [edgeMask] at h
  | cons e r ih =>
    intro h
    simp only [edgeMask] at h
    split at h
    · rename_i hb
      simp only [Nat.testBit_or, Bool.or_eq_true, Nat.testBit_two_pow, decide_eq_true_eq] at h
      rcases h with (h | h) | h
      · obtain ⟨e', he, h'⟩ := ih h
        exact ⟨e', List.mem_cons_of_mem _ he, h'⟩
      · exact ⟨e, List.mem_cons_self, hb, .inl h⟩
      · exact ⟨e, List.mem_cons_self, hb, .inr h⟩
    · obtain ⟨e', he, h'⟩ := ih h
      exact ⟨e', List.mem_cons_of_mem _ he, h'⟩

theorem ordOk_spec {m : List Nat} : ∀ {l : List Oper} {i : Nat}, ordOk m l i = true → ∀ (k : Nat) (o : Oper), l[k]? = some o →
    (∀ j, before m j (i + k) = true → ∃ e ∈ o.after, Region.binds .any e = true ∧ (e.on = j ∨ before m j e.on = true)) ∧ ∀ e ∈ o.after, Region.binds .any e = true → e.on < i + k := by
  intro l
  induction l with
  | nil => intro i _ k o hk; simp at hk
  | cons o0 r ih =>
    intro i h k o hk
    simp only [ordOk, Bool.and_eq_true] at h
    obtain ⟨⟨h1, h2⟩, h3⟩ := h
    cases k with
    | zero =>
      obtain rfl : o0 = o := by simpa using hk
      refine ⟨fun j hj => ?_, fun e he hb => ?_⟩
      · unfold before at hj
        rw [Nat.add_zero, (by simpa using h1 : m.getD i 0 = _)] at hj
        obtain ⟨e, he, h'⟩ := edgeMask_spec hj
        exact ⟨e, by simpa using he, h'⟩
      · have := List.all_eq_true.1 h2 e (by simpa using he)
        simpa [hb] using this
    | succ k =>
      have := ih h3 k o (by simpa using hk)
      rw [show i + 1 + k = i + (k + 1) by omega] at this
      exact this

theorem schedRow_spec {m : List Nat} {i : Nat} {a : COp} : ∀ {l : List COp} {j : Nat}, schedRow m i a l j = true → ∀ (k : Nat) (b : COp), l[k]? = some b → before m i (j + k) = true ∨ confl a b = false := by
  intro l
  induction l with
  | nil => intro j _ k b hk; simp at hk
  | cons b0 r ih =>
    intro j h k b hk
    simp only [schedRow, Bool.and_eq_true] at h
    cases k with
    | zero =>
      obtain rfl : b0 = b := by simpa using hk
      simpa using h.1
    | succ k =>
      have := ih h.2 k b (by simpa using hk)
      rwa [show j + 1 + k = j + (k + 1) by omega] at this

theorem sched_spec {m : List Nat} : ∀ {l : List COp} {i : Nat}, sched m l i = true → ∀ (k k' : Nat) (a b : COp), l[k]? = some a → l[k']? = some b → k < k' → before m (i + k) (i + k') = true ∨ confl a b = false := by
  intro l
  induction l with
  | nil => intro i _ k k' a b hk; simp at hk
  | cons a0 r ih =>
    intro i h k k' a b hk hk' hlt
    simp only [sched, Bool.and_eq_true] at h
    cases k' with
    | zero => omega
    | succ k' =>
      cases k with
      | zero =>
        obtain rfl : a0 = a := by simpa using hk
        have := schedRow_spec h.1 k' b (by simpa using hk')
        rwa [show i + 1 + k' = i + (k' + 1) by omega] at this
      | succ k =>
        have := ih h.2 k k' a b (by simpa using hk) (by simpa using hk') (by omega)
        rwa [show i + 1 + k = i + (k + 1) by omega, show i + 1 + k' = i + (k' + 1) by omega] at this

theorem dynRow_spec {m : List Nat} {i : Nat} {a : COp} : ∀ {l : List COp} {j : Nat}, ∀ (k : Nat) (b : COp), l[k]? = some b → before m i (j + k) = true ∨ kcl b.k = 0 ∨ kcl b.k + kcl a.k ≤ 2 ∨ (i, if softK a.k b.k then 1000 + (j + k) else j + k) ∈ dynRow m i a l j := by
  intro l
  induction l with
  | nil => intro j k b hk; simp at hk
  | cons b0 r ih =>
    intro j k b hk
    cases k with
    | zero =>
      obtain rfl : b0 = b := by simpa using hk
      simp only [dynRow]
      split
      · rename_i h
        simp only [Bool.or_eq_true, beq_iff_eq, decide_eq_true_eq] at h
        rcases h with (h | h) | h
        · exact .inl h
        · exact .inr (.inl h)
        · exact .inr (.inr (.inl h))
      · exact .inr (.inr (.inr (List.mem_cons_self ..)))
    | succ k =>
      have := ih (j := j + 1) k b (by simpa using hk)
      rw [show j + 1 + k = j + (k + 1) by omega] at this
      rcases this with h | h | h | h
      · exact .inl h
      · exact .inr (.inl h)
      · exact .inr (.inr (.inl h))
      · refine .inr (.inr (.inr ?_))
        simp only [dynRow]
        split
        · exact h
        · exact List.mem_cons_of_mem _ h

theorem dynAll_spec {m : List Nat} : ∀ {l : List COp} {i : Nat}, ∀ (k k' : Nat) (a b : COp), l[k]? = some a → l[k']? = some b → k < k' →
    before m (i + k) (i + k') = true ∨ kcl a.k = 0 ∨ kcl b.k = 0 ∨ kcl b.k + kcl a.k ≤ 2 ∨ (i + k, if softK a.k b.k then 1000 + (i + k') else i + k') ∈ dynAll m l i := by
  intro l
  induction l with
  | nil => intro i k k' a b hk; simp at hk
  | cons a0 r ih =>
    intro i k k' a b hk hk' hlt
    cases k' with
    | zero => omega
    | succ k' =>
      cases k with
      | zero =>
        obtain rfl : a0 = a := by simpa using hk
        have := dynRow_spec (m := m) (i := i) (a := a0) (j := i + 1) k' b (by simpa using hk')
        rw [show i + 1 + k' = i + (k' + 1) by omega] at this
        rcases this with h | h | h | h
        · exact .inl h
        · exact .inr (.inr (.inl h))
        · exact .inr (.inr (.inr (.inl h)))
        · by_cases e : kcl a0.k = 0
          · exact .inr (.inl e)
          · refine .inr (.inr (.inr (.inr ?_)))
            simp only [dynAll, beq_iff_eq, e, if_false]
            exact List.mem_append_left _ h
      | succ k =>
        have := ih (i := i + 1) k k' a b (by simpa using hk) (by simpa using hk') (by omega)
        rw [show i + 1 + k = i + (k + 1) by omega, show i + 1 + k' = i + (k' + 1) by omega] at this
        rcases this with h | h | h | h | h
        · exact .inl h
        · exact .inr (.inl h)
        · exact .inr (.inr (.inl h))
        · exact .inr (.inr (.inr (.inl h)))
        · exact .inr (.inr (.inr (.inr (by simp only [dynAll]; exact List.mem_append_right _ h))))

/-! ### a look at a map, and an entry that is made -/

theorem sameZ1_eq {a b : Value} (h : sameZ1 a b = true) : a = b := by
  unfold sameZ1 at h
  split at h <;> first | rfl | (simp at h; done) | skip
  · obtain ⟨rfl, rfl⟩ : _ ∧ _ := by simpa using h
    rfl
  · obtain rfl : _ = _ := by simpa using h
    rfl
  · rename_i x y
    have : x.toList = y.toList := by simpa using h
    rw [ByteArray.toList_eq, ByteArray.toList_eq] at this
    obtain ⟨⟨x⟩⟩ := x
    obtain ⟨⟨y⟩⟩ := y
    have e : x = y := by simpa using this
    rw [e]
  · obtain ⟨rfl, rfl⟩ : _ ∧ _ := by simpa using h
    rfl

theorem sameZ_eq : ∀ {a b : List Value}, sameZ a b = true → a = b := by
  intro a
  induction a with
  | nil => intro b h; cases b <;> simp_all [sameZ]
  | cons x a ih =>
    intro b h
    cases b with
    | nil => simp [sameZ] at h
    | cons y b =>
      simp only [sameZ, Bool.and_eq_true] at h
      rw [sameZ1_eq h.1, ih h.2]

theorem kOk_eqVs : ∀ {ks : List Kd} {a b : List Value}, kOk ks a = true → kOk ks b = true → ∃ r, eqVs ks a b = some r := by
  intro ks
  induction ks with
  | nil => intro a b h1 h2; cases a <;> cases b <;> simp_all [kOk, eqVs]
  | cons k ks ih =>
    intro a b h1 h2
    cases a with
    | nil => simp [kOk] at h1
    | cons x a =>
      cases b with
      | nil => simp [kOk] at h2
      | cons y b =>
        simp only [kOk, Bool.and_eq_true] at h1 h2
        obtain ⟨r, hr⟩ := ih h1.2 h2.2
        have hk : ∃ q, eqK k x y = some q := by
          have ha := h1.1
          have hb := h2.1
          cases k <;> cases x <;> cases y <;> simp_all [kOk1, eqK]
        obtain ⟨q, hq⟩ := hk
        exact ⟨q && r, by simp [eqVs, hq, hr]⟩

theorem findE_app {ks : List Kd} {key : List Value} {e : MEnt} : ∀ {es : List MEnt} {i : Nat},
    findE ks key (es ++ [e]) i = (match findE ks key es i with | some (some j) => some (some j) | some none => (match eqVs ks key e.1 with | some true => some (some (i + es.length)) | some false => some none | none => none) | none => none) := by
  intro es
  induction es with
  | nil =>
    intro i
    simp only [List.nil_append, findE, List.length_nil, Nat.add_zero]
    cases eqVs ks key e.1 with
    | none => rfl
    | some b => cases b <;> rfl
  | cons x es ih =>
    intro i
    simp only [List.cons_append, findE]
    cases eqVs ks key x.1 with
    | none => rfl
    | some b =>
      cases b with
      | true => rfl
      | false =>
        simp only [ih, List.length_cons]
        rw [show i + 1 + es.length = i + (es.length + 1) by omega]

theorem findE_lt {ks : List Kd} {key : List Value} : ∀ {es : List MEnt} {i j : Nat}, findE ks key es i = some (some j) → j < i + es.length := by
  intro es
  induction es with
  | nil => intro i j h; simp [findE] at h
  | cons x es ih =>
    intro i j h
    simp only [findE] at h
    split at h
    · obtain rfl : i = j := by simpa using h
      simp
    · have := ih h; simp only [List.length_cons]; omega
    · simp at h

theorem keyTV_ok {ka : Bool} {ks : List Kd} {k : TV} {key : List Value} (h : keyTV ka ks k = some key) : kOk ks key = true := by
  cases k with
  | agg cs =>
    simp only [keyTV] at h
    split at h
    · exact (keyOk_of h).2
    · simp at h
  | c x =>
    simp only [keyTV] at h
    split at h
    · exact (keyOk_of h).2
    · simp at h
  | tup xs => simp [keyTV] at h

theorem soft_look {call1 call2 : Call} {k1 k2 : Ev.K} {vs1 vs2 : List (Option TV)} {H H' : Heap} {nx1 nx2 n n2 id : Nat} {v v2 : TV} {u u2 : Upd} {ids2 : List Nat} (hk : softK k1 k2 = true)
    (h1 : ev1 call1 k1 vs1 H nx1 = some (v, u, [id], n)) (h2 : ev1 call2 k2 vs2 H' nx2 = some (v2, u2, ids2, n2)) (hs : look H' id = look H id) (ht : id ∈ u2.map (·.1)) :
    ev1 call1 k1 vs1 (u2 ++ H) nx1 = some (v, u, [id], n) := by
  unfold softK at hk
  split at hk
  · rename_i ka ks va z ka' ks' va' z'
    simp only [Bool.and_eq_true, decide_eq_true_eq] at hk
    obtain ⟨⟨⟨rfl, rfl⟩, rfl⟩, hz⟩ := hk
    obtain rfl := sameZ_eq hz
    match vs1, vs2, h1, h2 with
    | [some (.c m1), some kt1], [some (.c m2), some kt2], h1, h2 =>
      change (match evLookup ka ks va z false m1 kt1 H with | some (v, ids) => some (v, ([] : Upd), ids, nx1) | none => none) = _ at h1
      change (match evEntry ka ks va z m2 kt2 H' with | some (v, u, ids) => some (v, u, ids, nx2) | none => none) = _ at h2
      show (match evLookup ka ks va z false m1 kt1 (u2 ++ H) with | some (v, ids) => some (v, ([] : Upd), ids, nx1) | none => none) = _
      have key : evLookup ka ks va z false m1 kt1 H = some (v, [id]) → evLookup ka ks va z false m1 kt1 (u2 ++ H) = some (v, [id]) := by
        clear h1
        intro h1
        split at h2
        · rename_i v3 u3 ids3 h3
          obtain ⟨_, rfl, _, _⟩ : v3 = v2 ∧ u3 = u2 ∧ ids3 = ids2 ∧ nx2 = n2 := by simpa using h2
          unfold evEntry at h3
          split at h3
          · rename_i id2 key2 hkey2
            have hok2 := keyTV_ok hkey2
            split at h3
            · rename_i ka2 va2 es clock hob
              split at h3
              · rename_i hkv
                obtain ⟨rfl, rfl⟩ := hkv
                -- what is laid anew
                have hu : ∃ es' clock', u3 = [(id2, some (.map ka2 va2 es' clock'))] ∧ (es' = es ∨ es' = es ++ [(key2, litsD z, clock)]) := by
                  split at h3
                  · split at h3
                    · obtain ⟨_, rfl, _⟩ := (by simpa using h3 : _ ∧ _ ∧ _)
                      exact ⟨_, _, rfl, .inl rfl⟩
                    · simp at h3
                  · split at h3
                    · obtain ⟨_, rfl, _⟩ := (by simpa using h3 : _ ∧ _ ∧ _)
                      exact ⟨_, _, rfl, .inr rfl⟩
                    · simp at h3
                  · simp at h3
                obtain ⟨es', clock', rfl, hes⟩ := hu
                obtain rfl : id = id2 := by simpa using ht
                have hl2 : look ([(id, some (Ob.map ka2 va2 es' clock'))] ++ H) id = some (.map ka2 va2 es' clock') := by rw [look_append, updF_cons, if_pos rfl]
                rw [hs] at hob
                unfold evLookup at h1 ⊢
                split at h1
                · split at h1
                  · simp at h1
                  · simp at h1
                · rename_i id1 key1 hkey1
                  have hok1 := keyTV_ok hkey1
                  have hid : id1 = id := by
                    repeat' split at h1
                    all_goals first
                      | (simp at h1; done)
                      | (obtain ⟨_, h4⟩ := Prod.mk.inj (Option.some.inj h1); simpa using h4)
                  subst hid
                  simp only [hob, hl2, and_self, if_true] at h1 ⊢
                  rcases hes with rfl | rfl
                  · exact h1
                  · rw [findE_app]
                    split at h1
                    · rename_i j hf
                      have hlt := findE_lt hf
                      rw [Nat.zero_add] at hlt
                      simp only [hf]
                      have e1 : (es ++ [(key2, litsD z, clock)]).getD j default = es.getD j default := by
                        simp only [List.getD_eq_getElem?_getD]
                        rw [List.getElem?_append_left hlt]
                      rw [e1]; exact h1
                    · rename_i hf
                      simp only [hf]
                      obtain ⟨r, hr⟩ := kOk_eqVs hok1 hok2
                      simp only [hr]
                      cases r with
                      | false => exact h1
                      | true =>
                        have e1 : (es ++ [(key2, litsD z, clock)]).getD (0 + es.length) default = (key2, litsD z, clock) := by
                          simp [List.getD_eq_getElem?_getD]
                        simp only [e1]
                        exact h1
                    · simp at h1
                · simp at h1
              · simp at h3
            · simp at h3
          · simp at h3
        · simp at h2
      split at h1
      · rename_i v1 ids1 hl
        obtain ⟨rfl, rfl, rfl, rfl⟩ : v1 = v ∧ [] = u ∧ ids1 = [id] ∧ nx1 = n := by simpa using h1
        rw [key hl]
      · simp at h1
  · simp at hk

/-! ### the run in the text's order, step by step -/

abbrev Eff := Option (TV × Upd × List Nat × Nat)

def effV : Eff → Option TV
  | some (v, _) => some v
  | none => some (.tup [])
def effU : Eff → Upd
  | some (_, u, _) => u
  | none => []
def effR : Eff → List Nat
  | some (_, _, r, _) => r
  | none => []

def Step (call : Call) (base i : Nat) (o : COp) (e : Env) (h : Heap) (f : Eff) (e' : Env) (h' : Heap) : Prop :=
  match f with
  | some (v, u, ids, n) => wants e o.guard = some true ∧ ev1 call o.k (o.args.map (opv e)) h (base + room * i) = some (v, u, ids, n) ∧ n ≤ base + room * (i + 1) ∧ e' = put e o.dst v ∧ h' = u ++ h
  | none => wants e o.guard = some false ∧ e' = drop e o.dst ∧ h' = h

theorem drawn_trace {calls : Nat → Call} {base : Nat} : ∀ (l : List COp) (i : Nat) (e : Env) (h : Heap) (e' : Env) (h' : Heap) (tr : List (List Nat × List Nat)), evDrawn calls base l i e h = some (e', h', tr) →
    ∃ (E : Nat → Env) (Hp : Nat → Heap) (ef : Nat → Eff), E 0 = e ∧ Hp 0 = h ∧ E l.length = e' ∧ Hp l.length = h' ∧
      ∀ (k : Nat) (o : COp), l[k]? = some o → Step (calls (i + k)) base (i + k) o (E k) (Hp k) (ef k) (E (k + 1)) (Hp (k + 1)) ∧ tr[k]? = some (effR (ef k), (effU (ef k)).map (·.1)) := by
  intro l
  induction l with
  | nil =>
    intro i e h e' h' tr hh
    obtain ⟨rfl, rfl, rfl⟩ : e = e' ∧ h = h' ∧ [] = tr := by simpa [evDrawn] using hh
    exact ⟨fun _ => e, fun _ => h, fun _ => none, rfl, rfl, rfl, rfl, fun k o hk => by simp at hk⟩
  | cons o r ih =>
    intro i e h e' h' tr hh
    simp only [evDrawn] at hh
    have fin : ∀ (f : Eff) (e1 : Env) (h1 : Heap) (tr1 : List (List Nat × List Nat)), evDrawn calls base r (i + 1) e1 h1 = some (e', h', tr1) → Step (calls i) base i o e h f e1 h1 → tr = (effR f, (effU f).map (·.1)) :: tr1 →
        ∃ (E : Nat → Env) (Hp : Nat → Heap) (ef : Nat → Eff), E 0 = e ∧ Hp 0 = h ∧ E (o :: r).length = e' ∧ Hp (o :: r).length = h' ∧
          ∀ (k : Nat) (o' : COp), (o :: r)[k]? = some o' → Step (calls (i + k)) base (i + k) o' (E k) (Hp k) (ef k) (E (k + 1)) (Hp (k + 1)) ∧ tr[k]? = some (effR (ef k), (effU (ef k)).map (·.1)) := by
      intro f e1 h1 tr1 hrun hs htr
      obtain ⟨E, Hp, ef, a1, a2, a3, a4, a5⟩ := ih (i + 1) e1 h1 e' h' tr1 hrun
      refine ⟨fun k => match k with | 0 => e | k + 1 => E k, fun k => match k with | 0 => h | k + 1 => Hp k, fun k => match k with | 0 => f | k + 1 => ef k, rfl, rfl, a3, a4, fun k o' hk => ?_⟩
      subst htr
      cases k with
      | zero =>
        obtain rfl : o = o' := by simpa using hk
        refine ⟨?_, by simp⟩
        simp only [Nat.add_zero, a1, a2]
        exact hs
      | succ k =>
        have := a5 k o' (by simpa using hk)
        rw [show i + 1 + k = i + (k + 1) by omega] at this
        exact ⟨this.1, by simpa using this.2⟩
    split at hh
    · rename_i hw
      split at hh
      · rename_i v u ids n hev
        split at hh
        · rename_i hn
          split at hh
          · rename_i e1 h1 tr1 hrun
            obtain ⟨rfl, rfl, rfl⟩ : e1 = e' ∧ h1 = h' ∧ _ = tr := by simpa using hh
            exact fin (some (v, u, ids, n)) _ _ tr1 hrun ⟨hw, hev, hn, rfl, rfl⟩ rfl
          · simp at hh
        · simp at hh
      · simp at hh
    · rename_i hw
      split at hh
      · rename_i e1 h1 tr1 hrun
        obtain ⟨rfl, rfl, rfl⟩ : e1 = e' ∧ h1 = h' ∧ _ = tr := by simpa using hh
        exact fin none _ _ tr1 hrun ⟨hw, rfl, rfl⟩ rfl
      · simp at hh
    · simp at hh

/-! ### what a set of operations makes -/

section
variable (dst : Nat → Option Nat) (ef : Nat → Eff) (D : Nat → Bool) (e0 : Nat → Option TV) (h0 : Nat → Option Ob)

def envX : Nat → Nat → Option TV
  | 0, t => e0 t
  | k + 1, t => if D k = true ∧ dst k = some t then effV (ef k) else envX k t

def heapX : Nat → Nat → Option Ob
  | 0, i => h0 i
  | k + 1, i => if D k = true then (match fnd (effU (ef k)) i with | some o => o | none => heapX k i) else heapX k i
end

/-- the operation touches the object -/
def tch (ef : Nat → Eff) (k id : Nat) : Prop := id ∈ (effU (ef k)).map (·.1)

theorem fnd_out {α : Type} {u : List (Nat × α)} {id : Nat} (h : id ∉ u.map (·.1)) : fnd u id = none := by
  induction u with
  | nil => rfl
  | cons p r ih =>
    obtain ⟨i, x⟩ := p
    simp only [List.map_cons, List.mem_cons, not_or] at h
    have : (i == id) = false := by simpa using fun e : i = id => h.1 e.symm
    simp [fnd, this, ih h.2]

theorem fnd_some {α : Type} {u : List (Nat × α)} {id : Nat} (h : id ∈ u.map (·.1)) : ∃ x, fnd u id = some x := by
  induction u with
  | nil => simp at h
  | cons p r ih =>
    obtain ⟨i, x⟩ := p
    by_cases e : i = id
    · exact ⟨x, by simp [fnd, e]⟩
    · have e' : (i == id) = false := by simpa using e
      simp only [List.map_cons, List.mem_cons] at h
      rcases h with h | h
      · exact absurd h.symm e
      · simpa [fnd, e'] using ih h

section
variable {dst : Nat → Option Nat} {ef : Nat → Eff} {D D' : Nat → Bool} {E : Nat → Env} {Hp : Nat → Heap}

theorem envX_at {n i t : Nat} (hstep : ∀ k, k < n → ∀ t, fnd (E (k + 1)) t = if dst k = some t then effV (ef k) else fnd (E k) t) (hi : i ≤ n)
    (h1 : ∀ k, k < i → dst k = some t → D k = true) (h2 : ∀ k, i ≤ k → k < n → dst k = some t → D k = false) : envX dst ef D (fnd (E 0)) n t = fnd (E i) t := by
  have a : ∀ k, k ≤ i → envX dst ef D (fnd (E 0)) k t = fnd (E k) t := by
    intro k
    induction k with
    | zero => intro _; rfl
    | succ k ih =>
      intro hk
      rw [envX, hstep k (by omega)]
      by_cases hd : dst k = some t
      · rw [if_pos ⟨h1 k (by omega) hd, hd⟩, if_pos hd]
      · rw [if_neg (fun h => hd h.2), if_neg hd, ih (by omega)]
  have b : ∀ d, i + d ≤ n → envX dst ef D (fnd (E 0)) (i + d) t = fnd (E i) t := by
    intro d
    induction d with
    | zero => intro _; exact a i (Nat.le_refl _)
    | succ d ih =>
      intro hd
      rw [← Nat.add_assoc, envX, if_neg, ih (by omega)]
      rintro ⟨hD, hdst⟩
      rw [h2 (i + d) (by omega) (by omega) hdst] at hD
      simp at hD
  have := b (n - i) (by omega)
  rwa [Nat.add_sub_cancel' hi] at this

theorem heapX_at {n i id : Nat} (hstep : ∀ k, k < n → ∀ id, look (Hp (k + 1)) id = match fnd (effU (ef k)) id with | some o => o | none => look (Hp k) id) (hi : i ≤ n)
    (h1 : ∀ k, k < i → tch ef k id → D k = true) (h2 : ∀ k, i ≤ k → k < n → tch ef k id → D k = false) : heapX ef D (look (Hp 0)) n id = look (Hp i) id := by
  have a : ∀ k, k ≤ i → heapX ef D (look (Hp 0)) k id = look (Hp k) id := by
    intro k
    induction k with
    | zero => intro _; rfl
    | succ k ih =>
      intro hk
      rw [heapX, hstep k (by omega), ih (by omega)]
      by_cases ht : tch ef k id
      · rw [if_pos (h1 k (by omega) ht)]
      · rw [fnd_out ht]; simp
  have b : ∀ d, i + d ≤ n → heapX ef D (look (Hp 0)) (i + d) id = look (Hp i) id := by
    intro d
    induction d with
    | zero => intro _; exact a i (Nat.le_refl _)
    | succ d ih =>
      intro hd
      rw [← Nat.add_assoc, heapX, ih (by omega)]
      by_cases ht : tch ef (i + d) id
      · rw [if_neg (by simp [h2 (i + d) (by omega) (by omega) ht])]
      · rw [fnd_out ht]; simp
  have := b (n - i) (by omega)
  rwa [Nat.add_sub_cancel' hi] at this

theorem envX_add {e0 : Nat → Option TV} {n i t : Nat} (hi : i < n) (hD : ∀ k, k ≠ i → D' k = D k) (hDi : D' i = true) (hDi0 : D i = false)
    (h : dst i = some t → ∀ k, i < k → k < n → D k = true → dst k ≠ some t) :
    envX dst ef D' e0 n t = if dst i = some t then effV (ef i) else envX dst ef D e0 n t := by
  have a : ∀ k, k ≤ i → envX dst ef D' e0 k t = envX dst ef D e0 k t := by
    intro k
    induction k with
    | zero => intro _; rfl
    | succ k ih => intro hk; rw [envX, envX, hD k (by omega), ih (by omega)]
  have b : ∀ d, i + 1 + d ≤ n → envX dst ef D' e0 (i + 1 + d) t = if dst i = some t then effV (ef i) else envX dst ef D e0 (i + 1 + d) t := by
    intro d
    induction d with
    | zero =>
      intro _
      show envX dst ef D' e0 (i + 1) t = if dst i = some t then effV (ef i) else envX dst ef D e0 (i + 1) t
      rw [envX, envX, hDi, hDi0, a i (Nat.le_refl _)]
      simp
    | succ d ih =>
      intro hd
      rw [← Nat.add_assoc, envX, envX, hD (i + 1 + d) (by omega), ih (by omega)]
      by_cases hc : D (i + 1 + d) = true ∧ dst (i + 1 + d) = some t
      · rw [if_pos hc, if_pos hc, if_neg]
        intro hdi
        exact h hdi (i + 1 + d) (by omega) (by omega) hc.1 hc.2
      · rw [if_neg hc, if_neg hc]
  have := b (n - (i + 1)) (by omega)
  rwa [Nat.add_sub_cancel' (by omega)] at this

theorem heapX_add {h0 : Nat → Option Ob} {n i id : Nat} (hi : i < n) (hD : ∀ k, k ≠ i → D' k = D k) (hDi : D' i = true) (hDi0 : D i = false)
    (h : tch ef i id → ∀ k, i < k → k < n → D k = true → ¬ tch ef k id) :
    heapX ef D' h0 n id = match fnd (effU (ef i)) id with | some o => o | none => heapX ef D h0 n id := by
  have a : ∀ k, k ≤ i → heapX ef D' h0 k id = heapX ef D h0 k id := by
    intro k
    induction k with
    | zero => intro _; rfl
    | succ k ih => intro hk; rw [heapX, heapX, hD k (by omega), ih (by omega)]
  have b : ∀ d, i + 1 + d ≤ n → heapX ef D' h0 (i + 1 + d) id = match fnd (effU (ef i)) id with | some o => o | none => heapX ef D h0 (i + 1 + d) id := by
    intro d
    induction d with
    | zero =>
      intro _
      show heapX ef D' h0 (i + 1) id = match fnd (effU (ef i)) id with | some o => o | none => heapX ef D h0 (i + 1) id
      rw [heapX, heapX, hDi, hDi0, a i (Nat.le_refl _)]
      simp
    | succ d ih =>
      intro hd
      rw [← Nat.add_assoc, heapX, heapX, hD (i + 1 + d) (by omega), ih (by omega)]
      by_cases ht : tch ef i id
      · by_cases hc : D (i + 1 + d) = true
        · rw [fnd_out (h ht (i + 1 + d) (by omega) (by omega) hc)]; simp
        · rw [if_neg hc, if_neg hc]
      · rw [fnd_out ht]
  have := b (n - (i + 1)) (by omega)
  rwa [Nat.add_sub_cancel' (by omega)] at this
end

end Go.Ev
