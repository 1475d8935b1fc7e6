/- An operation looks only at the objects that it names. Conditions: none. -/
import Derived.Test.YtjfhiochcdjkhaaEvQ
namespace Go.Ev

section
variable {H H' : Heap}

/-- the two heaps agree on these numbers -/
def Agree (H H' : Heap) (ids : List Nat) : Prop := ∀ i ∈ ids, look H' i = look H i

theorem Agree.left {a b : List Nat} (h : Agree H H' (a ++ b)) : Agree H H' a := fun i hi => h i (List.mem_append_left _ hi)
theorem Agree.right {a b : List Nat} (h : Agree H H' (a ++ b)) : Agree H H' b := fun i hi => h i (List.mem_append_right _ hi)

theorem view_local : ∀ n, (∀ c x ids, viewC H n c = some (x, ids) → Agree H H' ids → viewC H' n c = some (x, ids)) ∧
    (∀ cs xs ids, viewL H n cs = some (xs, ids) → Agree H H' ids → viewL H' n cs = some (xs, ids)) := by
  have leaf : ∀ n c x ids, (match c with | .op _ _ | .ofn _ _ => False | _ => True) → viewC H n c = some (x, ids) → Agree H H' ids → viewC H' n c = some (x, ids) := by
    intro n c x ids hl h ha
    cases c with
    | d y => simpa only [viewC] using h
    | osl sz id off len =>
      have : look H' id = look H id := ha id (by
        simp only [viewC] at h
        split at h
        all_goals first
          | (split at h
             · obtain ⟨_, rfl⟩ := Prod.mk.inj (Option.some.inj h); simp
             · simp at h)
          | simp at h)
      simp only [viewC] at h ⊢
      rw [this]; exact h
    | ep id row off =>
      have : look H' id = look H id := ha id (by
        simp only [viewC] at h
        split at h
        all_goals first
          | (split at h
             · split at h
               · obtain ⟨_, rfl⟩ := Prod.mk.inj (Option.some.inj h); simp
               · simp at h
             · simp at h)
          | simp at h)
      simp only [viewC] at h ⊢
      rw [this]; exact h
    | op id off => exact hl.elim
    | ofn f caps => exact hl.elim
    | om id => cases n <;> simp [viewC] at h
  intro n
  induction n with
  | zero =>
    refine ⟨fun c x ids h ha => ?_, fun cs xs ids h ha => ?_⟩
    · cases c with
      | op id off => simp [viewC] at h
      | ofn f caps => simp [viewC] at h
      | _ => exact leaf 0 _ x ids trivial h ha
    · cases cs with
      | nil => simpa only [viewL] using h
      | cons c cs => simp [viewL] at h
  | succ n ih =>
    refine ⟨fun c x ids h ha => ?_, fun cs xs ids h ha => ?_⟩
    · cases c with
      | op id off =>
        simp only [viewC] at h ⊢
        split at h
        · rename_i ho
          split at h
          · rename_i hle
            obtain ⟨rfl, rfl⟩ := Prod.mk.inj (Option.some.inj h)
            rw [ha id (by simp), ho]
            simp only [hle, if_true]
          · simp at h
        · rename_i ho
          split at h
          · rename_i hv
            split at h
            · rename_i hle
              obtain ⟨rfl, rfl⟩ := Prod.mk.inj (Option.some.inj h)
              rw [ha id (by simp), ho]
              simp only [ih.2 _ _ _ hv (fun i hi => ha i (by simp [hi])), hle, if_true]
            · simp at h
          · simp at h
        · simp at h
      | ofn f caps =>
        simp only [viewC] at h ⊢
        split at h
        · rename_i hv
          obtain ⟨rfl, rfl⟩ := Prod.mk.inj (Option.some.inj h)
          simp only [ih.2 _ _ _ hv ha]
        · simp at h
      | _ => exact leaf _ _ x ids trivial h ha
    · cases cs with
      | nil => simpa only [viewL] using h
      | cons c cs =>
        simp only [viewL] at h ⊢
        split at h
        · rename_i h1 h2
          obtain ⟨rfl, rfl⟩ := Prod.mk.inj (Option.some.inj h)
          simp only [ih.1 _ _ _ h1 ha.left, ih.2 _ _ _ h2 ha.right]
        · simp at h

theorem viewCs_local : ∀ cs xs ids, viewCs H cs = some (xs, ids) → Agree H H' ids → viewCs H' cs = some (xs, ids) := by
  intro cs
  induction cs with
  | nil => intro xs ids h _; simpa only [viewCs] using h
  | cons c cs ih =>
    intro xs ids h ha
    simp only [viewCs] at h ⊢
    split at h
    · rename_i h1 h2
      obtain ⟨rfl, rfl⟩ := Prod.mk.inj (Option.some.inj h)
      simp only [(view_local 60).1 _ _ _ h1 ha.left, ih _ _ h2 ha.right]
    · simp at h

theorem freeze_local {all : List Nat} (ha : Agree H H' all) : ∀ (l : List Nat) (u : Upd), (∀ i ∈ l, i ∈ all) → freezeIds H all l = some u → freezeIds H' all l = some u := by
  intro l
  induction l with
  | nil => intro u _ h; simpa only [freezeIds] using h
  | cons a l ih =>
    intro u hl h
    simp only [freezeIds] at h ⊢
    split at h
    · rename_i o u' ho hu
      have hob : freezeOb H' all a = some o := by
        unfold freezeOb at ho ⊢
        rw [ha a (hl a (by simp))]
        split at ho
        · exact ho
        · exact ho
        · exact ho
        · split at ho
          · rename_i hv
            split at ho
            · rename_i hall
              simp only [(view_local 60).2 _ _ _ hv (fun i hi => ha i (by simpa using List.all_eq_true.1 hall i hi)), hall, if_true]
              exact ho
            · simp at ho
          · simp at ho
        · simp at ho
        · simp at ho
      simp only [hob, ih u' (fun i hi => hl i (by simp [hi])) hu]
      exact h
    · simp at h

theorem load_local {agg : Bool} {n : Nat} {p : C} {v : TV} {ids : List Nat} (h : evLoad agg n p H = some (v, ids)) (ha : Agree H H' ids) : evLoad agg n p H' = some (v, ids) := by
  unfold evLoad at h ⊢
  split at h
  · exact h
  · rename_i id row off
    have : look H' id = look H id := ha id (by
      split at h
      all_goals first
        | (split at h
           · split at h
             · obtain ⟨_, rfl⟩ := Prod.mk.inj (Option.some.inj h); simp
             · simp at h
           · simp at h)
        | simp at h)
    simp only [this]; exact h
  · rename_i id off
    have : look H' id = look H id := ha id (by
      split at h
      all_goals first
        | (split at h
           · obtain ⟨_, rfl⟩ := Prod.mk.inj (Option.some.inj h); simp
           · simp at h)
        | simp at h)
    simp only [this]; exact h
  · simp at h

theorem store_local {n : Nat} {p : C} {v : TV} {u : Upd} {ids : List Nat} (h : evStore n p v H = some (u, ids)) (ha : Agree H H' ids) : evStore n p v H' = some (u, ids) := by
  unfold evStore at h ⊢
  split at h
  · simp at h
  · rename_i cs hcs
    split at h
    · rename_i hlen
      simp only [hlen, if_true]
      split at h
      · rename_i id row off
        split at h
        · rename_i sz rows ho
          split at h
          · rename_i r ds ids1 hr hv
            split at h
            · rename_i u1 hfz
              split at h
              · rename_i hb
                obtain ⟨rfl, rfl⟩ := Prod.mk.inj (Option.some.inj h)
                have ha1 : Agree H H' ids1 := fun i hi => ha i (by simp [hi])
                simp only [ha id (by simp), ho, hr, viewCs_local _ _ _ hv ha1, freeze_local ha1 _ _ (fun i hi => hi) hfz, hb.1, hb.2, and_self, if_true]
              · simp at h
            · simp at h
          · simp at h
        · simp at h
      · rename_i id off
        split at h
        · rename_i cells ho
          split at h
          · rename_i hb
            obtain ⟨rfl, rfl⟩ := Prod.mk.inj (Option.some.inj h)
            simp only [ha id (by simp), ho, hb, if_true]
          · simp at h
        · simp at h
      · simp at h
    · simp at h

theorem rowsOf_local {sz : Nat} {x : C} {new : List (List D)} {ids : List Nat} (h : rowsOf sz H x = some (new, ids)) (ha : Agree H H' ids) : rowsOf sz H' x = some (new, ids) := by
  unfold rowsOf at h ⊢
  split at h
  · exact h
  · exact h
  · rename_i sz' id off len
    have : look H' id = look H id := ha id (by
      split at h
      all_goals first
        | (split at h
           · obtain ⟨_, rfl⟩ := Prod.mk.inj (Option.some.inj h); simp
           · simp at h)
        | simp at h)
    simp only [this]; exact h
  · simp at h

theorem copy_local {sz : Nat} {d x : C} {i : Int} {u : Upd} {ids : List Nat} (h : evCopy sz d x H = some (i, u, ids)) (ha : Agree H H' ids) : evCopy sz d x H' = some (i, u, ids) := by
  unfold evCopy at h ⊢
  split at h
  · rename_i new ids1 hr
    obtain ⟨_, _, rfl⟩ : _ ∧ _ ∧ ids1 = ids := by simpa using h
    rw [rowsOf_local hr ha]; exact h
  · rename_i new ids1 sz' id off len hr
    split at h
    · rename_i szo rows ho
      split at h
      · rename_i hb
        obtain ⟨_, _, rfl⟩ : _ ∧ _ ∧ id :: ids1 = ids := by simpa using h
        rw [rowsOf_local hr fun j hj => ha j (List.mem_cons_of_mem _ hj)]
        simp only [ha id (by simp), ho, if_pos hb]
        exact h
      · simp at h
    · simp at h
  · simp at h

theorem append_local {sz nxt n' : Nat} {s x : C} {v : TV} {u : Upd} {ids : List Nat} (h : evAppend sz s x H nxt = some (v, u, ids, n')) (ha : Agree H H' ids) : evAppend sz s x H' nxt = some (v, u, ids, n') := by
  unfold evAppend at h ⊢
  split at h
  · simp at h
  · rename_i new ids1 hr
    split at h
    · have e1 : ids1 = ids := by
        split at h
        · split at h
          · obtain ⟨_, _, h3, _⟩ := (by simpa using h : _ ∧ _ ∧ ids1 = ids ∧ _); exact h3
          · obtain ⟨_, _, h3, _⟩ := (by simpa using h : _ ∧ _ ∧ ids1 = ids ∧ _); exact h3
        · simp at h
      subst e1
      simp only [rowsOf_local hr ha]
      exact h
    · rename_i sz' id off len
      split at h
      · rename_i szo rows ho
        split at h
        · rename_i hb
          have e1 : id :: ids1 = ids := by obtain ⟨_, _, h3, _⟩ := (by simpa using h : _ ∧ _ ∧ id :: ids1 = ids ∧ _); exact h3
          subst e1
          simp only [rowsOf_local hr (fun i hi => ha i (by simp [hi])), ha id (by simp), ho]
          rw [if_pos hb]
          exact h
        · simp at h
      · simp at h
    · simp at h

theorem pack_local : ∀ n, (∀ c t own rd, packC H n c = some (t, own, rd) → Agree H H' rd → packC H' n c = some (t, own, rd)) ∧
    (∀ cs ts own rd, packL H n cs = some (ts, own, rd) → Agree H H' rd → packL H' n cs = some (ts, own, rd)) := by
  have leaf : ∀ n c t own rd, (match c with | .op _ _ => False | _ => True) → packC H n c = some (t, own, rd) → Agree H H' rd → packC H' n c = some (t, own, rd) := by
    intro n c t own rd hl h ha
    cases c with
    | d y => cases n <;> simpa only [packC] using h
    | osl sz id off len =>
      have hm : id ∈ rd := by
        cases n <;>
        · simp only [packC] at h
          split at h
          all_goals first
            | (split at h
               · obtain ⟨_, _, h3⟩ := (by simpa using h : _ ∧ _ ∧ [id] = rd); rw [← h3]; simp
               · simp at h)
            | simp at h
      have : look H' id = look H id := ha id hm
      cases n <;>
      · simp only [packC] at h ⊢
        rw [this]; exact h
    | ep id row off => cases n <;> simp [packC] at h
    | ofn f caps => cases n <;> simp [packC] at h
    | om id => cases n <;> simp [packC] at h
    | op id off => exact hl.elim
  intro n
  induction n with
  | zero =>
    refine ⟨fun c t own rd h ha => ?_, fun cs ts own rd h ha => ?_⟩
    · cases c with
      | op id off => simp [packC] at h
      | _ => exact leaf 0 _ t own rd trivial h ha
    · cases cs with
      | nil => simpa only [packL] using h
      | cons c cs => simp [packL] at h
  | succ n ih =>
    refine ⟨fun c t own rd h ha => ?_, fun cs ts own rd h ha => ?_⟩
    · cases c with
      | op id off =>
        cases off with
        | succ off => simp [packC] at h
        | zero =>
          simp only [packC] at h ⊢
          split at h
          · rename_i ho
            split at h
            · rename_i ts own' rd' hp
              obtain ⟨h1, h2, h3⟩ := (by simpa using h : T.pt ts = t ∧ id :: own' = own ∧ id :: rd' = rd)
              subst h1 h2 h3
              rw [ha id (by simp), ho]
              simp only [ih.2 _ _ _ _ hp (fun i hi => ha i (by simp [hi]))]
            · simp at h
          · rename_i cells ho
            obtain ⟨h1, h2, h3⟩ := (by simpa using h : T.d (.pt cells) = t ∧ [] = own ∧ [id] = rd)
            subst h1 h2 h3
            rw [ha id (by simp), ho]
          · simp at h
      | _ => exact leaf _ _ t own rd trivial h ha
    · cases cs with
      | nil => simpa only [packL] using h
      | cons c cs =>
        simp only [packL] at h ⊢
        split at h
        · rename_i t0 a i0 ts0 b j0 h1 h2
          obtain ⟨e1, e2, e3⟩ := (by simpa using h : t0 :: ts0 = ts ∧ a ++ b = own ∧ i0 ++ j0 = rd)
          subst e1 e2 e3
          simp only [ih.1 _ _ _ _ h1 ha.left, ih.2 _ _ _ _ h2 ha.right]
        · simp at h

theorem args_local : ∀ (tvs : List TV) (ms : List Bool) (as : List A) (ids : List Nat) (lent : List (C × List Nat × List Nat)), evArgs H tvs ms = some (as, ids, lent) → Agree H H' ids → Agree H H' (lent.flatMap (·.2.2)) →
    evArgs H' tvs ms = some (as, ids, lent) := by
  intro tvs
  induction tvs with
  | nil => intro ms as ids lent h _ _; simpa only [evArgs] using h
  | cons t tvs ih =>
    intro ms as ids lent h ha hb
    simp only [evArgs] at h ⊢
    split at h
    · simp at h
    · rename_i as1 ids1 lent1 hrec
      split at h
      · rename_i hm
        split at h
        · split at h
          · rename_i t0 own rd hp
            obtain ⟨e1, e2, e3⟩ := (by simpa using h : A.mt t0 :: as1 = as ∧ ids1 = ids ∧ (_, own, rd) :: lent1 = lent)
            subst e1 e2 e3
            simp only [List.flatMap_cons] at hb
            simp only [ih _ _ _ _ hrec ha hb.right, hm, if_true, (pack_local 60).1 _ _ _ _ hp hb.left]
          · simp at h
        · simp at h
      · rename_i hm
        split at h
        · split at h
          · rename_i x i hv
            obtain ⟨e1, e2, e3⟩ := (by simpa using h : A.d x :: as1 = as ∧ i ++ ids1 = ids ∧ lent1 = lent)
            subst e1 e2 e3
            simp only [ih _ _ _ _ hrec ha.right hb, hm, if_false, Bool.false_eq_true, (view_local 60).1 _ _ _ hv ha.left]
          · simp at h
        · split at h
          · rename_i xs i hv
            obtain ⟨e1, e2, e3⟩ := (by simpa using h : A.agg xs :: as1 = as ∧ i ++ ids1 = ids ∧ lent1 = lent)
            subst e1 e2 e3
            simp only [ih _ _ _ _ hrec ha.right hb, hm, if_false, Bool.false_eq_true, viewCs_local _ _ _ hv ha.left]
          · simp at h
        · simp at h

theorem lent_rd : ∀ (tvs : List TV) (ms : List Bool) (as : List A) (ids : List Nat) (lent : List (C × List Nat × List Nat)), evArgs H tvs ms = some (as, ids, lent) →
    ∀ c own rd, (c, own, rd) ∈ lent → ∃ t, packC H 60 c = some (t, own, rd) := by
  intro tvs
  induction tvs with
  | nil =>
    intro ms as ids lent h c own rd hm
    obtain ⟨_, _, rfl⟩ : [] = as ∧ [] = ids ∧ [] = lent := by simpa [evArgs] using h
    simp at hm
  | cons t tvs ih =>
    intro ms as ids lent h c own rd hm
    simp only [evArgs] at h
    split at h
    · simp at h
    · rename_i as1 ids1 lent1 hrec
      split at h
      · split at h
        · split at h
          · rename_i c0 _ t0 own0 rd0 hp
            obtain ⟨_, _, e3⟩ := (by simpa using h : A.mt t0 :: as1 = as ∧ ids1 = ids ∧ (_, own0, rd0) :: lent1 = lent)
            subst e3
            rcases List.mem_cons.1 hm with hm | hm
            · simp only [Prod.mk.injEq] at hm
              obtain ⟨g1, g2, g3⟩ := hm
              rw [g1, g2, g3]
              exact ⟨_, hp⟩
            · exact ih _ _ _ _ hrec c own rd hm
          · simp at h
        · simp at h
      · split at h
        · split at h
          · obtain ⟨_, _, e3⟩ := (by simpa using h : _ ∧ _ ∧ lent1 = lent)
            subst e3
            exact ih _ _ _ _ hrec c own rd hm
          · simp at h
        · split at h
          · obtain ⟨_, _, e3⟩ := (by simpa using h : _ ∧ _ ∧ lent1 = lent)
            subst e3
            exact ih _ _ _ _ hrec c own rd hm
          · simp at h
        · simp at h

theorem whole_local : ∀ (l : List (C × List Nat × List Nat)), (∀ c own rd, (c, own, rd) ∈ l → ∃ t, packC H 60 c = some (t, own, rd)) → Agree H H' (l.flatMap (·.2.2)) → wholeLent H' l = wholeLent H l := by
  intro l
  induction l with
  | nil => intro _ _; rfl
  | cons p l ih =>
    obtain ⟨c, own, rd⟩ := p
    intro hp ha
    simp only [List.flatMap_cons] at ha
    have h1 := ih (fun c own rd hm => hp c own rd (by simp [hm])) ha.right
    cases c with
    | osl sz id off len =>
      obtain ⟨t, ht⟩ := hp (.osl sz id off len) own rd (by simp)
      have hm : id ∈ rd := by
        simp only [packC] at ht
        split at ht
        all_goals first
          | (split at ht
             · obtain ⟨_, _, h3⟩ := (by simpa using ht : _ ∧ _ ∧ [id] = rd); rw [← h3]; simp
             · simp at ht)
          | simp at ht
      simp only [wholeLent, h1, ha.left id hm]
    | _ => simp only [wholeLent, h1]

theorem call_local {call : Call} {ro : Bool} {muts : List Bool} {f : Option TV} {vs : List (Option TV)} {nxt n' : Nat} {v : TV} {u : Upd} {ids : List Nat} (h : evCall call ro muts f vs H nxt = some (v, u, ids, n')) (ha : Agree H H' ids) :
    evCall call ro muts f vs H' nxt = some (v, u, ids, n') := by
  unfold evCall at h ⊢
  split at h
  · rename_i f caps vs hf hvs
    split at h
    · simp at h
    · rename_i as ids1 lent hargs
      split at h
      · rename_i hcond
        split at h
        · simp at h
        · rename_i rs outs hcall
          by_cases hro : ro = true
          · rw [if_pos hro] at h
            split at h
            · rename_i hc
              have hle : lent = [] := by simpa using hc.2.1
              subst hle
              have e1 : ids1 = ids := by obtain ⟨_, _, h3, _⟩ := (by simpa using h : _ ∧ _ ∧ ids1 = ids ∧ _); exact h3
              subst e1
              simp only [args_local _ _ _ _ _ hargs ha (fun i hi => by simp at hi)]
              rw [if_pos ⟨rfl, hcond.2⟩]
              simp only [hcall, hro, if_true]
              rw [if_pos hc]; exact h
            · simp at h
          · rw [if_neg hro] at h
            split at h
            · simp at h
            · rename_i fu hfz
              split at h
              · simp at h
              · rename_i bu m hbk
                have e1 : ids1 ++ lent.flatMap (·.2.2) = ids := by obtain ⟨_, _, h3, _⟩ := (by simpa using h : _ ∧ _ ∧ ids1 ++ lent.flatMap (·.2.2) = ids ∧ _); exact h3
                subst e1
                simp only [args_local _ _ _ _ _ hargs ha.left ha.right]
                rw [if_pos (by rw [whole_local lent (lent_rd _ _ _ _ _ hargs) ha.right]; exact hcond)]
                simp only [hcall]
                rw [if_neg hro]
                simp only [freeze_local ha.left _ _ (fun i hi => hi) hfz, hbk]
                exact h
      · simp at h
  · simp at h

theorem buildSlice_local {call : Call} {sz len : Nat} {zero : List Value} {places : List Nat} {vs : List (Option TV)} {nxt n' : Nat} {v : TV} {u : Upd} {ids : List Nat}
    (h : ev1 call (.buildSlice sz len zero places) vs H nxt = some (v, u, ids, n')) (ha : Agree H H' ids) : ev1 call (.buildSlice sz len zero places) vs H' nxt = some (v, u, ids, n') := by
  have key : ∀ G : Heap, ev1 call (.buildSlice sz len zero places) vs G nxt = (match allSome vs with
    | some xs =>
      (match fillC (lits zero) ((places.map fun i => (i * sz, sz)).zip xs) with
      | some cs =>
        (match viewCs G cs with
        | some (ds, ids) => (match freezeIds G ids ids with | some u => some (TV.c (.osl sz nxt 0 len), (nxt, some (Ob.arr sz (chunks sz len ds))) :: u, ids, nxt + 1) | none => none)
        | none => none)
      | none => none)
    | none => none) := fun _ => rfl
  rw [key] at h ⊢
  split at h
  · rename_i xs hxs
    split at h
    · rename_i cs hcs
      split at h
      · rename_i ds ids1 hv
        split at h
        · rename_i u1 hfz
          obtain ⟨_, _, h3, _⟩ := (by simpa using h : _ ∧ _ ∧ ids1 = ids ∧ _)
          subst h3
          simp only [viewCs_local _ _ _ hv ha, freeze_local ha _ _ (fun i hi => hi) hfz]
          exact h
        · simp at h
      · simp at h
    · simp at h
  · simp at h

theorem lookup_local {ka va ok : Bool} {ks : List Kd} {z : List Value} {m : C} {k v : TV} {ids : List Nat} (h : evLookup ka ks va z ok m k H = some (v, ids)) (ha : Agree H H' ids) : evLookup ka ks va z ok m k H' = some (v, ids) := by
  unfold evLookup at h ⊢
  split at h
  · exact h
  · rename_i id key hkey
    have hid : id ∈ ids := by
      repeat' split at h
      all_goals first
        | (simp at h; done)
        | (obtain ⟨_, h2⟩ := Prod.mk.inj (Option.some.inj h); rw [← h2]; simp)
    simp only [ha id hid]; exact h
  · simp at h

theorem entry_local {ka va : Bool} {ks : List Kd} {z : List Value} {m : C} {k v : TV} {u : Upd} {ids : List Nat} (h : evEntry ka ks va z m k H = some (v, u, ids)) (ha : Agree H H' ids) : evEntry ka ks va z m k H' = some (v, u, ids) := by
  unfold evEntry at h ⊢
  split at h
  · rename_i id key hkey
    have hid : id ∈ ids := by
      repeat' split at h
      all_goals first
        | (simp at h; done)
        | (obtain ⟨_, _, h2⟩ := (by simpa using h : _ ∧ _ ∧ [id] = ids); rw [← h2]; simp)
    simp only [ha id hid]; exact h
  · simp at h

theorem estore_local {va : Bool} {n : Nat} {m : C} {s : Option TV} {x : TV} {u : Upd} {ids : List Nat} (h : evEStore va n m s x H = some (u, ids)) (ha : Agree H H' ids) : evEStore va n m s x H' = some (u, ids) := by
  unfold evEStore at h ⊢
  split at h
  · rename_i id s1 ds hst hds
    have hid : id ∈ ids := by
      repeat' split at h
      all_goals first
        | (simp at h; done)
        | (obtain ⟨_, h2⟩ := (by simpa using h : _ ∧ [id] = ids); rw [← h2]; simp)
    simp only [ha id hid]; exact h
  · simp at h

def usesMem : Ev.K → Bool
  | .load _ _ | .store _ | .buildSlice _ _ _ _ | .append _ | .copy _ | .call _ _ | .lookup _ _ _ _ _ | .mapEntry _ _ _ _ | .entryStore _ _ => true
  | _ => false

theorem ev1_nomem {call : Call} {k : Ev.K} {vs : List (Option TV)} {nxt : Nat} (hk : usesMem k = false) : ev1 call k vs H nxt = ev1 call k vs H' nxt := by
  cases k <;> first
    | (simp [usesMem] at hk; done)
    | (unfold ev1; split <;> first | rfl | simp_all)

theorem ev1_local {call : Call} {k : Ev.K} {vs : List (Option TV)} {nxt n' : Nat} {v : TV} {u : Upd} {ids : List Nat} (h : ev1 call k vs H nxt = some (v, u, ids, n')) (ha : Agree H H' ids) :
    ev1 call k vs H' nxt = some (v, u, ids, n') := by
  cases k with
  | load agg n =>
    match vs, h with
    | [some (.c p)], h =>
      change (match evLoad agg n p H with | some (v, ids) => some (v, [], ids, nxt) | none => none) = _ at h
      show (match evLoad agg n p H' with | some (v, ids) => some (v, [], ids, nxt) | none => none) = _
      split at h
      · rename_i hl
        obtain ⟨_, _, h3, _⟩ := (by simpa using h : _ ∧ _ ∧ _ = ids ∧ _)
        subst h3
        rw [load_local hl ha]; exact h
      · simp at h
  | store n =>
    match vs, h with
    | [some (.c p), some x], h =>
      change (match evStore n p x H with | some (u, ids) => some (TV.tup [], u, ids, nxt) | none => none) = _ at h
      show (match evStore n p x H' with | some (u, ids) => some (TV.tup [], u, ids, nxt) | none => none) = _
      split at h
      · rename_i hl
        obtain ⟨_, _, h3, _⟩ := (by simpa using h : _ ∧ _ ∧ _ = ids ∧ _)
        subst h3
        rw [store_local hl ha]; exact h
      · simp at h
  | buildSlice sz len zero places => exact buildSlice_local h ha
  | append sz =>
    match vs, h with
    | [some (.c s), some (.c x)], h => exact append_local (s := s) (x := x) h ha
  | copy sz =>
    match vs, h with
    | [some (.c d), some (.c x)], h =>
      change (match evCopy sz d x H with | some (i, u, ids) => some (lv (.int .i64 i), u, ids, nxt) | none => none) = _ at h
      show (match evCopy sz d x H' with | some (i, u, ids) => some (lv (.int .i64 i), u, ids, nxt) | none => none) = _
      split at h
      · rename_i hl
        obtain ⟨_, _, h3, _⟩ := (by simpa using h : _ ∧ _ ∧ _ = ids ∧ _)
        subst h3
        rw [copy_local hl ha]; exact h
      · simp at h
  | call ro muts =>
    match vs, h with
    | f :: vs, h => exact call_local (f := f) (vs := vs) h ha
  | lookup ka ks va z ok =>
    match vs, h with
    | [some (.c m), some k], h =>
      change (match evLookup ka ks va z ok m k H with | some (v, ids) => some (v, ([] : Upd), ids, nxt) | none => none) = _ at h
      show (match evLookup ka ks va z ok m k H' with | some (v, ids) => some (v, ([] : Upd), ids, nxt) | none => none) = _
      split at h
      · rename_i hl
        obtain ⟨_, _, h3, _⟩ := (by simpa using h : _ ∧ _ ∧ _ = ids ∧ _)
        subst h3
        rw [lookup_local hl ha]; exact h
      · simp at h
  | mapEntry ka ks va z =>
    match vs, h with
    | [some (.c m), some k], h =>
      change (match evEntry ka ks va z m k H with | some (v, u, ids) => some (v, u, ids, nxt) | none => none) = _ at h
      show (match evEntry ka ks va z m k H' with | some (v, u, ids) => some (v, u, ids, nxt) | none => none) = _
      split at h
      · rename_i hl
        obtain ⟨_, _, h3, _⟩ := (by simpa using h : _ ∧ _ ∧ _ = ids ∧ _)
        subst h3
        rw [entry_local hl ha]; exact h
      · simp at h
  | entryStore va n =>
    match vs, h with
    | [some (.c m), s, some x], h =>
      change (match evEStore va n m s x H with | some (u, ids) => some (TV.tup [], u, ids, nxt) | none => none) = _ at h
      show (match evEStore va n m s x H' with | some (u, ids) => some (TV.tup [], u, ids, nxt) | none => none) = _
      split at h
      · rename_i hl
        obtain ⟨_, _, h3, _⟩ := (by simpa using h : _ ∧ _ ∧ _ = ids ∧ _)
        subst h3
        rw [estore_local hl ha]; exact h
      · simp at h
  | _ => rw [ev1_nomem (H := H') (H' := H) rfl]; exact h

end
end Go.Ev
