/- A region in any order, against the abstract machine's. Conditions: those of XEvS's check, the relation of XEvC; the oracle's answers are good. -/
import Derived.Test.YtjfhiochcdjkhaaEvS
namespace Go.Ev

section
variable {P : Program} {S K : Nat → Prop} {w0 w : World} {Kn : Nat → Prop} {φ : Nat → Loc} {gv : List Value} {nt : Nat} {a : Act} {call : Call} {calls : Nat → Call} {sig : Sig} {s s' : St}
  {ops : Array Oper} {l : List COp} {m : List Nat} {base : Nat} {E : Nat → Env} {Hp : Nat → Heap} {ef : Nat → Eff}

def dstOf (l : List COp) (k : Nat) : Option Nat := (l[k]?).bind (·.dst)

/-- the later one may come ahead: the earlier one sees the same -/
def SoftP (calls : Nat → Call) (l : List COp) (base : Nat) (E : Nat → Env) (Hp : Nat → Heap) (ef : Nat → Eff) (i j : Nat) : Prop :=
  ∃ c v u id n, l[i]? = some c ∧ ef i = some (v, u, [id], n) ∧ ev1 (calls i) c.k (c.args.map (opv (E i))) (effU (ef j) ++ Hp i) (base + room * i) = some (v, u, [id], n)

structure Plan (P : Program) (sig : Sig) (nt : Nat) (calls : Nat → Call) (ops : Array Oper) (l : List COp) (m : List Nat) (base : Nat) (E : Nat → Env) (Hp : Nat → Heap) (ef : Nat → Eff) : Prop where
  len : l.length = ops.size
  cop : ∀ (k : Nat) (o : Oper), ops[k]? = some o → l[k]? = some (compOp P sig nt ops o)
  step : ∀ (k : Nat) (c : COp), l[k]? = some c → Step (calls k) base k c (E k) (Hp k) (ef k) (E (k + 1)) (Hp (k + 1))
  ord : ∀ (k : Nat) (o : Oper), ops[k]? = some o → (∀ j, before m j k = true → ∃ e ∈ o.after, Region.binds .any e = true ∧ (e.on = j ∨ before m j e.on = true)) ∧ ∀ e ∈ o.after, Region.binds .any e = true → e.on < k
  con : ∀ (i j : Nat) (a b : COp), l[i]? = some a → l[j]? = some b → i < j → before m i j = true ∨ confl a b = false
  apt : ∀ (i j : Nat), i < j → j < ops.size → before m i j = true ∨ ((∀ id, tch ef i id → id ∉ effR (ef j) ∧ ¬ tch ef j id) ∧ ((∀ id, tch ef j id → id ∉ effR (ef i)) ∨ SoftP calls l base E Hp ef i j))

theorem Step.env {i : Nat} {o : COp} {e e' : Env} {h h' : Heap} {f : Eff} (hs : Step call base i o e h f e' h') (t : Nat) : fnd e' t = if o.dst = some t then effV f else fnd e t := by
  cases f with
  | none => obtain ⟨_, rfl, _⟩ := hs; rw [fnd_drop]; rfl
  | some p => obtain ⟨v, u, r, n⟩ := p; obtain ⟨_, _, _, rfl, _⟩ := hs; rw [fnd_put]; rfl

theorem Step.heap {i : Nat} {o : COp} {e e' : Env} {h h' : Heap} {f : Eff} (hs : Step call base i o e h f e' h') (id : Nat) : look h' id = match fnd (effU f) id with | some o => o | none => look h id := by
  cases f with
  | none => obtain ⟨_, _, rfl⟩ := hs; rfl
  | some p => obtain ⟨v, u, r, n⟩ := p; obtain ⟨_, _, _, _, rfl⟩ := hs; rw [look_append]; rfl

theorem plan_of {e' : Env} {h' : Heap} {e : Env} {h : Heap} {tr : List (List Nat × List Nat)} (hl : l = ops.toList.map (compOp P sig nt ops)) (hord : ordOk m ops.toList 0 = true) (hsch : sched m l 0 = true)
    (hev : evDrawn calls base l 0 e h = some (e', h', tr)) (hdyn : dynOk tr (dynAll m l 0) = true) (hsmall : l.length ≤ 1000) :
    ∃ E Hp ef, Plan P sig nt calls ops l m base E Hp ef ∧ E 0 = e ∧ Hp 0 = h ∧ E ops.size = e' ∧ Hp ops.size = h' := by
  obtain ⟨E, Hp, ef, h1, h2, h3, h4, h5⟩ := drawn_trace l 0 e h e' h' tr hev
  have hlen : l.length = ops.size := by rw [hl]; simp
  refine ⟨E, Hp, ef, ⟨hlen, ?_, ?_, ?_, ?_, ?_⟩, h1, h2, hlen ▸ h3, hlen ▸ h4⟩
  · intro k o hk
    rw [hl, List.getElem?_map, Array.getElem?_toList, hk]; rfl
  · intro k c hk
    have := (h5 k c hk).1
    rwa [Nat.zero_add] at this
  · intro k o hk
    have := ordOk_spec hord k o (by rw [Array.getElem?_toList]; exact hk)
    rwa [Nat.zero_add] at this
  · intro i j a b ha hb hij
    have := sched_spec hsch i j a b ha hb hij
    rwa [Nat.zero_add, Nat.zero_add] at this
  · intro i j hij hj
    have hi' : i < l.length := by omega
    have hj' : j < l.length := by omega
    obtain ⟨a, ha⟩ : ∃ a, l[i]? = some a := ⟨_, List.getElem?_eq_getElem hi'⟩
    obtain ⟨b, hb⟩ : ∃ b, l[j]? = some b := ⟨_, List.getElem?_eq_getElem hj'⟩
    have sa := h5 i a ha
    have sb := h5 j b hb
    have noU : ∀ (k : Nat) (c : COp), Step (calls (0 + k)) base (0 + k) c (E k) (Hp k) (ef k) (E (k + 1)) (Hp (k + 1)) → kcl c.k ≤ 1 → ∀ id, ¬ tch ef k id := by
      intro k c hs hc id ht
      unfold tch at ht
      generalize hf : ef k = f at hs ht
      cases f with
      | none => simp [effU] at ht
      | some p =>
        obtain ⟨v, u, r, n⟩ := p
        obtain ⟨_, hev1, _⟩ := hs
        rw [show effU (some (v, u, r, n)) = u from rfl, kcl_none hc hev1] at ht
        simp at ht
    have noR : ∀ (k : Nat) (c : COp), Step (calls (0 + k)) base (0 + k) c (E k) (Hp k) (ef k) (E (k + 1)) (Hp (k + 1)) → kcl c.k = 0 → ∀ id, id ∉ effR (ef k) := by
      intro k c hs hc id ht
      generalize hf : ef k = f at hs ht
      cases f with
      | none => simp [effR] at ht
      | some p =>
        obtain ⟨v, u, r, n⟩ := p
        obtain ⟨_, hev1, _⟩ := hs
        rw [show effR (some (v, u, r, n)) = r from rfl, kcl_zero hc hev1] at ht
        simp at ht
    rcases dynAll_spec (m := m) (i := 0) i j a b ha hb hij with h | h | h | h | h
    · rw [Nat.zero_add, Nat.zero_add] at h; exact .inl h
    · exact .inr ⟨fun id ht => absurd ht (noU i a sa.1 (by omega) id), .inl fun id _ => noR i a sa.1 h id⟩
    · exact .inr ⟨fun id _ => ⟨noR j b sb.1 h id, noU j b sb.1 (by omega) id⟩, .inl fun id ht => absurd ht (noU j b sb.1 (by omega) id)⟩
    · by_cases ea : kcl a.k ≤ 1
      · by_cases eb : kcl b.k ≤ 1
        · exact .inr ⟨fun id ht => absurd ht (noU i a sa.1 ea id), .inl fun id ht => absurd ht (noU j b sb.1 eb id)⟩
        · have : kcl a.k = 0 := by omega
          exact .inr ⟨fun id ht => absurd ht (noU i a sa.1 (by omega) id), .inl fun id _ => noR i a sa.1 this id⟩
      · have : kcl b.k = 0 := by omega
        exact .inr ⟨fun id _ => ⟨noR j b sb.1 this id, noU j b sb.1 (by omega) id⟩, .inl fun id ht => absurd ht (noU j b sb.1 (by omega) id)⟩
    · rw [Nat.zero_add, Nat.zero_add] at h
      have hapart : apart (effR (ef i), (effU (ef i)).map (·.1)) (effR (ef j), (effU (ef j)).map (·.1)) = true →
          (∀ id, tch ef i id → id ∉ effR (ef j) ∧ ¬ tch ef j id) ∧ ((∀ id, tch ef j id → id ∉ effR (ef i)) ∨ SoftP calls l base E Hp ef i j) := by
        intro this
        simp only [apart, Bool.and_eq_true, List.all_eq_true, Bool.not_eq_true', List.contains_eq_mem, decide_eq_false_iff_not] at this
        exact ⟨fun id ht => ⟨(this.1 id ht).1, (this.1 id ht).2⟩, .inl fun id ht => this.2 id ht⟩
      have hd := List.all_eq_true.1 hdyn _ h
      by_cases hso : softK a.k b.k = true
      · rw [if_pos hso] at hd
        simp only at hd
        rw [if_pos (by omega), show 1000 + j - 1000 = j by omega] at hd
        simp only [softTr, sa.2, sb.2, Bool.or_eq_true] at hd
        rcases hd with hd | hd
        · exact .inr (hapart hd)
        · right
          split at hd
          · rename_i id hab
            obtain ⟨hR, hU⟩ := Prod.mk.inj hab
            refine ⟨fun id ht => by unfold tch at ht; rw [hU] at ht; simp at ht, ?_⟩
            by_cases htj : tch ef j id
            · right
              -- nobody between lays that object anew
              have hsame : ∀ k, i ≤ k → k ≤ j → look (Hp k) id = look (Hp i) id := by
                intro k hk
                induction k with
                | zero => intro _; rw [show i = 0 by omega]
                | succ k ih =>
                  intro hkj
                  by_cases e : i = k + 1
                  · rw [e]
                  · have hik : i ≤ k := by omega
                    rw [← ih hik (by omega)]
                    obtain ⟨c, hc⟩ : ∃ c, l[k]? = some c := ⟨_, List.getElem?_eq_getElem (by omega)⟩
                    have sk := h5 k c hc
                    rw [sk.1.heap id]
                    have hn : id ∉ (effU (ef k)).map (·.1) := by
                      by_cases e2 : k = i
                      · subst e2; rw [hU]; simp
                      · have hm : (effR (ef k), (effU (ef k)).map (·.1)) ∈ (tr.take j).drop (i + 1) := by
                          refine List.mem_of_getElem? (i := k - (i + 1)) ?_
                          rw [List.getElem?_drop, show i + 1 + (k - (i + 1)) = k by omega, List.getElem?_take, if_pos (by omega)]
                          exact sk.2
                        have := List.all_eq_true.1 hd _ hm
                        simpa using this
                    rw [fnd_out hn]
              have sai := sa.1
              have sbj := sb.1
              generalize hfi : ef i = fi at sai hR hU
              generalize hfj : ef j = fj at sbj
              cases fi with
              | none => simp [effR] at hR
              | some p =>
                obtain ⟨v, u, ids, n⟩ := p
                obtain rfl : ids = [id] := hR
                cases fj with
                | none => unfold tch at htj; rw [hfj] at htj; simp [effU] at htj
                | some q =>
                  obtain ⟨v2, u2, ids2, n2⟩ := q
                  unfold tch at htj
                  rw [hfj] at htj
                  obtain ⟨_, hev1, _⟩ := sai
                  obtain ⟨_, hev2, _⟩ := sbj
                  rw [Nat.zero_add] at hev1 hev2
                  exact ⟨a, v, u, id, n, ha, hfi, by rw [hfj]; exact soft_look hso hev1 hev2 (hsame j (by omega) (Nat.le_refl _)) htj⟩
            · left
              intro id2 ht2
              rw [hR]
              simp only [List.mem_singleton]
              rintro rfl
              exact htj ht2
          · simp at hd
      · rw [if_neg hso] at hd
        simp only at hd
        rw [if_neg (by omega)] at hd
        simp only [sa.2, sb.2] at hd
        exact .inr (hapart hd)

def Closed (ops : Array Oper) (D : Nat → Bool) : Prop := ∀ (k : Nat) (o : Oper), ops[k]? = some o → D k = true → ∀ e ∈ o.after, Region.binds .any e = true → D e.on = true

theorem Plan.closed (hp : Plan P sig nt calls ops l m base E Hp ef) {D : Nat → Bool} (hc : Closed ops D) {i : Nat} : ∀ (N j : Nat), j < N → j < ops.size → D j = true → before m i j = true → D i = true := by
  intro N
  induction N with
  | zero => intro j hj; omega
  | succ N ih =>
    intro j hj hjn hD hb
    have ho : ops[j]? = some ops[j] := Array.getElem?_eq_getElem hjn
    obtain ⟨h1, h2⟩ := hp.ord j _ ho
    obtain ⟨e, he, hbd, h⟩ := h1 i hb
    have hDe := hc j _ ho hD e he hbd
    rcases h with h | h
    · rw [← h]; exact hDe
    · have := h2 e he hbd
      exact ih e.on (by omega) (by omega) hDe h

theorem Plan.pred (hp : Plan P sig nt calls ops l m base E Hp ef) {D : Nat → Bool} (hc : Closed ops D) {i j : Nat} {o : Oper} (hi : ops[i]? = some o) (hall : ∀ e ∈ o.after, Region.binds .any e = true → D e.on = true)
    (hb : before m j i = true) : D j = true := by
  obtain ⟨h1, h2⟩ := hp.ord i _ hi
  obtain ⟨e, he, hbd, h⟩ := h1 j hb
  have hDe := hall e he hbd
  rcases h with h | h
  · rw [← h]; exact hDe
  · have := h2 e he hbd
    have hlt : i < ops.size := (Array.getElem?_eq_some_iff.1 hi).1
    exact hp.closed hc (e.on + 1) e.on (by omega) (by omega) hDe h

theorem hits_of {d : Option Nat} {l : List Nat} {t : Nat} (hd : d = some t) (h : t ∈ l) : hits d l = true := by
  subst hd; simpa [hits] using h

/-- what an operation that is ready sees: what it saw in the text's order -/
theorem Plan.sees (hp : Plan P sig nt calls ops l m base E Hp ef) {D : Nat → Bool} (hc : Closed ops D) {i : Nat} {o : Oper} {c : COp} (hi : ops[i]? = some o) (hci : l[i]? = some c) (hD : D i = false)
    (hall : ∀ e ∈ o.after, Region.binds .any e = true → D e.on = true) :
    (∀ t ∈ looksC c, envX (dstOf l) ef D (fnd (E 0)) ops.size t = fnd (E i) t) ∧ (∃ G, (∀ id ∈ effR (ef i), heapX ef D (look (Hp 0)) ops.size id = look G id) ∧ ∀ v u ids n, ef i = some (v, u, ids, n) → ev1 (calls i) c.k (c.args.map (opv (E i))) G (base + room * i) = some (v, u, ids, n)) ∧
    (∀ t, c.dst = some t → ∀ k, i < k → k < ops.size → D k = true → dstOf l k ≠ some t) ∧ (∀ id, tch ef i id → ∀ k, i < k → k < ops.size → D k = true → ¬ tch ef k id) := by
  have hlt : i < ops.size := (Array.getElem?_eq_some_iff.1 hi).1
  have get : ∀ k, k < ops.size → ∃ b, l[k]? = some b := fun k hk => ⟨_, List.getElem?_eq_getElem (by rw [hp.len]; exact hk)⟩
  have lat : ∀ k, i < k → k < ops.size → before m i k = true → D k = false := by
    intro k _ hk hb
    cases hDk : D k with
    | false => rfl
    | true => rw [hp.closed hc (k + 1) k (by omega) hk hDk hb] at hD; simp at hD
  refine ⟨fun t ht => ?_, ?_, fun t ht k hik hk hDk hdk => ?_, fun id ht k hik hk hDk htk => ?_⟩
  · refine envX_at (fun k hk t => ?_) (Nat.le_of_lt hlt) (fun k hk hd => ?_) (fun k hik hk hd => ?_)
    · obtain ⟨b, hb⟩ := get k hk
      have := (hp.step k b hb).env t
      rw [this]; simp [dstOf, hb]
    · obtain ⟨b, hb⟩ := get k (by omega)
      have hbd : b.dst = some t := by simpa [dstOf, hb] using hd
      rcases hp.con k i b c hb hci hk with h | h
      · exact hp.pred hc hi hall h
      · simp [confl, hits_of hbd ht] at h
    · rcases Nat.lt_or_ge i k with h1 | h1
      · obtain ⟨b, hb⟩ := get k (by omega)
        have hbd : b.dst = some t := by simpa [dstOf, hb] using hd
        rcases hp.con i k c b hci hb h1 with h | h
        · exact lat k h1 hk h
        · simp [confl, hits_of hbd ht] at h
      · obtain rfl : k = i := by omega
        exact hD
  · have hev : ∀ v u ids n, ef i = some (v, u, ids, n) → ev1 (calls i) c.k (c.args.map (opv (E i))) (Hp i) (base + room * i) = some (v, u, ids, n) := by
      intro v u ids n hf
      have hs := hp.step i c hci
      rw [hf] at hs
      exact hs.2.1
    by_cases hsoft : ∃ k, i < k ∧ k < ops.size ∧ D k = true ∧ ∃ id ∈ effR (ef i), tch ef k id
    · -- the last of those that came ahead
      obtain ⟨k, ⟨hik, hk, hDk, id0, hid0, ht0⟩, hmax⟩ : ∃ k, (i < k ∧ k < ops.size ∧ D k = true ∧ ∃ id ∈ effR (ef i), tch ef k id) ∧ ∀ k', k < k' → ¬ (i < k' ∧ k' < ops.size ∧ D k' = true ∧ ∃ id ∈ effR (ef i), tch ef k' id) := by
        have : ∀ (N : Nat) (k : Nat), ops.size - k ≤ N → (i < k ∧ k < ops.size ∧ D k = true ∧ ∃ id ∈ effR (ef i), tch ef k id) →
            ∃ k, (i < k ∧ k < ops.size ∧ D k = true ∧ ∃ id ∈ effR (ef i), tch ef k id) ∧ ∀ k', k < k' → ¬ (i < k' ∧ k' < ops.size ∧ D k' = true ∧ ∃ id ∈ effR (ef i), tch ef k' id) := by
          intro N
          induction N with
          | zero => intro k h1 h2; omega
          | succ N ihN =>
            intro k h1 h2
            by_cases hm : ∃ k', k < k' ∧ (i < k' ∧ k' < ops.size ∧ D k' = true ∧ ∃ id ∈ effR (ef i), tch ef k' id)
            · obtain ⟨k', h3, h4⟩ := hm
              exact ihN k' (by omega) h4
            · exact ⟨k, h2, fun k' h3 h4 => hm ⟨k', h3, h4⟩⟩
        obtain ⟨k, h⟩ := hsoft
        exact this _ k (Nat.le_refl _) h
      rcases hp.apt i k hik hk with h | ⟨_, h | h⟩
      · rw [lat k hik hk h] at hDk; simp at hDk
      · exact absurd hid0 (h id0 ht0)
      · obtain ⟨c', v, u, id, n, hc', hf, hev'⟩ := h
        obtain rfl : c = c' := Option.some.inj (hci.symm.trans hc')
        have hR : effR (ef i) = [id] := by rw [hf]; rfl
        refine ⟨effU (ef k) ++ Hp i, fun id' hid' => ?_, fun v' u' ids' n' hf' => ?_⟩
        · obtain rfl : id' = id := by rw [hR] at hid'; simpa using hid'
          obtain rfl : id0 = id' := by rw [hR] at hid0; simpa using hid0
          obtain ⟨x, hx⟩ := fnd_some ht0
          have hlast : ∀ n', k < n' → n' ≤ ops.size → heapX ef D (look (Hp 0)) n' id0 = x := by
            intro n' hkn
            induction n' with
            | zero => omega
            | succ n' ihn =>
              intro hn'
              simp only [heapX]
              by_cases e : n' = k
              · subst e
                rw [hx]; simp [hDk]
              · have hno : ¬ (D n' = true ∧ tch ef n' id0) := fun hh => hmax n' (by omega) ⟨by omega, by omega, hh.1, id0, hid', hh.2⟩
                have := ihn (by omega) (by omega)
                cases hDn : D n' with
                | false => simpa [hDn] using this
                | true =>
                  have hnt : ¬ tch ef n' id0 := fun h => hno ⟨hDn, h⟩
                  rw [fnd_out hnt]; simpa [hDn] using this
          rw [hlast ops.size hk (Nat.le_refl _), look_append]
          simp only [updF, hx]
        · rw [hf] at hf'
          obtain ⟨rfl, rfl, rfl, rfl⟩ : v = v' ∧ u = u' ∧ [id] = ids' ∧ n = n' := by simpa using hf'
          exact hev'
    · refine ⟨Hp i, fun id hid => ?_, hev⟩
      refine heapX_at (fun k hk id => ?_) (Nat.le_of_lt hlt) (fun k hk hd => ?_) (fun k hik hk hd => ?_)
      · obtain ⟨b, hb⟩ := get k hk
        exact (hp.step k b hb).heap id
      · rcases hp.apt k i hk hlt with h | h
        · exact hp.pred hc hi hall h
        · exact absurd hid (h.1 id hd).1
      · rcases Nat.lt_or_ge i k with h1 | h1
        · cases hDk : D k with
          | false => rfl
          | true => exact absurd ⟨k, h1, hk, hDk, id, hid, hd⟩ hsoft
        · obtain rfl : k = i := by omega
          exact hD
  · obtain ⟨b, hb⟩ := get k hk
    have hbd : b.dst = some t := by simpa [dstOf, hb] using hdk
    rcases hp.con i k c b hci hb hik with h | h
    · rw [lat k hik hk h] at hDk; simp at hDk
    · simp [confl, ht, hbd, hits] at h
  · rcases hp.apt i k hik hk with h | h
    · rw [lat k hik hk h] at hDk; simp at hDk
    · exact absurd htk (h.1 id ht).2

/-- how many are not yet in the set -/
def cnt (D : Nat → Bool) : Nat → Nat
  | 0 => 0
  | k + 1 => cnt D k + if D k = true then 0 else 1

theorem cnt_add {D D' : Nat → Bool} {i : Nat} (hD : ∀ k, k ≠ i → D' k = D k) (h1 : D' i = true) (h0 : D i = false) : ∀ n, i < n → cnt D' n + 1 = cnt D n := by
  have a : ∀ k, k ≤ i → cnt D' k = cnt D k := by
    intro k
    induction k with
    | zero => intro _; rfl
    | succ k ih => intro hk; simp only [cnt]; rw [ih (by omega), hD k (by omega)]
  intro n
  induction n with
  | zero => intro h; omega
  | succ n ih =>
    intro h
    simp only [cnt]
    by_cases e : i = n
    · subst e
      rw [a i (Nat.le_refl _), h1, h0]; simp
    · have := ih (by omega)
      rw [hD n (fun h => e h.symm)]
      omega

theorem cnt_zero {D : Nat → Bool} : ∀ {n : Nat}, cnt D n = 0 → ∀ k, k < n → D k = true := by
  intro n
  induction n with
  | zero => intro _ k hk; omega
  | succ n ih =>
    intro h k hk
    simp only [cnt] at h
    by_cases e : k = n
    · subst e
      by_cases hd : D k = true
      · exact hd
      · simp [hd] at h
    · exact ih (by omega) k (by omega)

theorem cnt_all (n : Nat) : cnt (fun _ => false) n = n := by
  induction n with
  | zero => rfl
  | succ n ih => simp [cnt, ih]

theorem wants_congr {e e' : Env} {g : Option (Nat × Bool)} (h : ∀ t ∈ (match g with | some (t, _) => [t] | none => ([] : List Nat)), fnd e' t = fnd e t) : wants e' g = wants e g := by
  cases g with
  | none => rfl
  | some p =>
    obtain ⟨t, b⟩ := p
    simp only [wants, h t (by simp)]

theorem opv_congr {e e' : Env} : ∀ {args : List Operand}, (∀ t ∈ args.filterMap opT, fnd e' t = fnd e t) → args.map (opv e') = args.map (opv e) := by
  intro args h
  refine List.map_congr_left fun x hx => ?_
  cases x with
  | tmp t => exact h t (List.mem_filterMap.2 ⟨.tmp t, hx, rfl⟩)
  | _ => rfl

theorem drawn_go (hok : ∀ i, CallOk P (calls i)) (hnt : nt < 1000000000) {Q : Exit → Act → World → Prop} (hp : Plan P sig nt calls ops l m base E Hp ef) {S0 : Nat → Prop} {ws : World} {gh : List C}
    (hQ : ∀ S' Kn' φ' a' w', Stp S0 ws S' w' → Rel S' K w0 Kn' φ' gv nt ⟨E ops.size, Hp ops.size, base + room * l.length, gh⟩ a' w' → Q .normal a' w') :
    ∀ (fuel : Nat) (listed : Array Bool) (S : Nat → Prop) (Kn : Nat → Prop) (φ : Nat → Loc) (a : Act) (w : World) (ec : Env) (hc : Heap),
    listed.size = ops.size → cnt (fun k => listed.getD k false) ops.size ≤ fuel → Closed ops (fun k => listed.getD k false) →
    (∀ t, fnd ec t = envX (dstOf l) ef (fun k => listed.getD k false) (fnd (E 0)) ops.size t) → (∀ id, look hc id = heapX ef (fun k => listed.getD k false) (look (Hp 0)) ops.size id) →
    Inv S K w0 Kn φ (look hc) w → Env.ok S w Kn φ ec a.tmps → a.tmps.size = nt → a.defers = [] →
    (∀ j, Kn j → j < base ∨ ∃ i, i < ops.size ∧ listed.getD i false = true ∧ base + room * i ≤ j ∧ j < base + room * (i + 1)) →
    (∀ (i : Nat) (c : C) (v : Value), gh[i]? = some c → gv[i]? = some v → RC S w Kn φ c v) → Stp S0 ws S w → wpAny P .any ops Q fuel listed a w := by
  intro fuel
  induction fuel with
  | zero =>
    intro listed S Kn φ a w ec hc hsz hcnt hcl henv hheap hI hE hts hdf hKn hgh hstp
    have hall := cnt_zero (Nat.le_zero.1 hcnt)
    refine ⟨?_, ?_⟩
    · rw [List.eq_nil_iff_forall_not_mem]
      intro i hi
      obtain ⟨h0, o, ho, _⟩ := mem_ready.1 hi
      have hlt : i < ops.size := (Array.getElem?_eq_some_iff.1 ho).1
      have h2 := hall i hlt
      have hlt2 : i < listed.size := by omega
      simp [Array.getD, hlt2] at h0 h2
      rw [h0] at h2; simp at h2
    · refine hQ S Kn φ a w hstp ⟨?_, ?_, hts, hdf, ?_, hgh⟩
      · have : look hc = look (Hp ops.size) := by
          funext id
          rw [hheap]
          refine heapX_at (fun k hk id => ?_) (Nat.le_refl _) (fun k hk _ => hall k hk) (fun k h1 h2 _ => by omega)
          exact (hp.step k _ (List.getElem?_eq_getElem (by rw [hp.len]; exact hk))).heap id
        rw [← this]; exact hI
      · intro t x hx
        refine hE t x ?_
        rw [henv, ← hx]
        refine envX_at (fun k hk t => ?_) (Nat.le_refl _) (fun k hk _ => hall k hk) (fun k h1 h2 _ => by omega)
        have hb : l[k]? = some _ := List.getElem?_eq_getElem (by rw [hp.len]; exact hk)
        have := (hp.step k _ hb).env t
        rw [this]; simp only [dstOf, hb, Option.bind_some]
      · intro j hj hk
        have hj' : base + room * l.length ≤ j := hj
        rw [hp.len] at hj'
        rcases hKn j hk with h | ⟨i, hi, _, h1, h2⟩
        · omega
        · have : room * (i + 1) ≤ room * ops.size := Nat.mul_le_mul_left _ (by omega)
          omega
  | succ fuel ih =>
    intro listed S Kn φ a w ec hc hsz hcnt hcl henv hheap hI hE hts hdf hKn hgh hstp
    have fin : (∀ k, k < ops.size → listed.getD k false = true) → Q .normal a w := by
      intro hall
      refine hQ S Kn φ a w hstp ⟨?_, ?_, hts, hdf, ?_, hgh⟩
      · have : look hc = look (Hp ops.size) := by
          funext id
          rw [hheap]
          refine heapX_at (fun k hk id => ?_) (Nat.le_refl _) (fun k hk _ => hall k hk) (fun k h1 h2 _ => by omega)
          exact (hp.step k _ (List.getElem?_eq_getElem (by rw [hp.len]; exact hk))).heap id
        rw [← this]; exact hI
      · intro t x hx
        refine hE t x ?_
        rw [henv, ← hx]
        refine envX_at (fun k hk t => ?_) (Nat.le_refl _) (fun k hk _ => hall k hk) (fun k h1 h2 _ => by omega)
        have hb : l[k]? = some _ := List.getElem?_eq_getElem (by rw [hp.len]; exact hk)
        have := (hp.step k _ hb).env t
        rw [this]; simp only [dstOf, hb, Option.bind_some]
      · intro j hj hk
        have hj' : base + room * l.length ≤ j := hj
        rw [hp.len] at hj'
        rcases hKn j hk with h | ⟨i, hi, _, h1, h2⟩
        · omega
        · have : room * (i + 1) ≤ room * ops.size := Nat.mul_le_mul_left _ (by omega)
          omega
    refine ⟨fun hnil => fin ?_, fun i hi => ?_⟩
    · -- nothing is ready: all is done
      intro k
      induction k using Nat.strongRecOn with
      | _ k ihk =>
        intro hk
        cases hd : listed.getD k false with
        | true => rfl
        | false =>
          exfalso
          have ho : ops[k]? = some ops[k] := Array.getElem?_eq_getElem hk
          have : k ∈ Region.ready .any ops listed := by
            rw [mem_ready]
            refine ⟨?_, _, ho, fun e he hbk => ?_⟩
            · have hlt2 : k < listed.size := by omega
              simp [Array.getD, hlt2] at hd ⊢
              exact hd
            · have := (hp.ord k _ ho).2 e he hbk
              exact ihk e.on this (by omega)
          rw [hnil] at this
          simp at this
    · obtain ⟨h0, o, ho, hall⟩ := mem_ready.1 hi
      have hlt : i < ops.size := (Array.getElem?_eq_some_iff.1 ho).1
      have hlt2 : i < listed.size := by omega
      have hD : listed.getD i false = false := by
        simp [Array.getD, hlt2] at h0 ⊢
        exact h0
      have hci := hp.cop i o ho
      have hstep := hp.step i _ hci
      obtain ⟨s1, s2, s3, s4⟩ := hp.sees (D := fun k => listed.getD k false) hcl ho hci hD hall
      have hD' : ∀ k, k ≠ i → (listed.setIfInBounds i true).getD k false = listed.getD k false := fun k hk => getD_set_ne false (fun e => hk e.symm)
      have hDi : (listed.setIfInBounds i true).getD i false = true := by simp [hlt2]
      have hcnt' : cnt (fun k => (listed.setIfInBounds i true).getD k false) ops.size ≤ fuel := by
        have := cnt_add (D := fun k => listed.getD k false) (D' := fun k => (listed.setIfInBounds i true).getD k false) hD' hDi hD ops.size hlt
        omega
      have hcl' : Closed ops (fun k => (listed.setIfInBounds i true).getD k false) := by
        intro k o' ho' hk e he hb
        by_cases e1 : k = i
        · subst e1
          obtain rfl : o = o' := by
            have := ho.symm.trans ho'
            exact Option.some.inj this
          exact getD_set_true (hall e he hb)
        · have hk' : listed.getD k false = true := by rw [← hD' k e1]; exact hk
          exact getD_set_true (hcl k o' ho' hk' e he hb)
      have hdstD : dstOf l i = o.dst := by simp [dstOf, hci, compOp]
      have henv' : ∀ t, envX (dstOf l) ef (fun k => (listed.setIfInBounds i true).getD k false) (fnd (E 0)) ops.size t = if o.dst = some t then effV (ef i) else fnd ec t := by
        intro t
        rw [envX_add (D := fun k => listed.getD k false) hlt hD' hDi hD (fun hd => s3 t (by rw [hdstD] at hd; exact hd)), hdstD, henv t]
      have hheap' : ∀ id, heapX ef (fun k => (listed.setIfInBounds i true).getD k false) (look (Hp 0)) ops.size id = match fnd (effU (ef i)) id with | some o => o | none => look hc id := by
        intro id
        rw [heapX_add (D := fun k => listed.getD k false) hlt hD' hDi hD (fun ht => s4 id ht), hheap id]
        cases fnd (effU (ef i)) id <;> rfl
      have hwe : wants ec (compOp P sig nt ops o).guard = wants (E i) (compOp P sig nt ops o).guard := by
        refine wants_congr fun t ht => ?_
        rw [henv t]
        exact s1 t (List.mem_append_right _ ht)
      have hae : (compOp P sig nt ops o).args.map (opv ec) = (compOp P sig nt ops o).args.map (opv (E i)) := by
        refine opv_congr fun t ht => ?_
        rw [henv t]
        exact s1 t (List.mem_append_left _ ht)
      simp only [wpOp, ho]
      generalize hfe : ef i = f at hstep henv' hheap' s2
      cases f with
      | none =>
        obtain ⟨hw, _, _⟩ := hstep
        rw [← hwe] at hw
        have hwant := wants_sound hE (by rw [hts]; exact hnt) hw
        rw [if_neg (by simp [hwant])]
        refine ih _ S Kn φ _ w (drop ec o.dst) hc (by simp [hsz]) hcnt' hcl' ?_ ?_ hI (Env.drop_ok hE) (by rw [put_size]; exact hts) (by rw [put_defers]; exact hdf) ?_ hgh hstp
        · intro t; rw [henv' t, fnd_drop]; rfl
        · intro id; rw [hheap' id]; rfl
        · intro j hj
          rcases hKn j hj with h | ⟨k, hk, h1, h2⟩
          · exact .inl h
          · exact .inr ⟨k, hk, getD_set_true h1, h2⟩
      | some p =>
        obtain ⟨v, u, ids, n⟩ := p
        obtain ⟨hw, hev, hn, _, _⟩ := hstep
        rw [← hwe] at hw
        obtain ⟨G, g1, g2⟩ := s2
        have hev3 := g2 v u ids n rfl
        rw [← hae] at hev3
        have hev2 := ev1_local (H' := hc) hev3 (fun id hid => by rw [hheap id]; exact g1 id hid)
        have hwant := wants_sound hE (by rw [hts]; exact hnt) hw
        rw [if_pos hwant]
        left
        have hdst : ∀ x, o.dst = some x → x < a.tmps.size := by
          intro x hx
          rw [hts]
          rcases Nat.lt_or_ge x nt with h1 | h1
          · exact h1
          · exfalso
            have : (compOp P sig nt ops o).k = .bad := by
              simp only [compOp, hx]
              rw [if_neg (by simp; omega)]
            rw [this, bad_none] at hev2
            simp at hev2
        have hk : compK P sig o.op = ((compOp P sig nt ops o).k, (compOp P sig nt ops o).args) := by
          have : (compOp P sig nt ops o).k = (compK P sig o.op).1 := by
            simp only [compOp]
            rw [if_pos]
            cases hd : o.dst with
            | none => rfl
            | some d => have := hdst d hd; rw [hts] at this; simpa using this
          rw [this]; rfl
        have hfr : ∀ j, base + room * i ≤ j → j < n → ¬ Kn j := by
          intro j h1 h2 hk
          rcases hKn j hk with h | ⟨k, hkn, h3, h4, h5⟩
          · omega
          · have hne : k ≠ i := by rintro rfl; rw [h3] at hD; simp at hD
            rcases Nat.lt_or_ge k i with h6 | h6
            · have : room * (k + 1) ≤ room * i := Nat.mul_le_mul_left _ (by omega)
              omega
            · have : room * (i + 1) ≤ room * k := Nat.mul_le_mul_left _ (by omega)
              omega
        have hgo := op_sound (hok i) hk hI hE hfr hev2
        refine hgo _ _ fun val w' hDn => ?_
        obtain ⟨hle, S', φ', h1, h2, h3, h4⟩ := hDn
        refine ih _ S' (KnU Kn (base + room * i) n) φ' _ w' (put ec o.dst v) (u ++ hc) (by simp [hsz]) hcnt' hcl' ?_ ?_ ?_ (Env.put_ok hE h1 h2 hdst h3) (by rw [put_size]; exact hts) (by rw [put_defers]; exact hdf) ?_ ?_ (hstp.trans h1)
        · intro t; rw [henv' t, fnd_put]; rfl
        · intro id; rw [hheap' id, look_append]; rfl
        · rw [look_append]; exact h4
        · intro j hj
          rcases hj with hj | hj
          · rcases hKn j hj with h | ⟨k, hk, h1, h2⟩
            · exact .inl h
            · exact .inr ⟨k, hk, getD_set_true h1, h2⟩
          · exact .inr ⟨i, hlt, hDi, hj.1, by omega⟩
        · intro i c v hc hv
          exact (hgh i c v hc hv).mono h1 h2

/-- a region in any order -/
theorem drawn_sound (hok : ∀ i, CallOk P (calls i)) (hnt : nt < 1000000000) {Q : Exit → Act → World → Prop} {e' : Env} {h' : Heap} {tr : List (List Nat × List Nat)} (hl : l = ops.toList.map (compOp P sig nt ops))
    (hord : ordOk m ops.toList 0 = true) (hsch : sched m l 0 = true) (hev : evDrawn calls s.next l 0 s.env s.heap = some (e', h', tr)) (hdyn : dynOk tr (dynAll m l 0) = true) (hsmall : l.length ≤ 1000)
    (hR : Rel S K w0 Kn φ gv nt s a w)
    (hQ : ∀ S' Kn' φ' a' w', Stp S w S' w' → Rel S' K w0 Kn' φ' gv nt ⟨e', h', s.next + room * l.length, s.gh⟩ a' w' → Q .normal a' w') :
    wpAny P .any ops Q ops.size (Array.replicate ops.size false) a { w with drawn := w.drawn + 1 } := by
  obtain ⟨E, Hp, ef, hp, h1, h2, h3, h4⟩ := plan_of hl hord hsch hev hdyn hsmall
  have hd : ∀ k, (Array.replicate ops.size false).getD k false = false := by
    intro k
    simp only [Array.getD_eq_getD_getElem?, Array.getElem?_replicate]
    split <;> rfl
  have hst : Stp S w S { w with drawn := w.drawn + 1 } := Stp.drew S w _
  refine drawn_go (gv := gv) (K := K) (w0 := w0) hok hnt hp (S0 := S) (ws := w) (gh := s.gh) ?_ ops.size _ S Kn φ a _ s.env s.heap (by simp) ?_ ?_ ?_ ?_ (hR.inv.drew _) ?_ hR.size hR.defers ?_ ?_ hst
  · rw [h3, h4]; exact hQ
  · simp only [hd, cnt_all]; exact Nat.le_refl _
  · intro k o _ hk
    simp only [hd] at hk
    simp at hk
  · intro t
    simp only [hd]
    rw [h1]
    have : ∀ k, envX (dstOf l) ef (fun _ => false) (fnd s.env) k t = fnd s.env t := by
      intro k
      induction k with
      | zero => rfl
      | succ k ih => simp [envX, ih]
    exact (this _).symm
  · intro id
    simp only [hd]
    rw [h2]
    have : ∀ k, heapX ef (fun _ => false) (look s.heap) k id = look s.heap id := by
      intro k
      induction k with
      | zero => rfl
      | succ k ih => simp [heapX, ih]
    exact (this _).symm
  · intro t x hx
    exact (hR.env t x hx).mono hst (Ren.refl _ _)
  · intro j hj
    rcases Nat.lt_or_ge j s.next with h | h
    · exact .inl h
    · exact absurd hj (hR.fresh j h)
  · intro i c v hc hv
    exact (hR.gh i c v hc hv).mono hst (Ren.refl _ _)

end
end Go.Ev
