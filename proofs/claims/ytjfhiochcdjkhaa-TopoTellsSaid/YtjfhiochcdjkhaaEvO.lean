/- Calls, third part: a call operation against the abstract machine's. Conditions: the relation of XEvC; the oracle's answers are good. -/
import Derived.Test.YtjfhiochcdjkhaaEvN
namespace Go.Ev

section
variable {P : Program} {S K : Nat → Prop} {w0 w : World} {Kn : Nat → Prop} {φ : Nat → Loc} {hf : Nat → Option Ob} {H : Heap} {e : Env} {ρ : Operand → Value} {o : Oper} {call : Call} {a : Act}
  {nxt n' : Nat} {v : TV} {u : Upd} {ids : List Nat}

/-- the operation goes on with what the abstract machine says -/
def Goes (P : Program) (o : Oper) (a : Act) (S K : Nat → Prop) (w0 w : World) (Kn : Nat → Prop) (φ : Nat → Loc) (hf : Nat → Option Ob) (nxt n' : Nat) (v : TV) (u : Upd) : Prop :=
  ∀ (next : Act → World → Prop) (Q : Exit → Act → World → Prop), (∀ val w', Done S K w0 w Kn φ hf nxt n' v u val w' → next (a.put o.dst val) w') → o.wp P a w next Q

theorem Runs.goes (h : Runs P o a.eval S K w0 w Kn φ hf nxt n' v u) : Goes P o a S K w0 w Kn φ hf nxt n' v u := by
  intro next Q hn
  obtain ⟨nx, val, w', hr, hx, hd⟩ := h
  unfold Oper.wp
  rw [hr]
  rcases hx with rfl | ⟨rfl, rfl⟩
  · exact hn _ _ hd
  · exact hn _ _ hd

theorem retV_sound {tvs : List TV} {vs : List Value} (hl : tvs.length = vs.length) (h : ∀ (i : Nat) (t : TV) (v : Value), tvs[i]? = some t → vs[i]? = some v → RTV S w Kn φ t v) : RTV S w Kn φ (retV tvs) (retVal vs) := by
  have gen : RTV S w Kn φ (.tup tvs) (.tuple vs.toArray) := by
    refine .tup (by simpa using hl) fun i x hi => ?_
    have hlt : i < vs.length := by rw [← hl]; exact (List.getElem?_eq_some_iff.1 hi).1
    have := h i x vs[i] hi (List.getElem?_eq_getElem hlt)
    simpa [hlt] using this
  match tvs, vs, hl, h, gen with
  | [], [], _, _, gen => exact gen
  | [t], [v], _, h, _ => exact h 0 t v rfl rfl
  | _ :: _ :: _, _ :: _ :: _, _, _, gen => exact gen

theorem RD.lit_any {S' : Nat → Prop} {w' : World} {v x : Value} (h : RD S w (.lit v) x) : RD S' w' (.lit v) x := by
  cases h with
  | lit h => exact .lit h

theorem RRs.lits {S' : Nat → Prop} : ∀ {rs : List R} {vs : List Value} {fp : List Nat}, rs.all litR = true → RRs S w rs vs fp → RRs S' w rs vs [] := by
  intro rs
  induction rs with
  | nil =>
    intro vs fp _ h
    cases vs with
    | nil => rfl
    | cons v vs => exact h.elim
  | cons r rs ih =>
    intro vs fp hl h
    cases vs with
    | nil => exact h.elim
    | cons v vs =>
      simp only [List.all_cons, Bool.and_eq_true] at hl
      obtain ⟨f1, f2, _, h1, h2⟩ := h
      refine ⟨[], [], rfl, ?_, ih hl.2 h2⟩
      have hl1 := hl.1
      cases r with
      | c t =>
        cases t with
        | d x =>
          cases x with
          | lit y =>
            have h1 : RT S w (.d (.lit y)) v f1 := h1
            cases h1 with
            | d hd => exact RT.d hd.lit_any
          | _ => simp [litR] at hl1
        | _ => simp [litR] at hl1
      | agg ts =>
        obtain ⟨arr, fps, rfl, q1, q2, q3, q4⟩ := h1
        refine ⟨arr, fps.map fun _ => [], rfl, q1, by simpa using q2, by simp, fun i t f hi hfi => ?_⟩
        simp only [litR, List.all_eq_true] at hl1
        have ht := hl1 t (List.mem_of_getElem? hi)
        obtain rfl : f = [] := by
          rw [List.getElem?_map] at hfi
          obtain ⟨_, _, rfl⟩ := Option.map_eq_some_iff.1 hfi
          rfl
        have hlt : i < fps.length := by rw [q2]; exact (List.getElem?_eq_some_iff.1 hi).1
        have := q4 i t fps[i] hi (List.getElem?_eq_getElem hlt)
        generalize fps[i] = g at this
        cases t with
        | d x =>
          cases x with
          | lit y =>
            cases this with
            | d hd => exact RT.d hd.lit_any
          | _ => simp at ht
        | _ => simp at ht

theorem unT_lit {t : T} {nxt : Nat} (h : (match t with | .d (.lit _) => true | _ => false) = true) : (unC nxt t).2.1 = [] ∧ (unC nxt t).2.2 = nxt := by
  cases t with
  | d x => exact ⟨rfl, rfl⟩
  | _ => simp at h

/-- after the call: the caller's own things are as they were -/
theorem Inv.after {S' : Nat → Prop} {w' : World} {fp : List Nat} (hI : Inv S K w0 Kn φ hf w) (hs : Stp S w S' w') (hsub : ∀ b, S' b → S b ∨ b ∈ fp ∨ w.heap.size ≤ b) (hlt : ∀ b, S' b → b < w'.heap.size)
    (hfp : ∀ b ∈ fp, ¬ K b) (haw : Away φ hf fp) (hfrm : Frm (fun b => b < w.heap.size ∧ b ∉ fp) w w') : Inv S' K w0 Kn φ hf w' := by
  refine hI.step hs (Ren.refl _ _) hlt (fun b hb hK => ?_) ⟨hI.frm.klt, fun b hb => ?_, Nat.le_trans hI.frm.grow hfrm.grow, fun a => (hfrm.frz a).trans (hI.frm.frz a), fun b arr ho => ?_, hfrm.io.1.trans hI.frm.io.1, hfrm.io.2.trans hI.frm.io.2⟩ (fun id o ho => .inl ⟨ho, fun hown => ?_⟩) hI.dist
  · have h1 : b < w.heap.size := Nat.lt_of_lt_of_le (hI.frm.klt b hK) hI.frm.grow
    rcases hsub b hb with h | h | h
    · exact hI.sk b h hK
    · exact hfp b h hK
    · omega
  · have h1 : b < w.heap.size := Nat.lt_of_lt_of_le (hI.frm.klt b hb) hI.frm.grow
    exact (hfrm.keep b ⟨h1, fun h => hfp b h hb⟩).trans (hI.frm.keep b hb)
  · obtain ⟨a1, h1, h2⟩ := hI.frm.own b arr ho
    obtain ⟨a2, h3, h4⟩ := hfrm.own b a1 h1
    exact ⟨a2, h3, h4.trans h2⟩
  · obtain ⟨h1, h2, h3⟩ := (hI.obj id o ho).2.own hown
    have h4 := haw id o ho hown
    refine ⟨hfrm.keep _ ⟨h3, h4⟩, fun h => ?_⟩
    rcases hsub _ h with h | h | h
    · exact h1 h
    · exact h4 h
    · omega

/-- the answer of a call, laid into the caller's state -/
theorem call_done {as : List A} {ids : List Nat} {lent : List (C × List Nat × List Nat)} {vs : List Value} {rs : List R} {outs : List T} {ro : Bool} {val : Value} {w' : World} {rd : List Nat}
    (hI : Inv S K w0 Kn φ (look H) w) (hfr : ∀ j, nxt ≤ j → j < n' → ¬ Kn j)
    (hargs : RAs (SB S φ ids) w as vs ((lent.flatMap (·.2.1)).map fun i => (φ i).blk)) (hown : ∀ i ∈ lent.flatMap (·.2.1), ∃ o, look H i = some o ∧ isOwn o = true) (hlent : Lent Kn φ S w lent (lentV as vs))
    (hwhole : wholeLent H lent = true) (hnd : (lent.flatMap (·.2.1)).Nodup)
    (hleft : Left (SB S φ ids) w ((lent.flatMap (·.2.1)).map fun i => (φ i).blk) rs outs (lentV as vs) val w')
    (h : (if ro then
            if rs.all litR ∧ lent.isEmpty ∧ outs.isEmpty then some (retV (unRs nxt rs).1, (unRs nxt rs).2.1, ids, (unRs nxt rs).2.2) else none
          else
            match freezeIds H ids ids with
            | none => none
            | some fu =>
              match evBack nxt lent outs with
              | none => none
              | some (bu, m) => some (retV (unRs m rs).1, (unRs m rs).2.1 ++ bu ++ fu, ids ++ lent.flatMap (·.2.2), (unRs m rs).2.2)) = some (v, u, rd, n')) :
    Done S K w0 w Kn φ (look H) nxt n' v u val w' := by
  obtain ⟨S', rvs, fp1, fp2, rfl, hs, hsub, hlt, hrr, hrt, hnd2, hb, hfrm⟩ := hleft
  split at h
  · -- nothing is kept
    split at h
    · rename_i hcond
      obtain ⟨hl, hle, hoe⟩ := hcond
      have hle' : lent = [] := by simpa using hle
      subst hle'
      obtain ⟨rfl, rfl, _, rfl⟩ : retV (unRs nxt rs).1 = v ∧ (unRs nxt rs).2.1 = u ∧ ids = rd ∧ (unRs nxt rs).2.2 = n' := by simpa using h
      have hI' : Inv S K w0 Kn φ (look H) w' := hI.after (fp := []) ⟨fun _ h => h, fun b hb => hs.same b (.inl hb)⟩ (fun b hb => .inl hb) (fun b hb => Nat.lt_of_lt_of_le (hI.slt b hb) hfrm.grow) (fun b hb => by simp at hb)
        (fun j o _ _ h => by simp at h) hfrm
      obtain ⟨φ', hL, hlen, hr⟩ := unRs_sound rs nxt rvs [] hI' hfr (hrr.lits hl) List.nodup_nil (fun b hb => by simp at hb) (fun j o _ _ h => by simp at h)
      exact ⟨hL.le, S, φ', ⟨fun _ h => h, fun b hb => hs.same b (.inl hb)⟩, hL.ren, retV_sound hlen hr, hL.inv⟩
    · simp at h
  · split at h
    · simp at h
    · rename_i fu hfz
      split at h
      · simp at h
      · rename_i bu m hbk
        obtain ⟨rfl, rfl, _, rfl⟩ : retV (unRs m rs).1 = v ∧ (unRs m rs).2.1 ++ bu ++ fu = u ∧ ids ++ lent.flatMap (·.2.2) = rd ∧ (unRs m rs).2.2 = n' := by simpa using h
        have hI1 := hI.freeze hfz
        have hmn := unRs_le rs m
        have hnm := evBack_le _ _ _ _ _ hbk
        -- what was lent is out of the heap
        let kills : Upd := (ownsOf lent).map fun i => (i, none)
        have hkn : ∀ j, fnd kills j = if j ∈ ownsOf lent then some none else none := fnd_nones (ownsOf lent)
        have hf2 : ∀ id o, updF kills (updF fu (look H)) id = some o → id ∉ ownsOf lent ∧ updF fu (look H) id = some o := by
          intro id o ho
          have : updF kills (updF fu (look H)) id = (match fnd kills id with | some o => o | none => updF fu (look H) id) := rfl
          rw [this, hkn] at ho
          by_cases hm : id ∈ ownsOf lent
          · rw [if_pos hm] at ho; simp at ho
          · rw [if_neg hm] at ho; exact ⟨hm, ho⟩
        have hIk : Inv (SB S φ ids) K w0 Kn φ (updF kills (updF fu (look H))) w := hI1.kill fun id o ho => (hf2 id o ho).2
        -- the frozen part agrees with the heap before, where a thing is owned
        have hold : ∀ id o, updF fu (look H) id = some o → isOwn o = true → look H id = some o := by
          intro id o ho hown
          by_cases hm : id ∈ ids
          · obtain ⟨o', ho', hfn⟩ := (fnd_freeze ids fu hfz id).1 hm
            simp only [updF, hfn] at ho
            obtain rfl := Option.some.inj ho
            have := (freeze_ob hI hm ho').1
            rw [this] at hown; simp at hown
          · simpa only [updF, (fnd_freeze ids fu hfz id).2 hm] using ho
        have haw : Away φ (updF kills (updF fu (look H))) ((lent.flatMap (·.2.1)).map fun i => (φ i).blk) := by
          intro j o hj hjo hm
          obtain ⟨h1, h2⟩ := hf2 j o hj
          obtain ⟨i, hi, hie⟩ := List.mem_map.1 hm
          obtain ⟨oi, hoi, hoio⟩ := hown i hi
          exact hI.dist i j oi o hoi (hold j o h2 hjo) hoio hjo (fun e => h1 (e ▸ hi)) hie
        have hfpK : ∀ b ∈ ((lent.flatMap (·.2.1)).map fun i => (φ i).blk), ¬ K b ∧ b < w.heap.size := by
          intro b hbm
          obtain ⟨i, hi, rfl⟩ := List.mem_map.1 hbm
          obtain ⟨oi, hoi, hoio⟩ := hown i hi
          obtain ⟨_, h2, h3⟩ := (hI.obj i oi hoi).2.own hoio
          exact ⟨h2, h3⟩
        have hI2 : Inv S' K w0 Kn φ (updF kills (updF fu (look H))) w' := hIk.after hs hsub hlt (fun b hb => (hfpK b hb).1) haw hfrm
        have hK12 : ∀ b ∈ fp1 ++ fp2, ¬ S' b ∧ ¬ K b := fun b hbm => by
          obtain ⟨h1, h2⟩ := hb b hbm
          refine ⟨h1, fun hk => ?_⟩
          rcases h2 with h2 | h2
          · exact (hfpK b h2).1 hk
          · have := hI.frm.klt b hk; have := hI.frm.grow; omega
        have haw12 : Away φ (updF kills (updF fu (look H))) (fp1 ++ fp2) := fun j o hj hjo hm => by
          rcases (hb _ hm).2 with h2 | h2
          · exact haw j o hj hjo h2
          · have := ((hIk.obj j o hj).2.own hjo).2.2; omega
        rw [List.nodup_append] at hnd2
        obtain ⟨hn1, hn2, hn3⟩ := hnd2
        simp only [List.mem_append] at hK12
        obtain ⟨φ1, hB⟩ := back_sound hI hfrm.own lent (lentV as vs) outs fp2 nxt bu m hlent hwhole hrt hI2 (fun j h1 h2 => hfr j h1 (by omega)) (Ren.refl _ _) hn2 (fun b hb => hK12 b (.inr hb))
          (fun j o hj hjo hm => haw12 j o hj hjo (by simp [hm]))
          (fun i hi => by
            obtain ⟨oi, hoi, _⟩ := hown i hi
            refine ⟨?_, (hI.obj i oi hoi).1⟩
            show (match fnd kills i with | some o => o | none => updF fu (look H) i) = none
            rw [hkn, if_pos hi]) hnd hbk
        have hkk : updF bu (updF kills (updF fu (look H))) = updF bu (updF fu (look H)) := by
          funext j
          by_cases hm : j ∈ ownsOf lent
          · obtain ⟨x, hx⟩ := Option.isSome_iff_exists.1 (hB.has j hm)
            simp only [updF, hx]
          · have h1 : updF kills (updF fu (look H)) j = updF fu (look H) j := by
              show (match fnd kills j with | some o => o | none => updF fu (look H) j) = _
              rw [hkn, if_neg hm]
            have h2 : ∀ g : Nat → Option Ob, updF bu g j = (match fnd bu j with | some o => o | none => g j) := fun _ => rfl
            rw [h2, h2, h1]
        have hIB := hB.inv
        rw [hkk] at hIB
        have haw1 : Away φ1 (updF bu (updF fu (look H))) fp1 := by
          intro j o hj hjo hm
          by_cases hk : j ∈ ownsOf lent ∨ (nxt ≤ j ∧ j < m)
          · have := hB.blk j o (by rw [hkk]; exact hj) hjo hk
            exact hn3 _ hm _ this rfl
          · have hfn : fnd bu j = none := fnd_none fun p hp e => by
              rcases hB.keys p hp with h | h
              · exact hk (.inl (e ▸ h))
              · exact hk (.inr (e ▸ h))
            have hj2 : updF kills (updF fu (look H)) j = some o := by
              rw [← hkk] at hj
              simpa only [updF, hfn] using hj
            have hknj := (hI2.obj j o hj2).1
            rw [hB.ren.same j hknj] at hm
            exact haw12 j o hj2 hjo (by simp [hm])
        obtain ⟨φ2, hL, hlen, hr⟩ := unRs_sound rs m rvs fp1 hIB (fun j h1 h2 hk => by
            rcases hk with hk | hk
            · exact hfr j (by omega) h2 hk
            · omega) hrr hn1 (fun b hb => hK12 b (.inl hb)) haw1
        refine ⟨by omega, S', φ2, (SB.stp0 w ids).trans hs, ⟨fun i h => .inl h, fun i h => (hL.ren.same i (.inl h)).trans (hB.ren.same i h)⟩, ?_, ?_⟩
        · exact (retV_sound hlen hr).kn fun i => (knu_knu hnm hmn i).1
        · rw [updF_append, updF_append]
          exact hL.inv.knEq fun i => knu_knu hnm hmn i

theorem view_live : ∀ n, (∀ c x ids, viewC H n c = some (x, ids) → ∀ i ∈ ids, ∃ o, look H i = some o) ∧ (∀ cs xs ids, viewL H n cs = some (xs, ids) → ∀ i ∈ ids, ∃ o, look H i = some o) := by
  have leaf : ∀ n c x ids, (match c with | .op _ _ | .ofn _ _ => False | _ => True) → viewC H n c = some (x, ids) → ∀ i ∈ ids, ∃ o, look H i = some o := by
    intro n c x ids hl h i hi
    cases c with
    | d y =>
      simp only [viewC, Option.some.injEq, Prod.mk.injEq] at h
      obtain ⟨_, rfl⟩ := h
      simp at hi
    | osl sz id off len =>
      simp only [viewC] at h
      split at h
      all_goals first
        | (split at h
           · obtain ⟨_, rfl⟩ := Prod.mk.inj (Option.some.inj h)
             obtain rfl := List.mem_singleton.1 hi
             exact ⟨_, by assumption⟩
           · simp at h)
        | simp at h
    | ep id row off =>
      simp only [viewC] at h
      split at h
      all_goals first
        | (split at h
           · split at h
             · obtain ⟨_, rfl⟩ := Prod.mk.inj (Option.some.inj h)
               obtain rfl := List.mem_singleton.1 hi
               exact ⟨_, by assumption⟩
             · simp at h
           · simp at h)
        | simp at h
    | op id off => exact hl.elim
    | ofn f caps => exact hl.elim
    | om id => cases n <;> simp [viewC] at h
  intro n
  induction n with
  | zero =>
    refine ⟨fun c x ids h => ?_, fun cs xs ids h => ?_⟩
    · cases c with
      | op id off => simp [viewC] at h
      | ofn f caps => simp [viewC] at h
      | _ => exact leaf 0 _ x ids trivial h
    · cases cs with
      | nil =>
        obtain ⟨_, rfl⟩ : [] = xs ∧ [] = ids := by simpa [viewL] using h
        intro i hi; simp at hi
      | cons c cs => simp [viewL] at h
  | succ n ih =>
    refine ⟨fun c x ids h => ?_, fun cs xs ids h => ?_⟩
    · cases c with
      | op id off =>
        simp only [viewC] at h
        split at h
        · split at h
          · obtain ⟨_, rfl⟩ := Prod.mk.inj (Option.some.inj h)
            intro i hi
            obtain rfl := List.mem_singleton.1 hi
            exact ⟨_, by assumption⟩
          · simp at h
        · split at h
          · rename_i hv
            split at h
            · obtain ⟨_, rfl⟩ := Prod.mk.inj (Option.some.inj h)
              intro i hi
              rcases List.mem_cons.1 hi with rfl | hi
              · exact ⟨_, by assumption⟩
              · exact ih.2 _ _ _ hv i hi
            · simp at h
          · simp at h
        · simp at h
      | ofn f caps =>
        simp only [viewC] at h
        split at h
        · rename_i hv
          obtain ⟨_, rfl⟩ := Prod.mk.inj (Option.some.inj h)
          exact ih.2 _ _ _ hv
        · simp at h
      | _ => exact leaf _ _ x ids trivial h
    · cases cs with
      | nil =>
        obtain ⟨_, rfl⟩ : [] = xs ∧ [] = ids := by simpa [viewL] using h
        intro i hi; simp at hi
      | cons c cs =>
        simp only [viewL] at h
        split at h
        · rename_i h1 h2
          obtain ⟨_, rfl⟩ := Prod.mk.inj (Option.some.inj h)
          intro i hi
          rcases List.mem_append.1 hi with hi | hi
          · exact ih.1 _ _ _ h1 i hi
          · exact ih.2 _ _ _ h2 i hi
        · simp at h

theorem viewCs_live : ∀ cs xs ids, viewCs H cs = some (xs, ids) → ∀ i ∈ ids, ∃ o, look H i = some o := by
  intro cs
  induction cs with
  | nil =>
    intro xs ids h i hi
    obtain ⟨_, rfl⟩ : [] = xs ∧ [] = ids := by simpa [viewCs] using h
    simp at hi
  | cons c cs ih =>
    intro xs ids h i hi
    simp only [viewCs] at h
    split at h
    · rename_i h1 h2
      obtain ⟨_, rfl⟩ := Prod.mk.inj (Option.some.inj h)
      rcases List.mem_append.1 hi with hi | hi
      · exact (view_live 60).1 _ _ _ h1 i hi
      · exact ih _ _ h2 i hi
    · simp at h

theorem args_live : ∀ (tvs : List TV) (ms : List Bool) (as : List A) (ids : List Nat) (lent : List (C × List Nat × List Nat)), evArgs H tvs ms = some (as, ids, lent) → ∀ i ∈ ids, ∃ o, look H i = some o := by
  intro tvs
  induction tvs with
  | nil =>
    intro ms as ids lent h i hi
    obtain ⟨_, rfl, _⟩ : [] = as ∧ [] = ids ∧ [] = lent := by simpa [evArgs] using h
    simp at hi
  | cons t tvs ih =>
    intro ms as ids lent h i hi
    simp only [evArgs] at h
    split at h
    · simp at h
    · rename_i hrec
      split at h
      · split at h
        · split at h
          · obtain ⟨_, rfl, _⟩ := (by simpa using h : _ ∧ _ ∧ _)
            exact ih _ _ _ _ hrec i hi
          · simp at h
        · simp at h
      · split at h
        · split at h
          · rename_i hv
            obtain ⟨_, rfl, _⟩ := (by simpa using h : _ ∧ _ ∧ _)
            rcases List.mem_append.1 hi with hi | hi
            · exact (view_live 60).1 _ _ _ hv i hi
            · exact ih _ _ _ _ hrec i hi
          · simp at h
        · split at h
          · rename_i hv
            obtain ⟨_, rfl, _⟩ := (by simpa using h : _ ∧ _ ∧ _)
            rcases List.mem_append.1 hi with hi | hi
            · exact viewCs_live _ _ _ hv i hi
            · exact ih _ _ _ _ hrec i hi
          · simp at h
        · simp at h

theorem RO.blk_lt {l : Loc} {o : Ob} (h : RO S K w Kn φ l o) (hs : ∀ b, S b → b < w.heap.size) : l.blk < w.heap.size := by
  cases h with
  | arr hsz hl hS hK hown => exact hown.lt
  | box hb hS hK hown => exact hown.lt
  | map hS hK hmp => exact (Array.getElem?_eq_some_iff.1 hmp).1
  | imm hsz hl hS => exact hs _ hS
  | ibox hb hS => exact hs _ hS

theorem RO.froz {l : Loc} {o : Ob} (h : RO S K w Kn φ l o) (hs : isOwn o = false) : S l.blk := by
  cases h with
  | imm hsz hl hS => exact hS
  | ibox hb hS => exact hS
  | _ => simp [isOwn] at hs

theorem op_call {c : Go.Call} {fop : Operand} {ro : Bool} {muts : List Bool} (ho : o.op = .call c) (hcal : c.callee = .value fop) (hok : CallOk P call) (hI : Inv S K w0 Kn φ (look H) w)
    (hfr : ∀ j, nxt ≤ j → j < n' → ¬ Kn j) (hρ : ∀ x tv, opv e x = some tv → RTV S w Kn φ tv (a.eval x))
    (h : ev1 call (.call ro muts) ((fop :: c.args.toList).map (opv e)) H nxt = some (v, u, ids, n')) : Goes P o a S K w0 w Kn φ (look H) nxt n' v u := by
  rw [List.map_cons] at h
  change evCall call ro muts (opv e fop) (c.args.toList.map (opv e)) H nxt = _ at h
  unfold evCall at h
  split at h
  · rename_i f caps vs hf hvs
    split at h
    · simp at h
    · rename_i as ids1 lent hargs
      split at h
      · rename_i hcond
        obtain ⟨hwhole, hnd, hapart⟩ := hcond
        split at h
        · simp at h
        · rename_i rs outs hcall
          -- the callee
          have hfv : ∃ cvs : Array Value, a.eval fop = .func (.func f) #[] cvs ∧ caps.length = cvs.size ∧ ∀ (i : Nat) (x : C), caps[i]? = some x → RC S w Kn φ x (cvs.getD i undef) := by
            split at hf
            · rename_i g capsD hop
              obtain ⟨rfl, rfl⟩ : g = f ∧ capsD.map C.d = caps := by simpa using hf
              have hr := hρ _ _ hop
              generalize a.eval fop = fv at hr ⊢
              cases hr with
              | c hr => cases hr with
                | d hd => cases hd with
                  | @fn _ _ cvs hlen hrd =>
                    refine ⟨cvs, rfl, by simpa using hlen, fun i x hi => ?_⟩
                    rw [List.getElem?_map] at hi
                    obtain ⟨y, hy, rfl⟩ := Option.map_eq_some_iff.1 hi
                    exact .d (hrd i y hy)
            · rename_i g caps' hop
              obtain ⟨rfl, rfl⟩ : g = f ∧ caps' = caps := by simpa using hf
              have hr := hρ _ _ hop
              generalize a.eval fop = fv at hr ⊢
              cases hr with
              | c hr => cases hr with
                | @ofn _ _ cvs hlen hrc => exact ⟨cvs, rfl, hlen, hrc⟩
            · simp at hf
          obtain ⟨cvs, hfe, hcl, hcr⟩ := hfv
          obtain ⟨hal, har⟩ := args_get hρ hvs
          let rvs : List Value := c.args.toList.map a.eval ++ cvs.toList
          obtain ⟨p1, p2, p3⟩ := args_sound hI (vs ++ caps.map TV.c) muts as ids1 lent rvs hargs (by simp [rvs, hal, hcl]) (fun i t val hi hv => by
            by_cases hlt : i < vs.length
            · rw [List.getElem?_append_left hlt] at hi
              simp only [rvs] at hv
              rw [List.getElem?_append_left (by simp only [List.length_map]; omega), List.getElem?_map] at hv
              obtain ⟨x, hx, rfl⟩ := Option.map_eq_some_iff.1 hv
              exact har i x t hx hi
            · rw [List.getElem?_append_right (by omega), List.getElem?_map] at hi
              obtain ⟨x, hx, rfl⟩ := Option.map_eq_some_iff.1 hi
              simp only [rvs] at hv
              rw [List.getElem?_append_right (by simp only [List.length_map]; omega)] at hv
              simp only [List.length_map, ← hal] at hv
              have := hcr _ x hx
              rw [Array.getElem?_toList] at hv
              have e1 : cvs.getD (i - vs.length) undef = val := by simp [hv]
              rw [e1] at this
              exact .c this)
          have hSlt : ∀ b, SB S φ ids1 b → b < w.heap.size := by
            rintro b (hb | ⟨i, hi, rfl⟩)
            · exact hI.slt b hb
            · obtain ⟨oi, hoi⟩ := args_live _ _ _ _ _ hargs i hi
              exact (hI.obj i oi hoi).2.blk_lt hI.slt
          have hnS : ∀ b ∈ ((lent.flatMap (·.2.1)).map fun i => (φ i).blk), ¬ SB S φ ids1 b := by
            intro b hb hS
            obtain ⟨i, hi, rfl⟩ := List.mem_map.1 hb
            obtain ⟨oi, hoi, hoio⟩ := p2 i hi
            rcases hS with hS | ⟨j, hj, hje⟩
            · exact ((hI.obj i oi hoi).2.own hoio).1 hS
            · obtain ⟨oj, hoj⟩ := args_live _ _ _ _ _ hargs j hj
              cases hjo : isOwn oj with
              | true =>
                refine hI.dist j i oj oi hoj hoi hjo hoio (fun e => ?_) hje
                have := List.all_eq_true.1 hapart i hi
                rw [← e] at this
                simp [hj] at this
              | false => exact ((hI.obj i oi hoi).2.own hoio).1 (hje ▸ (hI.obj j oj hoj).2.froz hjo)
          have hgood := hok f as rs outs hcall (SB S φ ids1) w rvs _ hSlt p1 (blk_nodup hI hnd p2) hnS (hI.glob.mono (SB.stp0 w _))
          intro next Q hn
          have hfin : ∀ val w', Left (SB S φ ids1) w ((lent.flatMap (·.2.1)).map fun i => (φ i).blk) rs outs (lentV as rvs) val w' → next (a.put o.dst val) w' := by
            intro val w' hleft
            refine hn val w' (call_done hI hfr p1 p2 p3 hwhole hnd hleft (ro := ro) (v := v) (u := u) (rd := ids) ?_)
            exact h
          have hrun : ∀ r, (callFunc f rvs.toArray).run P w = r → (execOp a.eval o).run P w = r := by
            intro r hr
            have e1 : (#[] ++ c.args.map a.eval) ++ cvs = rvs.toArray := by
              apply Array.ext'
              simp [rvs]
            simp only [execOp, ho, Sem.run_bind, resolve, hcal, hfe, Deferred.ofValue, Sem.run_pure, Result.andThen_ok, invoke, e1]
            exact hr
          rcases hgood with ⟨g, as', hr, hc⟩ | ⟨val, hr, hleft⟩
          · unfold Oper.wp
            rw [hrun _ hr, Oper.upon_enter]
            refine hc.mono fun en w' hR => ?_
            obtain ⟨val, rfl, hleft⟩ := hR
            exact hfin val w' hleft
          · unfold Oper.wp
            rw [hrun _ hr]
            exact hfin val w hleft
      · simp at h
  · simp at h

end
end Go.Ev
