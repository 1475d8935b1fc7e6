/- Calls, second part: what was lent is laid back, what is handed back is laid in. Conditions: the relation of XEvC. -/
import Derived.Test.YtjfhiochcdjkhaaEvM
namespace Go.Ev

section
variable {P : Program} {S K : Nat → Prop} {w0 w : World} {Kn : Nat → Prop} {φ : Nat → Loc} {hf : Nat → Option Ob} {H : Heap} {e : Env} {ρ : Operand → Value} {o : Oper} {call : Call}
  {nxt n' : Nat} {v : TV} {u : Upd} {ids : List Nat}

/-- what is laid lies in these blocks: others stay away from other blocks -/
theorem Laid.away {fa fb : List Nat} {n m : Nat} {φ1 : Nat → Loc} (hI : Inv S K w0 Kn φ hf w) (h : Laid S K w0 w Kn φ hf fa n m u φ1) (ha : Away φ hf fb) (hd : ∀ x ∈ fa, x ∉ fb) : Away φ1 (updF u hf) fb := by
  intro j o hj hown hm
  by_cases hu : ∃ p ∈ u, p.1 = j
  · obtain ⟨p, hp, rfl⟩ := hu
    obtain ⟨h1, h2⟩ := h.fresh p hp
    exact hd _ (h.blk p.1 h1 h2) hm
  · have hfn : fnd u j = none := fnd_none fun p hp e => hu ⟨p, hp, e⟩
    simp only [updF, hfn] at hj
    have hk := (hI.obj j o hj).1
    rw [h.ren.same j hk] at hm
    exact ha j o hj hown hm

theorem unR_sound (r : R) (nxt : Nat) (v : Value) (fp : List Nat) (hI : Inv S K w0 Kn φ hf w) (hfr : ∀ j, nxt ≤ j → j < (unR nxt r).2.2 → ¬ Kn j) (h : RR S w r v fp) (hn : fp.Nodup) (hSK : ∀ b ∈ fp, ¬ S b ∧ ¬ K b) (ha : Away φ hf fp) :
    ∃ φ', Laid S K w0 w Kn φ hf fp nxt (unR nxt r).2.2 (unR nxt r).2.1 φ' ∧ RTV S w (KnU Kn nxt (unR nxt r).2.2) φ' (unR nxt r).1 v := by
  cases r with
  | c t =>
    obtain ⟨φ', h1, h2⟩ := unC_sound t nxt v fp hI hfr h hn hSK ha
    exact ⟨φ', h1, .c h2⟩
  | agg ts =>
    obtain ⟨arr, fps, rfl, h1, h2, rfl, h3⟩ := h
    obtain ⟨φ', h4, h5, h6⟩ := unL_sound ts nxt (fun i => arr.getD i undef) fps hI hfr h2 h3 hn hSK ha
    exact ⟨φ', h4, .agg (h5.trans h1) h6⟩

theorem unR_le (r : R) (nxt : Nat) : nxt ≤ (unR nxt r).2.2 := by
  cases r with
  | c t => exact unC_le t nxt
  | agg ts => exact unL_le ts nxt

theorem unRs_cons (nxt : Nat) (r : R) (rs : List R) : unRs nxt (r :: rs) = ((unR nxt r).1 :: (unRs (unR nxt r).2.2 rs).1, (unR nxt r).2.1 ++ (unRs (unR nxt r).2.2 rs).2.1, (unRs (unR nxt r).2.2 rs).2.2) := rfl

theorem unRs_le : ∀ (rs : List R) (nxt : Nat), nxt ≤ (unRs nxt rs).2.2 := by
  intro rs
  induction rs with
  | nil => intro nxt; exact Nat.le_refl _
  | cons r rs ih => intro nxt; rw [unRs_cons]; exact Nat.le_trans (unR_le r nxt) (ih _)

theorem unRs_sound : ∀ (rs : List R) {Kn : Nat → Prop} {φ : Nat → Loc} {hf : Nat → Option Ob} (nxt : Nat) (vs : List Value) (fp : List Nat), Inv S K w0 Kn φ hf w → (∀ j, nxt ≤ j → j < (unRs nxt rs).2.2 → ¬ Kn j) → RRs S w rs vs fp → fp.Nodup →
    (∀ b ∈ fp, ¬ S b ∧ ¬ K b) → Away φ hf fp →
    ∃ φ', Laid S K w0 w Kn φ hf fp nxt (unRs nxt rs).2.2 (unRs nxt rs).2.1 φ' ∧ (unRs nxt rs).1.length = vs.length ∧
      ∀ (i : Nat) (t : TV) (v : Value), (unRs nxt rs).1[i]? = some t → vs[i]? = some v → RTV S w (KnU Kn nxt (unRs nxt rs).2.2) φ' t v := by
  intro rs
  induction rs with
  | nil =>
    intro Kn φ hf nxt vs fp hI hfr h hn hSK ha
    cases vs with
    | cons v vs => exact h.elim
    | nil =>
      obtain rfl : fp = [] := h
      exact ⟨φ, Laid.nil hI _ _, rfl, fun i t v hi => by simp [unRs] at hi⟩
  | cons r rs ih =>
    intro Kn φ hf nxt vs fp hI hfr h hn hSK ha
    cases vs with
    | nil => exact h.elim
    | cons v vs =>
      obtain ⟨f1, f2, rfl, h1, h2⟩ := h
      rw [List.nodup_append] at hn
      obtain ⟨hn1, hn2, hn3⟩ := hn
      simp only [List.mem_append] at hSK
      obtain ⟨φ1, hL1, hr1⟩ := unR_sound r nxt v f1 hI (fun j hj hj2 => hfr j hj (by rw [unRs_cons]; exact Nat.lt_of_lt_of_le hj2 (unRs_le rs _))) h1 hn1 (fun b hb => hSK b (.inl hb)) (fun j o hj hown hm => ha j o hj hown (by simp [hm]))
      obtain ⟨φ2, hL2, hlen, hr2⟩ := ih (Kn := KnU Kn nxt (unR nxt r).2.2) (φ := φ1) (hf := updF (unR nxt r).2.1 hf) (unR nxt r).2.2 vs f2 hL1.inv (fun j hj hj2 hk => by
        rcases hk with hk | hk
        · have := hL1.le; exact hfr j (by omega) (by rw [unRs_cons]; exact hj2) hk
        · omega) h2 hn2 (fun b hb => hSK b (.inr hb)) (hL1.away hI (fun j o hj hown hm => ha j o hj hown (by simp [hm])) fun x hx hx2 => hn3 x hx x hx2 rfl)
      have hcomp := hL1.comp hL2
      have hcm : updF ((unRs (unR nxt r).2.2 rs).2.1 ++ (unR nxt r).2.1) hf = updF ((unR nxt r).2.1 ++ (unRs (unR nxt r).2.2 rs).2.1) hf :=
        updF_comm fun p hp q hq e => by
          have h1 := hL2.fresh p hp
          have h2 := hL1.fresh q hq
          omega
      have hsub : ∀ i, KnU (KnU Kn nxt (unR nxt r).2.2) (unR nxt r).2.2 (unRs (unR nxt r).2.2 rs).2.2 i → KnU Kn nxt (unRs (unR nxt r).2.2 rs).2.2 i := fun i => (knu_knu hL1.le hL2.le i).1
      refine ⟨φ2, ?_, by simp [unRs_cons, hlen], fun i t v' hi hv => ?_⟩
      · simp only [unRs_cons]
        refine ⟨hcomp.le, hcomp.ren, hcm ▸ hcomp.inv, fun p hp => hcomp.fresh p ?_, hcomp.blk⟩
        rcases List.mem_append.1 hp with h | h
        · exact List.mem_append_right _ h
        · exact List.mem_append_left _ h
      · cases i with
        | zero =>
          obtain rfl : (unR nxt r).1 = t := by simpa [unRs_cons] using hi
          obtain rfl : v = v' := by simpa using hv
          exact (hr1.mono (Stp.refl _ _) hL2.ren).kn hsub
        | succ i => exact (hr2 i t v' (by simpa [unRs_cons] using hi) (by simpa using hv)).kn hsub

/-- an object at a number that is known, and dead -/
theorem Inv.put (h : Inv S K w0 Kn φ hf w) {i : Nat} (hi : Kn i) (o : Ob) (hfree : ∀ j b, hf j = some b → isOwn b = true → j ≠ i → isOwn o = true → (φ j).blk ≠ (φ i).blk)
    (hro : RO S K w Kn φ (φ i) o) : Inv S K w0 Kn φ (updF [(i, some o)] hf) w := by
  refine h.step (Stp.refl _ _) (Ren.refl _ _) h.slt h.sk h.frm ?_ ?_
  · intro id o' ho
    rw [updF_cons] at ho
    by_cases e : i = id
    · subst e
      rw [if_pos rfl] at ho
      obtain rfl : o = o' := by simpa using ho
      exact .inr ⟨hi, hro⟩
    · rw [if_neg e, updF_nil] at ho
      exact .inl ⟨ho, fun hown => ⟨rfl, ((h.obj id o' ho).2.own hown).1⟩⟩
  · intro a b oa ob ha hb hoa hob hne
    rw [updF_cons] at ha hb
    by_cases ea : i = a
    · by_cases eb : i = b
      · exact absurd (ea.symm.trans eb) hne
      · rw [if_pos ea] at ha
        obtain rfl : o = oa := by simpa using ha
        rw [if_neg eb, updF_nil] at hb
        subst ea
        exact fun e => hfree b ob hb hob (fun e' => eb e'.symm) hoa e.symm
    · rw [if_neg ea, updF_nil] at ha
      by_cases eb : i = b
      · rw [if_pos eb] at hb
        obtain rfl : o = ob := by simpa using hb
        subst eb
        exact hfree a oa ha hoa (fun e' => ea e'.symm) hob
      · rw [if_neg eb, updF_nil] at hb
        exact h.dist a b oa ob ha hb hoa hob hne

/-- what laying back gives -/
structure Back (S K : Nat → Prop) (w0 w : World) (Kn : Nat → Prop) (φ : Nat → Loc) (hf : Nat → Option Ob) (fp : List Nat) (owns : List Nat) (nxt m : Nat) (u : Upd) (φ' : Nat → Loc) : Prop where
  le : nxt ≤ m
  ren : Ren Kn φ (KnU Kn nxt m) φ'
  inv : Inv S K w0 (KnU Kn nxt m) φ' (updF u hf) w
  keys : ∀ p ∈ u, p.1 ∈ owns ∨ (nxt ≤ p.1 ∧ p.1 < m)
  has : ∀ i ∈ owns, (fnd u i).isSome = true
  blk : ∀ i o, updF u hf i = some o → isOwn o = true → (i ∈ owns ∨ (nxt ≤ i ∧ i < m)) → (φ' i).blk ∈ fp

def ownsOf (l : List (C × List Nat × List Nat)) : List Nat := l.flatMap (·.2.1)

theorem fnd_nones (own : List Nat) (j : Nat) : fnd (own.map fun i => ((i, none) : Nat × Option Ob)) j = if j ∈ own then some none else none := by
  induction own with
  | nil => rfl
  | cons a l ih =>
    simp only [List.map_cons, fnd]
    by_cases e : a = j
    · simp [e]
    · have e' : (a == j) = false := by simpa using e
      have e2 : ¬ j = a := fun h => e h.symm
      simp [e', ih, e2]

theorem RC.op_inv {id off : Nat} {v : Value} (h : RC S w Kn φ (.op id off) v) : v = .pointer (some ⟨(φ id).blk, (φ id).base + off, none⟩) ∧ Kn id := by
  cases h with
  | op hk => exact ⟨rfl, hk⟩

theorem Own.unique {w : World} {b : Nat} {a a' : Array Value} (h : Own w b a) (h' : Own w b a') : a = a' := by
  obtain ⟨t, h⟩ := h
  obtain ⟨t', h'⟩ := h'
  rw [h] at h'
  simp at h'
  exact h'.1

theorem fnd_some_mem {α : Type} {u : List (Nat × α)} {id : Nat} {x : α} (h : fnd u id = some x) : ∃ p ∈ u, p.1 = id := by
  induction u with
  | nil => simp [fnd] at h
  | cons p r ih =>
    obtain ⟨i, y⟩ := p
    by_cases e : i = id
    · exact ⟨(i, y), by simp, e⟩
    · have e2 : (i == id) = false := by simpa using e
      simp only [fnd, e2, cond_false] at h
      obtain ⟨p, hp, hpe⟩ := ih h
      exact ⟨p, by simp [hp], hpe⟩

theorem evBack_le : ∀ (l : List (C × List Nat × List Nat)) (outs : List T) (nxt : Nat) (bu : Upd) (m : Nat), evBack nxt l outs = some (bu, m) → nxt ≤ m := by
  intro l
  induction l with
  | nil =>
    intro outs nxt bu m h
    cases outs with
    | nil => obtain ⟨_, rfl⟩ : [] = bu ∧ nxt = m := by simpa [evBack] using h
             exact Nat.le_refl _
    | cons t ts => simp [evBack] at h
  | cons p l ih =>
    obtain ⟨c, own, rd⟩ := p
    intro outs nxt bu m h
    cases outs with
    | nil => unfold evBack at h; simp at h
    | cons t outs =>
      unfold evBack at h
      split at h
      · simp at *
      · rename_i heq1 heq2
        simp only [List.cons.injEq, Prod.mk.injEq] at heq1 heq2
        obtain ⟨_, rfl⟩ := heq1
        exact ih _ _ _ _ h
      · rename_i heq1 heq2
        simp only [List.cons.injEq, Prod.mk.injEq] at heq1 heq2
        obtain ⟨_, rfl⟩ := heq1
        split at h
        · rename_i w2 k hrec
          split at h
          · obtain ⟨_, rfl⟩ := Prod.mk.inj (Option.some.inj h)
            exact Nat.le_trans (unL_le _ _) (ih _ _ _ _ hrec)
          · simp at h
        · simp at h
      · rename_i heq1 heq2
        simp only [List.cons.injEq, Prod.mk.injEq] at heq1 heq2
        obtain ⟨_, rfl⟩ := heq1
        split at h
        · split at h
          · rename_i w2 k hrec
            obtain ⟨_, rfl⟩ := Prod.mk.inj (Option.some.inj h)
            exact ih _ _ _ _ hrec
          · simp at h
        · simp at h
      · simp at h

theorem back_sound {H0 : Heap} {S0 : Nat → Prop} {wp : World} {Kn0 : Nat → Prop} {φ0 : Nat → Loc} {K0 : Nat → Prop} {wz : World} (hI0 : Inv S0 K0 wz Kn0 φ0 (look H0) wp) (hgrow : ∀ b arr, Own wp b arr → ∃ arr', Own w b arr' ∧ arr'.size = arr.size) :
    ∀ (l : List (C × List Nat × List Nat)) (vs : List Value) (outs : List T) (fp : List Nat) {Kn : Nat → Prop} {φ : Nat → Loc} {hf : Nat → Option Ob} (nxt : Nat) (bu : Upd) (m : Nat),
    Lent Kn0 φ0 S0 wp l vs → wholeLent H0 l = true → RTs S w outs vs fp → Inv S K w0 Kn φ hf w → (∀ j, nxt ≤ j → j < m → ¬ Kn j) → Ren Kn0 φ0 Kn φ → fp.Nodup → (∀ b ∈ fp, ¬ S b ∧ ¬ K b) → Away φ hf fp →
    (∀ i ∈ ownsOf l, hf i = none ∧ Kn0 i) → (ownsOf l).Nodup → evBack nxt l outs = some (bu, m) → ∃ φ', Back S K w0 w Kn φ hf fp (ownsOf l) nxt m bu φ' := by
  intro l
  induction l with
  | nil =>
    intro vs outs fp Kn φ hf nxt bu m hl hw hr hI hfr hren hn hSK ha hown hon h
    cases hl
    cases outs with
    | cons t ts => exact hr.elim
    | nil =>
      obtain ⟨rfl, rfl⟩ : [] = bu ∧ nxt = m := by simpa [evBack] using h
      exact ⟨φ, Nat.le_refl _, ren_knu _ _, hI.kn fun _ hi => .inl hi, fun p hp => by simp at hp, fun i hi => by simp [ownsOf] at hi, fun i o _ _ hx => by
        rcases hx with hx | hx
        · simp [ownsOf] at hx
        · omega⟩
  | cons p l ih =>
    obtain ⟨c, own, rd⟩ := p
    intro vs outs fp Kn φ hf nxt bu m hl hw hr hI hfr hren hn hSK ha hown hon h
    cases hl with
    | @cons _ _ _ _ v vs hc hl =>
    cases outs with
    | nil => exact hr.elim
    | cons t outs =>
      obtain ⟨f1, f2, rfl, hr1, hr2⟩ := hr
      rw [List.nodup_append] at hn
      obtain ⟨hn1, hn2, hn3⟩ := hn
      simp only [List.mem_append] at hSK
      have ha1 : Away φ hf f1 := fun j o hj hown hm => ha j o hj hown (by simp [hm])
      have ha2 : Away φ hf f2 := fun j o hj hown hm => ha j o hj hown (by simp [hm])
      have ho1 : ∀ i ∈ own, hf i = none ∧ Kn0 i := fun i hi => hown i (by simp [ownsOf, hi])
      have ho2 : ∀ i ∈ ownsOf l, hf i = none ∧ Kn0 i := fun i hi => hown i (by simp only [ownsOf, List.flatMap_cons, List.mem_append]; exact .inr hi)
      have hoc : ownsOf ((c, own, rd) :: l) = own ++ ownsOf l := rfl
      rw [hoc, List.nodup_append] at hon
      obtain ⟨hon1, hon2, hon3⟩ := hon
      have hw2 : wholeLent H0 l = true := by
        cases c <;> simp only [wholeLent, Bool.and_eq_true] at hw <;> first | exact hw | exact hw.2
      unfold evBack at h
      split at h
      · simp at *
      · -- nothing was owned
        rename_i heq1 heq2
        simp only [List.cons.injEq, Prod.mk.injEq] at heq1 heq2
        obtain ⟨⟨rfl, rfl, rfl⟩, rfl⟩ := heq1
        obtain ⟨rfl, rfl⟩ := heq2
        have e0 : f1 = [] := by cases hr1; rfl
        subst e0
        obtain ⟨φ', hB⟩ := ih vs outs f2 nxt bu m hl hw2 hr2 hI hfr hren hn2 (fun b hb => hSK b (.inr hb)) ha2 ho2 hon2 h
        exact ⟨φ', hB.le, hB.ren, hB.inv, hB.keys, hB.has, hB.blk⟩
      · -- a box
        rename_i id own' rd' r ts' ts heq1 heq2
        simp only [List.cons.injEq, Prod.mk.injEq] at heq1 heq2
        obtain ⟨⟨rfl, rfl, rfl⟩, rfl⟩ := heq1
        obtain ⟨rfl, rfl⟩ := heq2
        split at h
        · rename_i w2 k hrec
          split at h
          · rename_i hcon
            obtain ⟨rfl, rfl⟩ : (id, some (Ob.box (unL nxt ts').1)) :: (unL nxt ts').2.1 ++ own.map (fun i => ((i, none) : Nat × Option Ob)) ++ w2 = bu ∧ k = m := by simpa using h
            have hid : id ∈ own := by simpa using hcon
            obtain ⟨hidn, hidk0⟩ := ho1 id hid
            have hidk := hren.sub id hidk0
            have hφ := hren.same id hidk0
            obtain ⟨hv, _⟩ := hc.op_inv
            cases hr1 with
            | @pt _ b arr fps hown0 hlen hfl hrec2 =>
            simp only [Value.pointer.injEq, Option.some.injEq, Addr.mk.injEq] at hv
            obtain ⟨hb, hbase, _⟩ := hv
            rw [← hφ] at hb hbase
            have hbase0 : (φ id).base = 0 := by omega
            rw [List.nodup_cons] at hn1
            have hmk := evBack_le _ _ _ _ _ hrec
            have hidlt : ¬ (nxt ≤ id ∧ id < k) := fun h => hfr id h.1 h.2 hidk
            obtain ⟨φ1, hL, hcl, hcr⟩ := unL_sound ts' nxt (fun i => arr.getD i undef) fps hI (fun j hj hj2 => hfr j hj (by omega)) hfl hrec2 hn1.2 (fun b' hb' => hSK b' (.inl (List.mem_cons_of_mem _ hb')))
              (fun j o hj hown hm => ha1 j o hj hown (List.mem_cons_of_mem _ hm))
            have hm1 := hL.le
            have hφ1 : φ1 id = φ id := hL.ren.same id hidk
            have hul : fnd (unL nxt ts').2.1 id = none := fnd_none fun p hp e => by have := hL.fresh p hp; omega
            have hdead : updF (unL nxt ts').2.1 hf id = none := by simp only [updF, hul, hidn]
            have hawb : Away φ1 (updF (unL nxt ts').2.1 hf) [b] := hL.away hI (fun j o hj hown hm => ha1 j o hj hown (by rw [List.mem_singleton.1 hm]; simp)) fun x hx hx2 => hn1.1 (by rw [← List.mem_singleton.1 hx2]; exact hx)
            have hput := hL.inv.put (i := id) (.inl hidk) (.box (unL nxt ts').1) (fun j o hj hown hne _ => by
                rw [hφ1, ← hb]
                exact fun e => hawb j o hj hown (by simp [e]))
              (.box (by rw [hφ1]; exact hbase0) (by rw [hφ1, ← hb]; exact (hSK b (.inl (by simp))).1) (by rw [hφ1, ← hb]; exact (hSK b (.inl (by simp))).2) (by rw [hφ1, ← hb]; exact hown0) (hcl.trans hlen) hcr)
            have hav2 : Away φ1 (updF (unL nxt ts').2.1 hf) f2 := hL.away hI ha2 fun x hx hx2 => hn3 x (List.mem_cons_of_mem _ hx) x hx2 rfl
            have hult : ∀ i, ¬ (nxt ≤ i ∧ i < k) → fnd (unL nxt ts').2.1 i = none := fun i hi => fnd_none fun p hp e => by have := hL.fresh p hp; omega
            have hownlt : ∀ i, Kn0 i → ¬ (nxt ≤ i ∧ i < k) := fun i hi h => hfr i h.1 h.2 (hren.sub i hi)
            rw [← updF_append] at hput
            obtain ⟨φ2, hB⟩ := ih vs outs f2 (unL nxt ts').2.2 w2 k hl hw2 hr2 hput (fun j hj hj2 hk => by
                rcases hk with hk | hk
                · exact hfr j (by omega) hj2 hk
                · omega) ⟨fun i hi => .inl (hren.sub i hi), fun i hi => (hL.ren.same i (hren.sub i hi)).trans (hren.same i hi)⟩ hn2 (fun b hb => hSK b (.inr hb))
              (fun j o hj hown hm => by
                rw [List.singleton_append, updF_cons] at hj
                split at hj
                · rename_i e
                  subst e
                  rw [hφ1, ← hb] at hm
                  exact hn3 b (by simp) b hm rfl
                · exact hav2 j o hj hown hm)
              (fun i hi => by
                obtain ⟨h1, h2⟩ := ho2 i hi
                refine ⟨?_, h2⟩
                have hne : ¬ id = i := fun e => hon3 id hid i hi e
                rw [List.singleton_append, updF_cons, if_neg hne]
                simp only [updF, hult i (hownlt i h2), h1]) hon2 hrec
            have hkeys := hB.keys
            have hm2 := hB.le
            have hdis : ∀ j x, fnd w2 j = some x → j ≠ id ∧ j ∉ own ∧ fnd (unL nxt ts').2.1 j = none := by
              intro j x hx
              obtain ⟨p, hp, rfl⟩ := fnd_some_mem hx
              rcases hkeys p hp with h | h
              · exact ⟨fun e => hon3 id hid p.1 h e.symm, fun e => hon3 p.1 e p.1 h rfl, hult _ (hownlt _ (ho2 _ h).2)⟩
              · refine ⟨fun e => by omega, fun e => by have := hownlt _ (ho1 _ e).2; omega, fnd_none fun q hq e => ?_⟩
                have := hL.fresh q hq; omega
            have heq : updF ((id, some (Ob.box (unL nxt ts').1)) :: (unL nxt ts').2.1 ++ own.map (fun i => ((i, none) : Nat × Option Ob)) ++ w2) hf = updF w2 (updF ([(id, some (Ob.box (unL nxt ts').1))] ++ (unL nxt ts').2.1) hf) := by
              have hno : updF (own.map (fun i => ((i, none) : Nat × Option Ob))) (updF w2 hf) = updF w2 hf := by
                funext j
                conv => lhs; unfold updF
                rw [fnd_nones]
                by_cases hjo : j ∈ own
                · rw [if_pos hjo]
                  have hwj : fnd w2 j = none := by
                    cases hx : fnd w2 j with
                    | none => rfl
                    | some x => exact absurd hjo (hdis j x hx).2.1
                  simp only [updF, hwj, (ho1 j hjo).1]
                · rw [if_neg hjo]; rfl
              rw [updF_append, updF_append, hno, ← updF_append, ← updF_append]
              refine updF_comm fun p hp q hq e => ?_
              rcases hkeys q hq with h | h
              · rcases List.mem_cons.1 hp with rfl | hp
                · exact hon3 id hid q.1 h e
                · have := hL.fresh p hp
                  have := hownlt _ (ho2 _ h).2
                  omega
              · rcases List.mem_cons.1 hp with rfl | hp
                · simp only at e; omega
                · have := hL.fresh p hp
                  omega
            refine ⟨φ2, by omega, ⟨fun i h => .inl h, fun i h => (hB.ren.same i (.inl h)).trans (hL.ren.same i h)⟩, ?_, fun p hp => ?_, fun i hi => ?_, fun i o hio hownio hi => ?_⟩
            · rw [heq]
              exact hB.inv.knEq fun i => knu_knu hm1 hm2 i
            · rw [hoc]
              simp only [List.cons_append, List.append_assoc, List.mem_cons, List.mem_append, List.mem_map] at hp
              rcases hp with rfl | hp | ⟨i, hi, rfl⟩ | hp
              · exact .inl (by simp [hid])
              · have := hL.fresh p hp; exact .inr (by omega)
              · exact .inl (by simp [hi])
              · rcases hkeys p hp with h | h
                · exact .inl (by simp [h])
                · exact .inr (by omega)
            · rw [hoc] at hi
              simp only [List.cons_append, List.append_assoc, fnd, fnd_append, fnd_nones]
              rcases List.mem_append.1 hi with hi | hi
              · by_cases e : id = i
                · simp [e]
                · have e' : (id == i) = false := by simpa using e
                  simp only [e', cond_false, if_pos hi]
                  cases fnd (unL nxt ts').2.1 i <;> rfl
              · have hs := hB.has i hi
                obtain ⟨x, hx⟩ := Option.isSome_iff_exists.1 hs
                obtain ⟨h1, h2, h3⟩ := hdis i x hx
                have e' : (id == i) = false := by simpa using fun e => h1 e.symm
                simp only [e', cond_false, h3, if_neg h2, hx, Option.isSome_some]
            · rw [heq] at hio
              by_cases hrest : i ∈ ownsOf l ∨ ((unL nxt ts').2.2 ≤ i ∧ i < k)
              · exact List.mem_append_right _ (hB.blk i o hio hownio hrest)
              · refine List.mem_append_left _ ?_
                have hw2n : fnd w2 i = none := fnd_none fun q hq e => by
                  rcases hkeys q hq with h | h
                  · exact hrest (.inl (e ▸ h))
                  · exact hrest (.inr (e ▸ h))
                have hi2 : i ∈ own ∨ (nxt ≤ i ∧ i < (unL nxt ts').2.2) := by
                  rcases hi with hi | hi
                  · rw [hoc] at hi
                    rcases List.mem_append.1 hi with h | h
                    · exact .inl h
                    · exact absurd (.inl h) hrest
                  · exact .inr ⟨hi.1, by
                      rcases Nat.lt_or_ge i (unL nxt ts').2.2 with h | h
                      · exact h
                      · exact absurd (.inr ⟨h, hi.2⟩) hrest⟩
                have hkn : KnU Kn nxt (unL nxt ts').2.2 i := by
                  rcases hi2 with h | h
                  · exact .inl (hren.sub i (ho1 i h).2)
                  · exact .inr h
                rw [hB.ren.same i hkn]
                by_cases e : id = i
                · subst e; rw [hφ1, ← hb]; simp
                · rcases hi2 with h | h
                  · exfalso
                    have h1 : updF w2 (updF ([(id, some (Ob.box (unL nxt ts').1))] ++ (unL nxt ts').2.1) hf) i = hf i := by
                      simp only [updF, hw2n, List.singleton_append, fnd]
                      have e' : (id == i) = false := by simpa using e
                      simp only [e', cond_false, hult i (hownlt i (ho1 i h).2)]
                    rw [h1, (ho1 i h).1] at hio
                    simp at hio
                  · exact List.mem_cons_of_mem _ (hL.blk i h.1 h.2)
          · simp at h
        · simp at h
      · -- an array
        rename_i sz id len own' rd' r sz' rows ts heq1 heq2
        simp only [List.cons.injEq, Prod.mk.injEq] at heq1 heq2
        obtain ⟨⟨rfl, rfl, rfl⟩, rfl⟩ := heq1
        obtain ⟨rfl, rfl⟩ := heq2
        split at h
        · rename_i hcond
          obtain ⟨hrl, hszz, hownid⟩ := hcond
          subst hownid
          split at h
          · rename_i w2 k hrec
            obtain ⟨rfl, rfl⟩ : (id, some (Ob.arr sz rows)) :: w2 = bu ∧ k = m := by simpa using h
            obtain ⟨hidn, hidk0⟩ := ho1 id (by simp)
            have hidk := hren.sub id hidk0
            have hφ := hren.same id hidk0
            obtain ⟨cap, addr, hv, hszl, hk0, hcap, haddr, hextc⟩ := hc.osl_inv
            have hidlt : ¬ (nxt ≤ id ∧ id < k) := fun h => hfr id h.1 h.2 hidk
            cases hr1 with
            | @sl _ _ b off len1 cap1 arr hsz0 hown0 hlen1 hcap1 hext1 hrr =>
            simp only [Value.slice.injEq, Option.some.injEq, Addr.mk.injEq] at hv
            obtain ⟨⟨hb, hoff, _⟩, hlen2, hcap2⟩ := hv
            subst hszz
            simp only [wholeLent, Bool.and_eq_true] at hw
            have hwl := hw.1
            split at hwl
            · rename_i szo rows0 hob0
              simp only [Bool.and_eq_true, beq_iff_eq] at hwl
              obtain ⟨_, h0⟩ := hI0.obj _ _ hob0
              generalize hphi : φ0 id = l0 at *
              cases h0 with
              | @arr _ _ arr0 hsz1 hl1 hS1 hK1 hown1 hext0 hfit0 hrr0 =>
              obtain ⟨arr1, hown2, hsize2⟩ := hgrow _ _ hown1
              rw [hb] at hown0
              obtain rfl := hown0.unique hown2
              have hb1 := hSK l0.blk (.inl (by simp [hb]))
              have e1 : szo = sz' := by rw [← hl1, hszl]
              subst e1
              have hput := hI.put (i := id) hidk (.arr szo rows) (fun j o hj hown hne _ => by
                  rw [hφ]
                  exact fun e => ha1 j o hj hown (by rw [e, hb]; simp))
                (.arr hsz0 (by rw [hφ]; exact hl1) (by rw [hφ]; exact hb1.1) (by rw [hφ]; exact hb1.2) (by rw [hφ]; exact hown2) (by rw [hφ, ← hext0]; exact hsize2)
                  (by rw [hφ, hrl, hwl.2]; exact hfit0) (by
                    rw [hφ]
                    cases rows with
                    | nil => exact ⟨fun i r hi => by simp at hi, fun i r hi => by simp at hi⟩
                    | cons q rows =>
                      have : off = l0.base := by
                        rw [hoff, haddr (by simp only [List.length_cons] at hrl; omega)]; simp
                      rw [← this]; exact hrr))
              obtain ⟨φ2, hB⟩ := ih vs outs f2 nxt w2 k hl hw2 hr2 hput hfr hren hn2 (fun b hb => hSK b (.inr hb))
                (fun j o hj hown hm => by
                  rw [updF_cons] at hj
                  split at hj
                  · rename_i e
                    subst e
                    rw [hφ, ← hb] at hm
                    exact hn3 b (by simp) b hm rfl
                  · exact ha2 j o hj hown hm)
                (fun i hi => by
                  obtain ⟨h1, h2⟩ := ho2 i hi
                  refine ⟨?_, h2⟩
                  have hne : ¬ id = i := fun e => hon3 id (by simp) i hi e
                  rw [updF_cons, if_neg hne]; exact h1) hon2 hrec
              have hkeys := hB.keys
              have hm2 := hB.le
              have hdis : ∀ q ∈ w2, id ≠ q.1 := fun q hq e => by
                rcases hkeys q hq with h | h
                · exact hon3 id (by simp) q.1 h e
                · omega
              have heq : updF ((id, some (Ob.arr szo rows)) :: w2) hf = updF w2 (updF [(id, some (Ob.arr szo rows))] hf) := by
                rw [← updF_append]
                exact updF_comm (u := [(id, some (Ob.arr szo rows))]) fun p hp q hq e => by
                  rw [List.mem_singleton.1 hp] at e
                  exact hdis q hq e
              refine ⟨φ2, hB.le, hB.ren, heq ▸ hB.inv, fun p hp => ?_, fun i hi => ?_, fun i o hio hownio hi => ?_⟩
              · rw [hoc]
                rcases List.mem_cons.1 hp with rfl | hp
                · exact .inl (by simp)
                · rcases hkeys p hp with h | h
                  · exact .inl (by simp [h])
                  · exact .inr h
              · rw [hoc] at hi
                simp only [fnd]
                by_cases e : id = i
                · simp [e]
                · have e' : (id == i) = false := by simpa using e
                  simp only [e', cond_false]
                  rcases List.mem_append.1 hi with hi | hi
                  · exact absurd (List.mem_singleton.1 hi).symm e
                  · exact hB.has i hi
              · rw [heq] at hio
                by_cases hrest : i ∈ ownsOf l ∨ (nxt ≤ i ∧ i < k)
                · exact List.mem_append_right _ (hB.blk i o hio hownio hrest)
                · have hi2 : i = id := by
                    rcases hi with hi | hi
                    · rw [hoc] at hi
                      rcases List.mem_append.1 hi with h | h
                      · exact List.mem_singleton.1 h
                      · exact absurd (.inl h) hrest
                    · exact absurd (.inr hi) hrest
                  subst hi2
                  rw [hB.ren.same i hidk, hφ, ← hb]
                  simp
            · simp at hwl
          · simp at h
        · simp at h
      · simp at h

end
end Go.Ev
