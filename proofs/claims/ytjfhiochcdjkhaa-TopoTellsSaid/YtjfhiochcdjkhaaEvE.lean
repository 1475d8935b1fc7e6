/- Handing over: owned things read as data, frozen, taken out of the heap as trees, laid into it. Conditions: the relation of XEvC. -/
import Derived.Test.YtjfhiochcdjkhaaEvD
namespace Go.Ev

section
variable {S K : Nat → Prop} {w0 w : World} {Kn : Nat → Prop} {φ : Nat → Loc} {hf : Nat → Option Ob}

theorem RD.sl_of {sz : Nat} {rows : List (List D)} {b off len cap : Nat} (hb : S b) (hsz : 0 < sz) (hlen : rows.length = len) (hcap : len ≤ cap)
    (h : RowsAt S w sz (fun i => w.cell? ⟨b, i, none⟩) off rows) : RD S w (.sl sz rows) (.slice (some ⟨b, off, none⟩) len cap) := by
  subst hlen
  refine .sl (fun i j => (w.cell? ⟨b, off + i * sz + j, none⟩).getD undef) hb hsz hcap h.1 (fun i r hi j x hj => ?_) (fun i r hi j x hj => ?_)
  · obtain ⟨v, hv, _⟩ := h.2 i r hi j x hj
    simp only at hv
    rw [hv]; rfl
  · obtain ⟨v, hv, hr⟩ := h.2 i r hi j x hj
    simp only at hv
    rw [hv]; exact hr

theorem RD.pt_of {cells : List D} {b off : Nat} (hb : S b) (h : ∀ (j : Nat) (x : D), cells[j]? = some x → ∃ v, w.cell? ⟨b, off + j, none⟩ = some v ∧ RD S w x v) :
    RD S w (.pt cells) (.pointer (some ⟨b, off, none⟩)) := by
  refine .pt (fun j => (w.cell? ⟨b, off + j, none⟩).getD undef) hb (fun j x hj => ?_) (fun j x hj => ?_)
  · obtain ⟨v, hv, _⟩ := h j x hj
    rw [hv]; rfl
  · obtain ⟨v, hv, hr⟩ := h j x hj
    rw [hv]; exact hr

/-- the frozen blocks, and those of these numbers -/
def SB (S : Nat → Prop) (φ : Nat → Loc) (ids : List Nat) (b : Nat) : Prop := S b ∨ ∃ i ∈ ids, (φ i).blk = b

theorem SB.stp (w : World) (a b : List Nat) (h : ∀ i ∈ a, i ∈ b) : Stp (SB S φ a) w (SB S φ b) w :=
  ⟨fun _ hb => hb.imp id fun ⟨i, hi, e⟩ => ⟨i, h i hi, e⟩, fun _ _ => rfl⟩
theorem SB.stp0 (w : World) (b : List Nat) : Stp S w (SB S φ b) w := ⟨fun _ hb => .inl hb, fun _ _ => rfl⟩

/-- rows of an object, cell by cell, in whatever world part -/
theorem rows_cell {id sz : Nat} {rows : List (List D)} (hI : Inv S K w0 Kn φ hf w) (ho : hf id = some (.arr sz rows) ∨ hf id = some (.imm sz rows)) :
    0 < sz ∧ (φ id).sz = sz ∧ RowsAt S w sz (fun i => w.cell? ⟨(φ id).blk, i, none⟩) (φ id).base rows := by
  rcases ho with ho | ho
  · obtain ⟨_, h0⟩ := hI.obj _ _ ho
    cases h0 with
    | arr hsz hl hS hK hown hext hfit hrr => exact ⟨hsz, hl, hrr.1, fun i r hi j x hj => let ⟨v, hv, hr⟩ := hrr.2 i r hi j x hj; ⟨v, (hown.cell _).trans hv, hr⟩⟩
  · obtain ⟨_, h0⟩ := hI.obj _ _ ho
    cases h0 with
    | imm hsz hl hS hrr => exact ⟨hsz, hl, hrr⟩

theorem RowsAt.sub {sz base : Nat} {get : Nat → Option Value} {rows : List (List D)} (h : RowsAt S w sz get base rows) (off len : Nat) :
    RowsAt S w sz get (base + off * sz) ((rows.drop off).take len) := by
  have key : ∀ i (r : List D), ((rows.drop off).take len)[i]? = some r → rows[off + i]? = some r := by
    intro i r hi
    rw [List.getElem?_take] at hi
    split at hi
    · rwa [List.getElem?_drop] at hi
    · simp at hi
  refine ⟨fun i r hi => h.1 _ _ (key i r hi), fun i r hi j x hj => ?_⟩
  obtain ⟨v, hv, hr⟩ := h.2 _ _ (key i r hi) j x hj
  refine ⟨v, ?_, hr⟩
  rw [← hv]; congr 1
  rw [Nat.add_mul]; omega

theorem RowsAt.sub' {sz base addr : Nat} {get : Nat → Option Value} {rows : List (List D)} (h : RowsAt S w sz get base rows) (off len : Nat) (ha : 0 < len → addr = base + off * sz) :
    RowsAt S w sz get addr ((rows.drop off).take len) := by
  cases len with
  | zero => exact ⟨fun i r hi => by simp at hi, fun i r hi => by simp at hi⟩
  | succ n => rw [ha (Nat.succ_pos _)]; exact h.sub off _

theorem view_osl {sz id off len : Nat} {rows : List (List D)} {v : Value} {szo : Nat} (hI : Inv S K w0 Kn φ hf w) (hc : RC S w Kn φ (.osl sz id off len) v)
    (ho : hf id = some (.arr szo rows) ∨ hf id = some (.imm szo rows)) (hle : off + len ≤ rows.length) {T : Nat → Prop} (hT : Stp S w T w) (hb : T (φ id).blk) :
    RD T w (.sl sz ((rows.drop off).take len)) v := by
  obtain ⟨hsz, hl, hr⟩ := rows_cell hI ho
  subst hl
  cases hc with
  | osl hk hcap haddr hext => exact .sl_of hb hsz (by simp; omega) hcap ((hr.sub' off len fun h => haddr (by omega)).mono hT)

theorem view_ep {id row off sz : Nat} {rows : List (List D)} {r : List D} {v : Value} (hI : Inv S K w0 Kn φ hf w) (hc : RC S w Kn φ (.ep id row off) v)
    (ho : hf id = some (.arr sz rows) ∨ hf id = some (.imm sz rows)) (hr : rows[row]? = some r) {T : Nat → Prop} (hT : Stp S w T w) (hb : T (φ id).blk) :
    RD T w (.pt (r.drop off)) v := by
  obtain ⟨hsz, hl, hrr⟩ := rows_cell hI ho
  cases hc with
  | ep hk =>
    refine .pt_of hb fun j x hj => ?_
    rw [List.getElem?_drop] at hj
    obtain ⟨u, hu, hd⟩ := hrr.2 row r hr (off + j) x hj
    refine ⟨u, ?_, hd.mono hT⟩
    rw [← hu, hl]; simp only [Nat.add_assoc]

theorem view_leaf {H : Heap} (hI : Inv S K w0 Kn φ (look H) w) (n : Nat) (c : C) (x : D) (ids : List Nat) (v : Value) (hleaf : match c with | .op _ _ | .ofn _ _ => False | _ => True)
    (h : viewC H n c = some (x, ids)) (hc : RC S w Kn φ c v) : RD (SB S φ ids) w x v := by
  cases c with
  | d y =>
    simp only [viewC, Option.some.injEq, Prod.mk.injEq] at h
    obtain ⟨rfl, rfl⟩ := h
    cases hc with
    | d hd => exact hd.mono (SB.stp0 w _)
  | osl sz id off len =>
    simp only [viewC] at h
    have key : ∀ szo rows, (look H id = some (.arr szo rows) ∨ look H id = some (.imm szo rows)) → (if off + len ≤ rows.length then some (D.sl sz ((rows.drop off).take len), [id]) else none) = some (x, ids) → RD (SB S φ ids) w x v := by
      intro szo rows ho h
      split at h
      · rename_i hle
        obtain ⟨rfl, rfl⟩ := Prod.mk.inj (Option.some.inj h)
        exact view_osl hI hc ho hle (SB.stp0 w _) (.inr ⟨_, by simp, rfl⟩)
      · simp at h
    split at h
    · exact key _ _ (.inl (by assumption)) h
    · exact key _ _ (.inr (by assumption)) h
    · simp at h
  | ep id row off =>
    simp only [viewC] at h
    have key : ∀ szo rows, (look H id = some (.arr szo rows) ∨ look H id = some (.imm szo rows)) →
        (match rows[row]? with | some r => if off ≤ r.length then some (D.pt (r.drop off), [id]) else none | none => none) = some (x, ids) → RD (SB S φ ids) w x v := by
      intro szo rows ho h
      split at h
      · rename_i r hr
        split at h
        · obtain ⟨rfl, rfl⟩ := Prod.mk.inj (Option.some.inj h)
          exact view_ep hI hc ho hr (SB.stp0 w _) (.inr ⟨_, by simp, rfl⟩)
        · simp at h
      · simp at h
    split at h
    · exact key _ _ (.inl (by assumption)) h
    · exact key _ _ (.inr (by assumption)) h
    · simp at h
  | op id off => exact hleaf.elim
  | ofn f caps => exact hleaf.elim
  | om id => cases n <;> simp [viewC] at h

theorem view_sound {H : Heap} (hI : Inv S K w0 Kn φ (look H) w) : ∀ n,
    (∀ c x ids v, viewC H n c = some (x, ids) → RC S w Kn φ c v → RD (SB S φ ids) w x v) ∧
    (∀ cs xs ids, viewL H n cs = some (xs, ids) → ∀ (get : Nat → Option Value), (∀ (i : Nat) (c : C), cs[i]? = some c → ∃ v, get i = some v ∧ RC S w Kn φ c v) →
      xs.length = cs.length ∧ ∀ (i : Nat) (x : D), xs[i]? = some x → ∃ v, get i = some v ∧ RD (SB S φ ids) w x v) := by
  intro n
  induction n with
  | zero =>
    refine ⟨fun c x ids v h hc => ?_, fun cs xs ids h get hg => ?_⟩
    · cases c with
      | op id off => simp [viewC] at h
      | ofn f caps => simp [viewC] at h
      | _ => exact view_leaf hI 0 _ x ids v trivial h hc
    · cases cs with
      | nil =>
        obtain ⟨rfl, rfl⟩ : [] = xs ∧ [] = ids := by simpa [viewL] using h
        exact ⟨rfl, fun i x hi => by simp at hi⟩
      | cons c cs => simp [viewL] at h
  | succ n ih =>
    obtain ⟨ihc, ihl⟩ := ih
    refine ⟨fun c x ids v h hc => ?_, fun cs xs ids h get hg => ?_⟩
    · cases c with
      | op id off =>
        simp only [viewC] at h
        split at h
        · rename_i cells ho
          split at h
          · obtain ⟨rfl, rfl⟩ := Prod.mk.inj (Option.some.inj h)
            obtain ⟨_, h0⟩ := hI.obj _ _ ho
            cases h0 with
            | ibox hb hS hr =>
              cases hc with
              | op hk =>
                refine .pt_of (.inl hS) fun j x hj => ?_
                rw [List.getElem?_drop] at hj
                obtain ⟨u, hu, hd⟩ := hr _ _ hj
                exact ⟨u, by rw [← hu, hb, Nat.zero_add], hd.mono (SB.stp0 w _)⟩
          · simp at h
        · rename_i cells ho
          split at h
          · rename_i ds ids' hv
            split at h
            · obtain ⟨rfl, rfl⟩ := Prod.mk.inj (Option.some.inj h)
              obtain ⟨_, h0⟩ := hI.obj _ _ ho
              cases h0 with
              | @box _ arr hb hS hK hown hlen hr =>
                cases hc with
                | op hk =>
                  obtain ⟨h1, h2⟩ := ihl cells ds ids' hv (fun i => w.cell? ⟨(φ id).blk, i, none⟩) (fun i c hi => by
                    have hlt := (List.getElem?_eq_some_iff.1 hi).1
                    rw [hlen] at hlt
                    exact ⟨arr.getD i undef, by rw [hown.cell]; simp [Array.getD, hlt], hr i c hi⟩)
                  refine .pt_of (.inr ⟨id, by simp, rfl⟩) fun j x hj => ?_
                  rw [List.getElem?_drop] at hj
                  obtain ⟨u, hu, hd⟩ := h2 _ _ hj
                  exact ⟨u, by rw [← hu, hb, Nat.zero_add], hd.mono (SB.stp w _ _ fun i hi => by simp [hi])⟩
            · simp at h
          · simp at h
        · simp at h
      | ofn f caps =>
        simp only [viewC] at h
        split at h
        · rename_i ds ids' hv
          obtain ⟨rfl, rfl⟩ := Prod.mk.inj (Option.some.inj h)
          cases hc with
          | @ofn _ _ vs hlen hr =>
            obtain ⟨h1, h2⟩ := ihl caps ds ids' hv (fun i => vs[i]?) (fun i c hi => by
              have hlt := (List.getElem?_eq_some_iff.1 hi).1
              rw [hlen] at hlt
              exact ⟨vs.getD i undef, by simp [Array.getD, hlt], hr i c hi⟩)
            refine .fn (h1.trans hlen) fun j x hj => ?_
            obtain ⟨u, hu, hd⟩ := h2 j x hj
            have hu' : vs[j]? = some u := hu
            have : vs.getD j undef = u := by simp [hu']
            rw [this]; exact hd
        · simp at h
      | _ => exact view_leaf hI (n + 1) _ x ids v trivial h hc
    · cases cs with
      | nil =>
        obtain ⟨rfl, rfl⟩ : [] = xs ∧ [] = ids := by simpa [viewL] using h
        exact ⟨rfl, fun i x hi => by simp at hi⟩
      | cons c cs =>
        simp only [viewL] at h
        split at h
        · rename_i x0 a xs0 b hx hxs
          obtain ⟨rfl, rfl⟩ := Prod.mk.inj (Option.some.inj h)
          obtain ⟨v0, hv0, hc0⟩ := hg 0 c rfl
          have h0 := ihc c x0 a v0 hx hc0
          obtain ⟨h1, h2⟩ := ihl cs xs0 b hxs (fun i => get (i + 1)) (fun i c hi => hg (i + 1) c (by simpa using hi))
          refine ⟨by simp [h1], fun i x hi => ?_⟩
          cases i with
          | zero =>
            obtain rfl : x0 = x := by simpa using hi
            exact ⟨v0, hv0, h0.mono (SB.stp w _ _ fun i hi => by simp [hi])⟩
          | succ i =>
            obtain ⟨u, hu, hd⟩ := h2 i x (by simpa using hi)
            exact ⟨u, hu, hd.mono (SB.stp w _ _ fun i hi => by simp [hi])⟩
        · simp at h

theorem viewCs_sound {H : Heap} (hI : Inv S K w0 Kn φ (look H) w) : ∀ cs xs ids, viewCs H cs = some (xs, ids) → ∀ (get : Nat → Option Value), (∀ (i : Nat) (c : C), cs[i]? = some c → ∃ v, get i = some v ∧ RC S w Kn φ c v) →
      xs.length = cs.length ∧ ∀ (i : Nat) (x : D), xs[i]? = some x → ∃ v, get i = some v ∧ RD (SB S φ ids) w x v := by
  intro cs
  induction cs with
  | nil =>
    intro xs ids h get hg
    obtain ⟨rfl, rfl⟩ : [] = xs ∧ [] = ids := by simpa [viewCs] using h
    exact ⟨rfl, fun i x hi => by simp at hi⟩
  | cons c cs ih =>
    intro xs ids h get hg
    simp only [viewCs] at h
    split at h
    · rename_i x0 a xs0 b hx hxs
      obtain ⟨rfl, rfl⟩ := Prod.mk.inj (Option.some.inj h)
      obtain ⟨v0, hv0, hc0⟩ := hg 0 c rfl
      have h0 := (view_sound hI 60).1 c x0 a v0 hx hc0
      obtain ⟨h1, h2⟩ := ih xs0 b hxs (fun i => get (i + 1)) (fun i c hi => hg (i + 1) c (by simpa using hi))
      refine ⟨by simp [h1], fun i x hi => ?_⟩
      cases i with
      | zero =>
        obtain rfl : x0 = x := by simpa using hi
        exact ⟨v0, hv0, h0.mono (SB.stp w _ _ fun i hi => by simp [hi])⟩
      | succ i =>
        obtain ⟨u, hu, hd⟩ := h2 i x (by simpa using hi)
        exact ⟨u, hu, hd.mono (SB.stp w _ _ fun i hi => by simp [hi])⟩
    · simp at h

/-! ### freezing -/

theorem fnd_freeze {H : Heap} {all : List Nat} : ∀ (l : List Nat) (u : Upd), freezeIds H all l = some u →
    ∀ id, (id ∈ l → ∃ o, freezeOb H all id = some o ∧ fnd u id = some (some o)) ∧ (id ∉ l → fnd u id = none) := by
  intro l
  induction l with
  | nil =>
    intro u h id
    obtain rfl : [] = u := by simpa [freezeIds] using h
    exact ⟨fun h => by simp at h, fun _ => rfl⟩
  | cons a l ih =>
    intro u h id
    simp only [freezeIds] at h
    split at h
    · rename_i o u' ho hu
      obtain rfl := Option.some.inj h
      by_cases e : a = id
      · subst e
        exact ⟨fun _ => ⟨o, ho, by simp [fnd]⟩, fun hn => absurd (List.mem_cons_self ..) hn⟩
      · obtain ⟨h1, h2⟩ := ih u' hu id
        have e' : (a == id) = false := by simpa using e
        refine ⟨fun hm => ?_, fun hn => ?_⟩
        · obtain ⟨o', ho', hf'⟩ := h1 ((List.mem_cons.1 hm).resolve_left (fun e2 => e e2.symm))
          exact ⟨o', ho', by simp [fnd, e', hf']⟩
        · simp only [fnd, e', cond_false]; exact h2 (fun hm => hn (List.mem_cons_of_mem _ hm))
    · simp at h

theorem freeze_ob {H : Heap} {all : List Nat} {id : Nat} {o : Ob} (hI : Inv S K w0 Kn φ (look H) w) (hmem : id ∈ all) (h : freezeOb H all id = some o) :
    isOwn o = false ∧ (∃ o0, look H id = some o0) ∧ RO (SB S φ all) K w Kn φ (φ id) o := by
  unfold freezeOb at h
  have hb : SB S φ all (φ id).blk := .inr ⟨id, hmem, rfl⟩
  split at h
  · rename_i sz rows ho
    obtain rfl := Option.some.inj h
    obtain ⟨hsz, hl, hr⟩ := rows_cell hI (.inl ho)
    exact ⟨rfl, ⟨_, ho⟩, .imm hsz hl hb (hr.mono (SB.stp0 w _))⟩
  · rename_i sz rows ho
    obtain rfl := Option.some.inj h
    obtain ⟨hsz, hl, hr⟩ := rows_cell hI (.inr ho)
    exact ⟨rfl, ⟨_, ho⟩, .imm hsz hl hb (hr.mono (SB.stp0 w _))⟩
  · rename_i cells ho
    obtain rfl := Option.some.inj h
    obtain ⟨_, h0⟩ := hI.obj _ _ ho
    cases h0 with
    | ibox hbase hS hr => exact ⟨rfl, ⟨_, ho⟩, .ibox hbase hb fun i x hi => let ⟨v, hv, hd⟩ := hr i x hi; ⟨v, hv, hd.mono (SB.stp0 w _)⟩⟩
  · rename_i cells ho
    split at h
    · rename_i ds ids hv
      split at h
      · rename_i hall
        obtain rfl := Option.some.inj h
        obtain ⟨_, h0⟩ := hI.obj _ _ ho
        cases h0 with
        | @box _ arr hbase hS hK hown hlen hr =>
          obtain ⟨h1, h2⟩ := (view_sound hI 60).2 cells ds ids hv (fun i => w.cell? ⟨(φ id).blk, i, none⟩) (fun i c hi => by
            have hlt := (List.getElem?_eq_some_iff.1 hi).1
            rw [hlen] at hlt
            exact ⟨arr.getD i undef, by rw [hown.cell]; simp [Array.getD, hlt], hr i c hi⟩)
          refine ⟨rfl, ⟨_, ho⟩, .ibox hbase hb fun i x hi => ?_⟩
          obtain ⟨u, hu, hd⟩ := h2 i x hi
          exact ⟨u, hu, hd.mono (SB.stp w _ _ fun i hi => by simpa using List.all_eq_true.1 hall i hi)⟩
      · simp at h
    · simp at h
  · simp at h
  · simp at h

/-- what is frozen is frozen -/
theorem Inv.freeze {H : Heap} {ids : List Nat} {u : Upd} (hI : Inv S K w0 Kn φ (look H) w) (h : freezeIds H ids ids = some u) :
    Inv (SB S φ ids) K w0 Kn φ (updF u (look H)) w := by
  have hfr : ∀ id ∈ ids, ∃ o, fnd u id = some (some o) ∧ isOwn o = false ∧ (∃ o0, look H id = some o0) ∧ RO (SB S φ ids) K w Kn φ (φ id) o := by
    intro id hid
    obtain ⟨o, ho, hfn⟩ := ((fnd_freeze ids u h id).1 hid)
    exact ⟨o, hfn, freeze_ob hI hid ho⟩
  have hold : ∀ id o, updF u (look H) id = some o → isOwn o = true → id ∉ ids ∧ look H id = some o := by
    intro id o ho hown
    by_cases hm : id ∈ ids
    · obtain ⟨o', hfn, hno, _⟩ := hfr id hm
      simp only [updF, hfn] at ho
      obtain rfl := Option.some.inj ho
      rw [hno] at hown; simp at hown
    · refine ⟨hm, ?_⟩
      simpa only [updF, (fnd_freeze ids u h id).2 hm] using ho
  have hblk : ∀ id o, look H id = some o → isOwn o = true → id ∉ ids → ¬ SB S φ ids (φ id).blk := by
    intro id o ho hown hm hb
    obtain ⟨_, h0⟩ := hI.obj id o ho
    rcases hb with hb | ⟨i, hi, e⟩
    · exact (h0.own hown).1 hb
    · obtain ⟨_, _, _, ⟨o0, ho0⟩, _⟩ := hfr i hi
      by_cases hoi : isOwn o0 = true
      · exact hI.dist i id o0 o ho0 ho hoi hown (fun e' => hm (e' ▸ hi)) e
      · obtain ⟨_, h1⟩ := hI.obj i o0 ho0
        have : S (φ i).blk := by
          cases h1 with
          | imm hsz hl hS _ => exact hS
          | ibox hb hS _ => exact hS
          | _ => simp [isOwn] at hoi
        exact (h0.own hown).1 (e ▸ this)
  refine hI.step (SB.stp0 w _) (Ren.refl _ _) ?_ ?_ hI.frm ?_ ?_
  · intro b hb
    rcases hb with hb | ⟨i, hi, rfl⟩
    · exact hI.slt b hb
    · obtain ⟨_, _, _, ⟨o0, ho0⟩, _⟩ := hfr i hi
      obtain ⟨_, h1⟩ := hI.obj i o0 ho0
      cases h1 with
      | arr hsz hl hS hK hown => exact hown.lt
      | box hb hS hK hown => exact hown.lt
      | map hS hK hmp => exact (Array.getElem?_eq_some_iff.1 hmp).1
      | imm hsz hl hS => exact hI.slt _ hS
      | ibox hb hS => exact hI.slt _ hS
  · intro b hb
    rcases hb with hb | ⟨i, hi, rfl⟩
    · exact hI.sk b hb
    · obtain ⟨_, _, _, ⟨o0, ho0⟩, _⟩ := hfr i hi
      obtain ⟨_, h1⟩ := hI.obj i o0 ho0
      cases h1 with
      | arr hsz hl hS hK hown => exact hK
      | box hb hS hK hown => exact hK
      | map hS hK hmp => exact hK
      | imm hsz hl hS => exact hI.sk _ hS
      | ibox hb hS => exact hI.sk _ hS
  · intro id o ho
    by_cases hm : id ∈ ids
    · obtain ⟨o', hfn, hno, ⟨o0, ho0⟩, hro⟩ := hfr id hm
      simp only [updF, hfn] at ho
      obtain rfl := Option.some.inj ho
      exact .inr ⟨(hI.obj id o0 ho0).1, hro⟩
    · have ho' : look H id = some o := by simpa only [updF, (fnd_freeze ids u h id).2 hm] using ho
      exact .inl ⟨ho', fun hown => ⟨rfl, hblk id o ho' hown hm⟩⟩
  · intro i j a b ha hb hoa hob hne
    exact hI.dist i j a b (hold i a ha hoa).2 (hold j b hb hob).2 hoa hob hne

end
end Go.Ev
