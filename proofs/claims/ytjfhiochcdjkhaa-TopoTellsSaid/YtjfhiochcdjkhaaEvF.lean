/- Trees: what a call owns, taken out of the heap and laid into it. Conditions: the relation of XEvC. -/
import Derived.Test.YtjfhiochcdjkhaaEvE
namespace Go.Ev

inductive RT (S : Nat → Prop) (w : World) : T → Value → List Nat → Prop
  | d {x : D} {v : Value} (h : RD S w x v) : RT S w (.d x) v []
  | sl {sz : Nat} {rows : List (List D)} {b off len cap : Nat} {arr : Array Value} (hsz : 0 < sz) (ho : Own w b arr) (hlen : rows.length = len) (hcap : len ≤ cap)
      (hext : off + cap * sz ≤ arr.size) (hr : RowsAt S w sz (fun i => arr[i]?) off rows) : RT S w (.sl sz rows) (.slice (some ⟨b, off, none⟩) len cap) [b]
  | pt {ts : List T} {b : Nat} {arr : Array Value} {fps : List (List Nat)} (ho : Own w b arr) (hlen : ts.length = arr.size) (hfl : fps.length = ts.length)
      (h : ∀ (i : Nat) (t : T) (fp : List Nat), ts[i]? = some t → fps[i]? = some fp → RT S w t (arr.getD i undef) fp) :
      RT S w (.pt ts) (.pointer (some ⟨b, 0, none⟩)) (b :: fps.flatten)

theorem RT.one {S : Nat → Prop} {w : World} {t : T} {v : Value} {fp : List Nat} (h : RT S w t v fp) : one v = true := by
  cases h with
  | d h => exact h.one
  | _ => rfl

theorem RT.mono {S S' : Nat → Prop} {w w' : World} (hs : Stp S w S' w') {t : T} {v : Value} {fp : List Nat} (h : RT S w t v fp) (hb : ∀ b ∈ fp, w'.heap[b]? = w.heap[b]?) : RT S' w' t v fp := by
  induction h with
  | d h => exact .d (h.mono hs)
  | sl hsz ho hlen hcap hext hr => exact .sl hsz (ho.of_same (hb _ (by simp))) hlen hcap hext (hr.mono hs)
  | pt ho hlen hfl h ih =>
    refine .pt (ho.of_same (hb _ (by simp))) hlen hfl fun i t fp hi hf => ih i t fp hi hf fun b hbm => hb b ?_
    exact List.mem_cons_of_mem _ (List.mem_flatten.2 ⟨fp, List.mem_of_getElem? hf, hbm⟩)

theorem RT.lt {S : Nat → Prop} {w : World} {t : T} {v : Value} {fp : List Nat} (h : RT S w t v fp) : ∀ b ∈ fp, b < w.heap.size := by
  induction h with
  | d h => intro b hb; simp at hb
  | sl hsz ho =>
    intro b hb
    obtain rfl := List.mem_singleton.1 hb
    exact ho.lt
  | pt ho hlen hfl h ih =>
    intro b hb
    rcases List.mem_cons.1 hb with rfl | hb
    · exact ho.lt
    · obtain ⟨fp, hfp, hbf⟩ := List.mem_flatten.1 hb
      obtain ⟨i, hi, rfl⟩ := List.getElem_of_mem hfp
      exact ih i _ _ (List.getElem?_eq_getElem (by omega : i < _)) (List.getElem?_eq_getElem hi) b hbf

section
variable {S K : Nat → Prop} {w0 w : World} {Kn : Nat → Prop} {φ : Nat → Loc} {hf : Nat → Option Ob}

/-! ### out -/

theorem pack_osl {H : Heap} {sz id off len : Nat} {t : T} {own rd : List Nat} {v : Value} (hI : Inv S K w0 Kn φ (look H) w) (hc : RC S w Kn φ (.osl sz id off len) v)
    (h : (match look H id with
    | some (.arr _ rows) => if off + len ≤ rows.length then some (T.sl sz ((rows.drop off).take len), [id], [id]) else none
    | some (.imm _ rows) => if off + len ≤ rows.length then some (.d (.sl sz ((rows.drop off).take len)), [], [id]) else none
    | _ => none) = some (t, own, rd)) :
    RT S w t v (own.map fun i => (φ i).blk) ∧ ∀ i ∈ own, ∃ o, look H i = some o ∧ isOwn o = true := by
  split at h
  · rename_i szo rows ho
    split at h
    · rename_i hle
      obtain ⟨rfl, rfl, rfl⟩ : T.sl sz ((rows.drop off).take len) = t ∧ [id] = own ∧ [id] = rd := by simpa using h
      obtain ⟨hk, h0⟩ := hI.obj _ _ ho
      cases h0 with
      | arr hsz hl hS hK hown hext hfit hr =>
        subst hl
        cases hc with
        | osl hk hcap haddr hx =>
          refine ⟨.sl hsz hown (by simp; omega) hcap (by omega) (hr.sub' off len fun h => haddr (by omega)), fun i hi => ?_⟩
          · obtain rfl := List.mem_singleton.1 hi
            exact ⟨_, ho, rfl⟩
    · simp at h
  · rename_i szo rows ho
    split at h
    · rename_i hle
      obtain ⟨rfl, rfl, rfl⟩ : T.d (.sl sz ((rows.drop off).take len)) = t ∧ [] = own ∧ [id] = rd := by simpa using h
      obtain ⟨hk, h0⟩ := hI.obj _ _ ho
      have hS : S (φ id).blk := by cases h0 with | imm hsz hl hS _ => exact hS
      exact ⟨.d (view_osl hI hc (.inr ho) hle (Stp.refl _ _) hS), fun i hi => by simp at hi⟩
    · simp at h
  · simp at h

theorem pack_sound {H : Heap} (hI : Inv S K w0 Kn φ (look H) w) : ∀ n,
    (∀ c t own rd v, packC H n c = some (t, own, rd) → RC S w Kn φ c v → RT S w t v (own.map fun i => (φ i).blk) ∧ ∀ i ∈ own, ∃ o, look H i = some o ∧ isOwn o = true) ∧
    (∀ cs ts own rd, packL H n cs = some (ts, own, rd) → ∀ (get : Nat → Value), (∀ (i : Nat) (c : C), cs[i]? = some c → RC S w Kn φ c (get i)) →
      ts.length = cs.length ∧ (∃ fps : List (List Nat), fps.length = ts.length ∧ fps.flatten = own.map (fun i => (φ i).blk) ∧
        ∀ (i : Nat) (t : T) (fp : List Nat), ts[i]? = some t → fps[i]? = some fp → RT S w t (get i) fp) ∧ ∀ i ∈ own, ∃ o, look H i = some o ∧ isOwn o = true) := by
  intro n
  induction n with
  | zero =>
    refine ⟨fun c t own rd v h hc => ?_, fun cs ts own rd h get hg => ?_⟩
    · cases c with
      | d x =>
        obtain ⟨rfl, rfl, rfl⟩ : T.d x = t ∧ [] = own ∧ [] = rd := by simpa [packC] using h
        cases hc with
        | d hd => exact ⟨.d hd, fun i hi => by simp at hi⟩
      | osl sz id off len => simp only [packC] at h; exact pack_osl hI hc h
      | _ => simp [packC] at h
    · cases cs with
      | nil =>
        obtain ⟨rfl, rfl, rfl⟩ : [] = ts ∧ [] = own ∧ [] = rd := by simpa [packL] using h
        exact ⟨rfl, ⟨[], rfl, rfl, fun i t fp hi => by simp at hi⟩, fun i hi => by simp at hi⟩
      | cons c cs => simp [packL] at h
  | succ n ih =>
    obtain ⟨ihc, ihl⟩ := ih
    refine ⟨fun c t own rd v h hc => ?_, fun cs ts own rd h get hg => ?_⟩
    · cases c with
      | d x =>
        obtain ⟨rfl, rfl, rfl⟩ : T.d x = t ∧ [] = own ∧ [] = rd := by simpa [packC] using h
        cases hc with
        | d hd => exact ⟨.d hd, fun i hi => by simp at hi⟩
      | osl sz id off len => simp only [packC] at h; exact pack_osl hI hc h
      | op id off =>
        cases off with
        | succ off => simp [packC] at h
        | zero =>
          simp only [packC] at h
          split at h
          · rename_i cells ho
            split at h
            · rename_i ts own' rd' hp
              obtain ⟨rfl, rfl, rfl⟩ : T.pt ts = t ∧ id :: own' = own ∧ id :: rd' = rd := by simpa using h
              obtain ⟨hk, h0⟩ := hI.obj _ _ ho
              cases h0 with
              | @box _ arr hb hS hK hown hlen hr =>
                obtain ⟨h1, ⟨fps, h2, h3, h4⟩, h5⟩ := ihl cells ts own' rd' hp (fun i => arr.getD i undef) hr
                cases hc with
                | op hk =>
                  rw [hb]
                  refine ⟨?_, fun i hi => ?_⟩
                  · rw [List.map_cons, ← h3]
                    exact .pt hown (h1.trans hlen) h2 h4
                  · rcases List.mem_cons.1 hi with rfl | hi
                    · exact ⟨_, ho, rfl⟩
                    · exact h5 i hi
            · simp at h
          · rename_i cells ho
            obtain ⟨rfl, rfl, rfl⟩ : T.d (.pt cells) = t ∧ [] = own ∧ [id] = rd := by simpa using h
            obtain ⟨hk, h0⟩ := hI.obj _ _ ho
            cases h0 with
            | ibox hb hS hr =>
              cases hc with
              | op hk =>
                exact ⟨.d (.pt_of hS fun j x hj => by
                  obtain ⟨u, hu, hd⟩ := hr j x hj
                  exact ⟨u, by rw [← hu, hb]; simp, hd⟩), fun i hi => by simp at hi⟩
          · simp at h
      | ep id row off => simp [packC] at h
      | ofn f caps => simp [packC] at h
      | om id => simp [packC] at h
    · cases cs with
      | nil =>
        obtain ⟨rfl, rfl, rfl⟩ : [] = ts ∧ [] = own ∧ [] = rd := by simpa [packL] using h
        exact ⟨rfl, ⟨[], rfl, rfl, fun i t fp hi => by simp at hi⟩, fun i hi => by simp at hi⟩
      | cons c cs =>
        simp only [packL] at h
        split at h
        · rename_i t0 a i0 ts0 b j0 hx hxs
          obtain ⟨rfl, rfl, rfl⟩ : t0 :: ts0 = ts ∧ a ++ b = own ∧ i0 ++ j0 = rd := by simpa using h
          obtain ⟨p1, p2⟩ := ihc c t0 a i0 (get 0) hx (hg 0 c rfl)
          obtain ⟨h1, ⟨fps, h2, h3, h4⟩, h5⟩ := ihl cs ts0 b j0 hxs (fun i => get (i + 1)) (fun i c hi => hg (i + 1) c (by simpa using hi))
          refine ⟨by simp [h1], ⟨(a.map fun i => (φ i).blk) :: fps, by simp [h2], by simp [h3], fun i t fp hi hfp => ?_⟩, fun i hi => ?_⟩
          · cases i with
            | zero =>
              obtain rfl : t0 = t := by simpa using hi
              obtain rfl : (a.map fun i => (φ i).blk) = fp := by simpa using hfp
              exact p1
            | succ i => exact h4 i t fp (by simpa using hi) (by simpa using hfp)
          · rcases List.mem_append.1 hi with hi | hi
            · exact p2 i hi
            · exact h5 i hi
        · simp at h

theorem blk_nodup {own : List Nat} (hI : Inv S K w0 Kn φ hf w) (hn : own.Nodup) (ho : ∀ i ∈ own, ∃ o, hf i = some o ∧ isOwn o = true) : (own.map fun i => (φ i).blk).Nodup := by
  induction own with
  | nil => exact List.nodup_nil
  | cons a l ih =>
    rw [List.nodup_cons] at hn
    rw [List.map_cons, List.nodup_cons]
    refine ⟨fun hm => ?_, ih hn.2 fun i hi => ho i (List.mem_cons_of_mem _ hi)⟩
    obtain ⟨i, hi, e⟩ := List.mem_map.1 hm
    obtain ⟨o1, h1, h2⟩ := ho a (by simp)
    obtain ⟨o2, h3, h4⟩ := ho i (List.mem_cons_of_mem _ hi)
    exact hI.dist i a o2 o1 h3 h1 h4 h2 (fun e' => hn.1 (e' ▸ hi)) e

/-! ### in -/

def KnU (Kn : Nat → Prop) (a b : Nat) (j : Nat) : Prop := Kn j ∨ (a ≤ j ∧ j < b)

/-- an object at a block that is there -/
theorem Inv.name (h : Inv S K w0 Kn φ hf w) {i : Nat} (hi : ¬ Kn i) (l : Loc) (o : Ob) (hfree : ∀ j b, hf j = some b → isOwn b = true → isOwn o = true → (φ j).blk ≠ l.blk)
    (hro : RO S K w (fun j => Kn j ∨ j = i) (ext φ i l) l o) : Inv S K w0 (fun j => Kn j ∨ j = i) (ext φ i l) (updF [(i, some o)] hf) w := by
  refine h.step (Stp.refl _ _) (ren_ext _ hi) h.slt h.sk h.frm ?_ ?_
  · intro id o' ho
    rw [updF_cons] at ho
    by_cases e : i = id
    · subst e
      rw [if_pos rfl] at ho
      obtain rfl : o = o' := by simpa using ho
      refine .inr ⟨.inr rfl, ?_⟩
      simpa [ext] using hro
    · rw [if_neg e, updF_nil] at ho
      exact .inl ⟨ho, fun hown => ⟨rfl, ((h.obj id o' ho).2.own hown).1⟩⟩
  · intro a b oa ob ha hb hoa hob hne
    rw [updF_cons] at ha hb
    by_cases ea : i = a
    · by_cases eb : i = b
      · exact absurd (ea.symm.trans eb) hne
      · rw [if_pos ea] at ha
        obtain rfl : o = oa := by simpa using ha
        rw [if_neg eb, updF_nil] at hb
        have := hfree b ob hb hob hoa
        have e2 : ¬ b = i := fun e => eb e.symm
        simp only [ext, ea, if_true]
        rw [if_neg (fun e => eb (ea.trans e.symm))]
        exact fun e => this e.symm
    · rw [if_neg ea, updF_nil] at ha
      by_cases eb : i = b
      · rw [if_pos eb] at hb
        obtain rfl : o = ob := by simpa using hb
        have := hfree a oa ha hoa hob
        simp only [ext, eb, if_true]
        rw [if_neg (fun e => ea (eb.trans e.symm))]
        exact this
      · rw [if_neg eb, updF_nil] at hb
        have := h.dist a b oa ob ha hb hoa hob hne
        have e1 : ¬ a = i := fun e => ea e.symm
        have e2 : ¬ b = i := fun e => eb e.symm
        simpa [ext, e1, e2] using this

theorem Inv.kn {Kn' : Nat → Prop} (h : Inv S K w0 Kn φ hf w) (hs : ∀ i, Kn i → Kn' i) : Inv S K w0 Kn' φ hf w :=
  h.step (Stp.refl _ _) ⟨hs, fun _ _ => rfl⟩ h.slt h.sk h.frm (fun id o ho => .inl ⟨ho, fun hown => ⟨rfl, ((h.obj id o ho).2.own hown).1⟩⟩) h.dist

/-- what laying a tree in gives -/
structure Laid (S K : Nat → Prop) (w0 w : World) (Kn : Nat → Prop) (φ : Nat → Loc) (hf : Nat → Option Ob) (fp : List Nat) (nxt m : Nat) (u : Upd) (φ' : Nat → Loc) : Prop where
  le : nxt ≤ m
  ren : Ren Kn φ (KnU Kn nxt m) φ'
  inv : Inv S K w0 (KnU Kn nxt m) φ' (updF u hf) w
  fresh : ∀ p ∈ u, nxt ≤ p.1 ∧ p.1 < m
  blk : ∀ i, nxt ≤ i → i < m → (φ' i).blk ∈ fp

theorem ren_knu (a b : Nat) : Ren Kn φ (KnU Kn a b) φ := ⟨fun _ h => .inl h, fun _ _ => rfl⟩

theorem Laid.nil (h : Inv S K w0 Kn φ hf w) (fp : List Nat) (n : Nat) : Laid S K w0 w Kn φ hf fp n n [] φ :=
  ⟨Nat.le_refl _, ren_knu _ _, h.kn fun _ hi => .inl hi, fun p hp => by simp at hp, fun i h1 h2 => by omega⟩

theorem fnd_none {α : Type} {u : List (Nat × α)} {id : Nat} (h : ∀ p ∈ u, p.1 ≠ id) : fnd u id = none := by
  induction u with
  | nil => rfl
  | cons p r ih =>
    obtain ⟨i, x⟩ := p
    have e : (i == id) = false := by simpa using h (i, x) (by simp)
    simp only [fnd, e, cond_false]
    exact ih fun q hq => h q (by simp [hq])

/-- the live own objects keep away from these blocks -/
def Away (φ : Nat → Loc) (hf : Nat → Option Ob) (fp : List Nat) : Prop := ∀ j b, hf j = some b → isOwn b = true → (φ j).blk ∉ fp

theorem knu_knu {a b c : Nat} (h1 : a ≤ b) (h2 : b ≤ c) (j : Nat) : KnU (KnU Kn a b) b c j ↔ KnU Kn a c j := by
  unfold KnU; constructor
  · rintro ((h | h) | h)
    · exact .inl h
    · exact .inr (by omega)
    · exact .inr (by omega)
  · rintro (h | h)
    · exact .inl (.inl h)
    · by_cases e : j < b
      · exact .inl (.inr (by omega))
      · exact .inr (by omega)

theorem Inv.knEq {Kn' : Nat → Prop} (h : Inv S K w0 Kn φ hf w) (hs : ∀ i, Kn i ↔ Kn' i) : Inv S K w0 Kn' φ hf w := h.kn fun i hi => (hs i).1 hi

theorem RC.kn {Kn' : Nat → Prop} {c : C} {v : Value} (h : RC S w Kn φ c v) (hs : ∀ i, Kn i → Kn' i) : RC S w Kn' φ c v := h.mono (Stp.refl _ _) ⟨hs, fun _ _ => rfl⟩

/-- one behind the other -/
theorem Laid.comp {fa fb : List Nat} {n m k : Nat} {u v : Upd} {φ1 φ2 : Nat → Loc} (a : Laid S K w0 w Kn φ hf fa n m u φ1) (b : Laid S K w0 w (KnU Kn n m) φ1 (updF u hf) fb m k v φ2) :
    Laid S K w0 w Kn φ hf (fa ++ fb) n k (v ++ u) φ2 where
  le := Nat.le_trans a.le b.le
  ren := ⟨fun i h => .inl h, fun i h => (b.ren.same i (.inl h)).trans (a.ren.same i h)⟩
  inv := by
    rw [updF_append]
    exact b.inv.knEq fun i => knu_knu a.le b.le i
  fresh p hp := by
    have := a.le
    have := b.le
    rcases List.mem_append.1 hp with h | h
    · have := b.fresh p h; omega
    · have := a.fresh p h; omega
  blk i h1 h2 := by
    by_cases e : i < m
    · rw [b.ren.same i (.inr ⟨h1, e⟩)]
      exact List.mem_append_left _ (a.blk i h1 e)
    · exact List.mem_append_right _ (b.blk i (by omega) h2)

theorem updF_comm {u v : Upd} (h : ∀ p ∈ u, ∀ q ∈ v, p.1 ≠ q.1) : updF (u ++ v) hf = updF (v ++ u) hf := by
  funext id
  simp only [updF, fnd_append]
  cases hu : fnd u id with
  | none => cases fnd v id <;> simp
  | some x =>
    have : fnd v id = none := by
      refine fnd_none fun q hq e => ?_
      have hm : ∃ p ∈ u, p.1 = id := by
        clear h
        induction u with
        | nil => simp [fnd] at hu
        | cons p r ih =>
          obtain ⟨i, y⟩ := p
          by_cases e' : i = id
          · exact ⟨(i, y), by simp, e'⟩
          · have e2 : (i == id) = false := by simpa using e'
            simp only [fnd, e2, cond_false] at hu
            obtain ⟨p, hp, hpe⟩ := ih hu
            exact ⟨p, by simp [hp], hpe⟩
      obtain ⟨p, hp, hpe⟩ := hm
      exact h p hp q hq (hpe.trans e.symm)
    simp [this]

theorem unC_pt (nxt : Nat) (ts : List T) : unC nxt (.pt ts) = (.op nxt 0, (nxt, some (.box (unL (nxt + 1) ts).1)) :: (unL (nxt + 1) ts).2.1, (unL (nxt + 1) ts).2.2) := rfl
theorem unL_cons (nxt : Nat) (t : T) (ts : List T) : unL nxt (t :: ts) = ((unC nxt t).1 :: (unL (unC nxt t).2.2 ts).1, (unC nxt t).2.1 ++ (unL (unC nxt t).2.2 ts).2.1, (unL (unC nxt t).2.2 ts).2.2) := rfl

mutual
theorem unC_le (t : T) : ∀ nxt, nxt ≤ (unC nxt t).2.2 := by
  intro nxt
  cases t with
  | d x => exact Nat.le_refl _
  | sl sz rows => exact Nat.le_succ _
  | pt ts => rw [unC_pt]; exact Nat.le_of_succ_le (unL_le ts (nxt + 1))
theorem unL_le (ts : List T) : ∀ nxt, nxt ≤ (unL nxt ts).2.2 := by
  intro nxt
  cases ts with
  | nil => exact Nat.le_refl _
  | cons t ts => rw [unL_cons]; exact Nat.le_trans (unC_le t nxt) (unL_le ts _)
end

mutual
theorem unC_sound (t : T) : ∀ {Kn : Nat → Prop} {φ : Nat → Loc} {hf : Nat → Option Ob} (nxt : Nat) (v : Value) (fp : List Nat), Inv S K w0 Kn φ hf w → (∀ j, nxt ≤ j → j < (unC nxt t).2.2 → ¬ Kn j) →
    RT S w t v fp → fp.Nodup → (∀ b ∈ fp, ¬ S b ∧ ¬ K b) → Away φ hf fp →
    ∃ φ', Laid S K w0 w Kn φ hf fp nxt (unC nxt t).2.2 (unC nxt t).2.1 φ' ∧ RC S w (KnU Kn nxt (unC nxt t).2.2) φ' (unC nxt t).1 v := by
  intro Kn φ hf nxt v fp hI hfr hr hnd hSK haw
  cases t with
  | d x =>
    cases hr with
    | d hd => exact ⟨φ, Laid.nil hI _ _, .d hd⟩
  | sl sz rows =>
    cases hr with
    | @sl _ _ b off len cap arr hsz ho hlen hcap hext hrr =>
      have hnx : ¬ Kn nxt := hfr nxt (Nat.le_refl _) (Nat.lt_succ_self _)
      refine ⟨ext φ nxt ⟨b, off, sz, arr.size⟩, ?_, ?_⟩
      · have hin := hI.name (hnx) ⟨b, off, sz, arr.size⟩ (.arr sz rows) (fun j o hj hown _ e => haw j o hj hown (by simp [e]))
          (.arr hsz rfl (hSK b (by simp)).1 (hSK b (by simp)).2 ho rfl (by
            have : rows.length * sz ≤ cap * sz := Nat.mul_le_mul_right _ (by omega)
            simp only; omega) hrr)
        refine ⟨Nat.le_succ _, ⟨fun i h => .inl h, (ren_ext _ (hnx)).same⟩, hin.knEq fun i => ?_, fun p hp => ?_, fun i h1 h2 => ?_⟩
        · simp only [KnU, unC]
          constructor
          · rintro (h | rfl)
            · exact .inl h
            · exact .inr (by omega)
          · rintro (h | h)
            · exact .inl h
            · exact .inr (by omega)
        · obtain rfl : p = _ := by simpa [unC] using hp
          simp [unC]
        · obtain rfl : i = nxt := by simp [unC] at h2; omega
          simp [ext]
      · have e : (ext φ nxt ⟨b, off, sz, arr.size⟩) nxt = ⟨b, off, sz, arr.size⟩ := by simp [ext]
        have := RC.osl (S := S) (w := w) (Kn := KnU Kn nxt (nxt + 1)) (φ := ext φ nxt ⟨b, off, sz, arr.size⟩) (id := nxt) (off := 0) (len := rows.length) (cap := cap) (addr := off) (.inr (by omega)) (by omega) (by rw [e]; simp) (by rw [e]; simpa using hext)
        rw [e] at this
        simpa [unC, hlen] using this
  | pt ts =>
    cases hr with
    | @pt _ b arr fps ho hlen hfl h =>
      rw [List.nodup_cons] at hnd
      have hnx : ¬ Kn nxt := hfr nxt (Nat.le_refl _) (by rw [unC_pt]; exact unL_le ts (nxt + 1))
      obtain ⟨φ1, hL, hrc⟩ := unL_sound ts (Kn := Kn) (φ := φ) (hf := hf) (nxt + 1) (fun i => arr.getD i undef) fps hI (fun j hj hj2 => hfr j (by omega) (by rw [unC_pt]; exact hj2)) hfl h hnd.2
        (fun b' hb' => hSK b' (by simp [hb'])) (fun j o hj hown hm => haw j o hj hown (List.mem_cons_of_mem _ hm))
      have hm := hL.le
      have hnk : ¬ KnU Kn (nxt + 1) (unL (nxt + 1) ts).2.2 nxt := by
        rintro (h | h)
        · exact hnx h
        · omega
      refine ⟨ext φ1 nxt ⟨b, 0, 1, arr.size⟩, ?_, ?_⟩
      · have hin := hL.inv.name hnk ⟨b, 0, 1, arr.size⟩ (.box (unL (nxt + 1) ts).1) (fun j o hj hown _ e => by
            by_cases hu : ∃ p ∈ (unL (nxt + 1) ts).2.1, p.1 = j
            · obtain ⟨p, hp, rfl⟩ := hu
              obtain ⟨h1, h2⟩ := hL.fresh p hp
              have hm := hL.blk p.1 h1 h2
              rw [e] at hm
              exact hnd.1 hm
            · have hfn : fnd (unL (nxt + 1) ts).2.1 j = none := fnd_none fun p hp e => hu ⟨p, hp, e⟩
              simp only [updF, hfn] at hj
              have hk := (hI.obj j o hj).1
              rw [hL.ren.same j hk] at e
              exact haw j o hj hown (by simp [e]))
          (.box rfl (hSK b (by simp)).1 (hSK b (by simp)).2 ho (hrc.1.trans hlen) fun i c hi => (hrc.2 i c hi).mono (Stp.refl _ _) (ren_ext _ hnk))
        refine ⟨?_, ⟨fun i h => .inl h, fun i hi => ?_⟩, ?_, fun p hp => ?_, fun i h1 h2 => ?_⟩
        · simp only [unC_pt]; exact Nat.le_of_succ_le hm
        · have : i ≠ nxt := fun e => hnx (e ▸ hi)
          simp only [ext, this, if_false]
          exact hL.ren.same i hi
        · have e : updF (unC nxt (.pt ts)).2.1 hf = updF [(nxt, some (.box (unL (nxt + 1) ts).1))] (updF (unL (nxt + 1) ts).2.1 hf) := by
            rw [← updF_append]; rfl
          rw [e]
          refine hin.knEq fun i => ?_
          simp only [KnU, unC_pt]
          constructor
          · rintro ((h | h) | rfl)
            · exact .inl h
            · exact .inr (by omega)
            · exact .inr (by omega)
          · rintro (h | h)
            · exact .inl (.inl h)
            · by_cases e : i = nxt
              · exact .inr e
              · exact .inl (.inr (by omega))
        · simp only [unC_pt] at hp ⊢
          rcases List.mem_cons.1 hp with rfl | hp
          · simp only; omega
          · have := hL.fresh p hp; omega
        · simp only [unC_pt] at h2
          by_cases e : i = nxt
          · simp [ext, e]
          · simp only [ext, e, if_false]
            exact List.mem_cons_of_mem _ (hL.blk i (by omega) h2)
      · have := RC.op (S := S) (w := w) (Kn := KnU Kn nxt (unL (nxt + 1) ts).2.2) (φ := ext φ1 nxt ⟨b, 0, 1, arr.size⟩) (id := nxt) (off := 0) (.inr (by omega))
        simpa [unC_pt, ext] using this
theorem unL_sound (ts : List T) : ∀ {Kn : Nat → Prop} {φ : Nat → Loc} {hf : Nat → Option Ob} (nxt : Nat) (get : Nat → Value) (fps : List (List Nat)), Inv S K w0 Kn φ hf w → (∀ j, nxt ≤ j → j < (unL nxt ts).2.2 → ¬ Kn j) →
    fps.length = ts.length → (∀ (i : Nat) (t : T) (fp : List Nat), ts[i]? = some t → fps[i]? = some fp → RT S w t (get i) fp) → fps.flatten.Nodup → (∀ b ∈ fps.flatten, ¬ S b ∧ ¬ K b) → Away φ hf fps.flatten →
    ∃ φ', Laid S K w0 w Kn φ hf fps.flatten nxt (unL nxt ts).2.2 (unL nxt ts).2.1 φ' ∧ (unL nxt ts).1.length = ts.length ∧
      ∀ (i : Nat) (c : C), (unL nxt ts).1[i]? = some c → RC S w (KnU Kn nxt (unL nxt ts).2.2) φ' c (get i) := by
  intro Kn φ hf nxt get fps hI hfr hfl hr hnd hSK haw
  cases ts with
  | nil => exact ⟨φ, Laid.nil hI _ _, rfl, fun i c hi => by simp [unL] at hi⟩
  | cons t ts =>
    cases fps with
    | nil => simp at hfl
    | cons fp fps =>
      rw [List.flatten_cons, List.nodup_append] at hnd
      obtain ⟨hn1, hn2, hn3⟩ := hnd
      simp only [List.flatten_cons, List.mem_append] at hSK
      obtain ⟨φ1, hL1, hc1⟩ := unC_sound t (Kn := Kn) (φ := φ) (hf := hf) nxt (get 0) fp hI (fun j hj hj2 => hfr j hj (by rw [unL_cons]; exact Nat.lt_of_lt_of_le hj2 (unL_le ts _))) (hr 0 t fp rfl rfl) hn1 (fun b hb => hSK b (.inl hb))
        (fun j o hj hown hm => haw j o hj hown (by simp [hm]))
      obtain ⟨φ2, hL2, hlen, hc2⟩ := unL_sound ts (Kn := KnU Kn nxt (unC nxt t).2.2) (φ := φ1) (hf := updF (unC nxt t).2.1 hf) (unC nxt t).2.2 (fun i => get (i + 1)) fps hL1.inv
        (fun j hj hj2 hk => by
          rcases hk with hk | hk
          · have := hL1.le; exact hfr j (by omega) (by rw [unL_cons]; exact hj2) hk
          · omega) (by simpa using hfl) (fun i t fp hi hfp => hr (i + 1) t fp (by simpa using hi) (by simpa using hfp)) hn2 (fun b hb => hSK b (.inr hb))
        (fun j o hj hown hm => by
          by_cases hu : ∃ p ∈ (unC nxt t).2.1, p.1 = j
          · obtain ⟨p, hp, rfl⟩ := hu
            obtain ⟨h1, h2⟩ := hL1.fresh p hp
            exact hn3 _ (hL1.blk p.1 h1 h2) _ hm rfl
          · have hfn : fnd (unC nxt t).2.1 j = none := fnd_none fun p hp e => hu ⟨p, hp, e⟩
            simp only [updF, hfn] at hj
            have hk := (hI.obj j o hj).1
            rw [hL1.ren.same j hk] at hm
            exact haw j o hj hown (by simp [hm]))
      have hcomp := hL1.comp hL2
      have hcm : updF ((unL (unC nxt t).2.2 ts).2.1 ++ (unC nxt t).2.1) hf = updF ((unC nxt t).2.1 ++ (unL (unC nxt t).2.2 ts).2.1) hf :=
        updF_comm fun p hp q hq e => by
          have h1 := hL2.fresh p hp
          have h2 := hL1.fresh q hq
          omega
      refine ⟨φ2, ?_, by simp [unL_cons, hlen], fun i c hi => ?_⟩
      · simp only [unL_cons, List.flatten_cons]
        refine ⟨hcomp.le, hcomp.ren, hcm ▸ hcomp.inv, fun p hp => hcomp.fresh p ?_, hcomp.blk⟩
        rcases List.mem_append.1 hp with h | h
        · exact List.mem_append_right _ h
        · exact List.mem_append_left _ h
      · have hsub : ∀ i, KnU (KnU Kn nxt (unC nxt t).2.2) (unC nxt t).2.2 (unL (unC nxt t).2.2 ts).2.2 i → KnU Kn nxt (unL (unC nxt t).2.2 ts).2.2 i := fun i => (knu_knu hL1.le hL2.le i).1
        cases i with
        | zero =>
          obtain rfl : (unC nxt t).1 = c := by simpa [unL] using hi
          exact (hc1.mono (Stp.refl _ _) hL2.ren).kn hsub
        | succ i => exact (hc2 i c (by simpa [unL_cons] using hi)).kn hsub
end

end
end Go.Ev
