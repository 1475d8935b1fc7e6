/- How runs are put together: rules for code, regions, calls, weaker states. Conditions: as stated. -/
import Derived.Test.YtjfhiochcdjkhaaEvV
namespace Go.Ev

section
variable {P : Program} {s s' : St} {e : Env} {h : Heap} {n : Nat} {gh : List C}

/-! ### weaker states -/

theorem Sub.canon (s : St) (ids : List Nat) (hn : ids.Nodup) (keep : List Nat) : Sub s (canonWith ids (keepEnv s.env keep) s) :=
  fun S _ _ _ _ _ _ _ w hR => ⟨S, _, _, Stp.refl S w, canon_sound hR keep ids hn⟩

theorem Sub.ren (ids keep : List Nat) {s s1 : St} (hn : ids.Nodup) (he : canonWith ids (keepEnv s.env keep) s = s1) : Sub s s1 := he ▸ Sub.canon s ids hn keep

theorem Sub.heap {h' : Heap} {n' : Nat} (hh : ∀ id, look h' id = look h id ∨ look h' id = none) (hn : n ≤ n') : Sub ⟨e, h, n, gh⟩ ⟨e, h', n', gh⟩ := by
  intro S K w0 Kn φ gv nt a w hR
  refine ⟨S, Kn, φ, Stp.refl S w, ⟨hR.inv.slt, hR.inv.sk, hR.inv.frm, fun id o ho => ?_, fun i j x y hi hj => ?_, hR.inv.glob⟩, hR.env, hR.size, hR.defers, fun j hj => hR.fresh j (Nat.le_trans hn hj), hR.gh⟩
  · rcases hh id with q | q
    · exact hR.inv.obj id o (q ▸ ho)
    · rw [q] at ho; simp at ho
  · rcases hh i with q | q
    · rcases hh j with q2 | q2
      · exact hR.inv.dist i j x y (q ▸ hi) (q2 ▸ hj)
      · rw [q2] at hj; simp at hj
    · rw [q] at hi; simp at hi

/-- a part of a slice, under a name of its own -/
theorem sub_cut {t id sz szo off len : Nat} {rows rows' : List (List D)} (ht : fnd e t = some (.c (.osl sz id off len))) (ho : look h id = some (.arr szo rows)) (hr : (rows.drop off).take len = rows') (hle : off + len ≤ rows.length) :
    Sub ⟨e, h, n, gh⟩ ⟨(t, .c (.osl sz n 0 len)) :: e, (id, none) :: (n, some (.arr sz rows')) :: h, n + 1, gh⟩ := by
  intro S K w0 Kn φ gv nt a w hR
  have hn : ¬ Kn n := hR.fresh n (Nat.le_refl _)
  have hI := hR.inv
  obtain ⟨hk0, h0⟩ := hI.obj _ _ ho
  have hne : id ≠ n := fun e => hn (e ▸ hk0)
  have hv := hR.env t _ ht
  generalize hval : a.tmps.getD t undef = val at hv
  cases hv with
  | c hv =>
  have hkill : Inv S K w0 Kn φ (updF [(id, none)] (look h)) w := hI.kill fun i o ho => by
    rw [updF_cons] at ho
    split at ho
    · simp at ho
    · exact ho
  have hfree : ∀ i o, updF [(id, none)] (look h) i = some o → isOwn o = true → (φ i).blk ≠ (φ id).blk := by
    intro i o hi hown
    rw [updF_cons] at hi
    split at hi
    · simp at hi
    · rename_i hne2
      exact hI.dist i id o _ hi ho hown rfl (fun e => hne2 e.symm)
  generalize hphi : φ id = l at *
  cases h0 with
  | @arr _ _ arr hsz0 hl hS hK hown hext hfit hrr =>
  obtain ⟨cap, addr, rfl, hszl, hk, hcap, haddr, hextc⟩ := hv.osl_inv
  rw [hphi] at haddr hextc hszl
  obtain rfl : sz = szo := by rw [← hl, hszl]
  rw [hl] at haddr hextc
  subst hr
  have hlen : ((rows.drop off).take len).length = len := by simp; omega
  have hcm : len * sz ≤ cap * sz := Nat.mul_le_mul_right _ hcap
  have hR2 : RowsAt S w sz (fun i => arr[i]?) addr ((rows.drop off).take len) := hrr.sub' off len fun h => haddr (by omega)
  have hname := hkill.name hn ⟨l.blk, addr, sz, l.ext⟩ (.arr sz ((rows.drop off).take len)) (fun j b hj hb _ => hfree j b hj hb)
    (.arr hsz0 rfl hS hK hown hext (by rw [hlen]; simp only; omega) hR2)
  have hren : Ren Kn φ (fun j => Kn j ∨ j = n) (ext φ n ⟨l.blk, addr, sz, l.ext⟩) := ren_ext _ hn
  refine ⟨S, fun j => Kn j ∨ j = n, ext φ n ⟨l.blk, addr, sz, l.ext⟩, Stp.refl S w, ⟨?_, ?_, hR.size, hR.defers, ?_, ?_⟩⟩
  · have : look ((id, none) :: (n, some (.arr sz ((rows.drop off).take len))) :: h) = updF [(n, some (.arr sz ((rows.drop off).take len)))] (updF [(id, none)] (look h)) := by
      have e1 : look ((id, none) :: (n, some (Ob.arr sz ((rows.drop off).take len))) :: h) = updF ([(id, none)] ++ [(n, some (.arr sz ((rows.drop off).take len)))]) (look h) := look_append [(id, none), (n, some (.arr sz ((rows.drop off).take len)))] h
      rw [e1, ← updF_append]
      exact updF_comm (u := [(id, none)]) fun p hp q hq => by
        obtain rfl := List.mem_singleton.1 hp
        obtain rfl := List.mem_singleton.1 hq
        exact hne
    rw [this]
    exact hname
  · intro t' x hx
    simp only [fnd] at hx
    by_cases et : t = t'
    · subst et
      simp at hx
      subst hx
      rw [hval]
      have e : ext φ n ⟨l.blk, addr, sz, l.ext⟩ n = ⟨l.blk, addr, sz, l.ext⟩ := by simp [ext]
      have := RC.osl (S := S) (w := w) (Kn := fun j => Kn j ∨ j = n) (φ := ext φ n ⟨l.blk, addr, sz, l.ext⟩) (id := n) (off := 0) (len := len) (cap := cap) (addr := addr)
        (.inr rfl) hcap (by rw [e]; simp) (by rw [e]; exact hextc)
      rw [e] at this
      rw [hphi]
      exact .c this
    · have e' : (t == t') = false := by simpa using et
      rw [e', cond_false] at hx
      exact (hR.env t' x hx).mono (Stp.refl _ _) hren
  · intro j hj hk
    simp only at hj
    rcases hk with hk | hk
    · exact hR.fresh j (by simp only; omega) hk
    · omega
  · intro i c v hc hv
    exact (hR.gh i c v hc hv).mono (Stp.refl _ _) hren

theorem wk.sub {Q : St → Prop} (hs : Sub s s') (h : wk Q s') : wk Q s := let ⟨s1, h1, h2⟩ := h; ⟨s1, hs.trans h1, h2⟩
theorem wk.mono {Q Q' : St → Prop} (h : wk Q s) (hq : ∀ s, Q s → Q' s) : wk Q' s := let ⟨s1, h1, h2⟩ := h; ⟨s1, h1, hq _ h2⟩

theorem WO.mono {Q Q' : St → Prop} (hq : ∀ s, Q s → Q' s) : ∀ {ops : List COp} {s : St}, WO P ops s Q → WO P ops s Q' := by
  intro ops
  induction ops with
  | nil => intro s h; exact wk.mono h hq
  | cons o r ih =>
    intro s h
    obtain ⟨s1, h1, h⟩ := h
    refine ⟨s1, h1, ?_⟩
    rcases h with ⟨hw, call, v, u, ids, n, hok, hev, h⟩ | ⟨hw, h⟩
    · exact .inl ⟨hw, call, v, u, ids, n, hok, hev, ih h⟩
    · exact .inr ⟨hw, ih h⟩

theorem WO.sub {Q : St → Prop} {ops : List COp} (hs : Sub s s') (h : WO P ops s' Q) : WO P ops s Q := by
  cases ops with
  | nil => exact wk.sub hs h
  | cons o r => obtain ⟨s1, h1, h⟩ := h; exact ⟨s1, hs.trans h1, h⟩

theorem After.mono {R R' : St → Prop} {Q Q' : Out → St → Prop} (hr : ∀ s, R s → R' s) (hq : ∀ o s, Q o s → Q' o s) : ∀ o s, After R Q o s → After R' Q' o s := by
  intro o s h
  cases o with
  | normal => exact hr _ h
  | exit id => exact hq _ _ h
  | ret => exact hq _ _ h

theorem OutOf.mono {id : Nat} {Q Q' : Out → St → Prop} (hq : ∀ o s, Q o s → Q' o s) : ∀ o s, OutOf id Q o s → OutOf id Q' o s := by
  intro o s h
  cases o with
  | normal => exact hq _ _ h
  | ret => exact hq _ _ h
  | exit id' =>
    simp only [OutOf] at h ⊢
    split at h
    · rw [if_pos (by assumption)]; exact hq _ _ h
    · rw [if_neg (by assumption)]; exact hq _ _ h

theorem W.mono : ∀ {c : CC} {s : St} {Q Q' : Out → St → Prop}, (∀ o s, Q o s → Q' o s) → W P c s Q → W P c s Q' := by
  intro c
  induction c with
  | seq a b iha ihb => intro s Q Q' hq h; exact iha (After.mono (fun s h => ihb hq h) hq) h
  | cond c a b iha ihb => intro s Q Q' hq h; obtain ⟨s1, h0, t, h1, h2, h3⟩ := h; exact ⟨s1, h0, t, h1, fun ht => iha hq (h2 ht), fun ht => ihb hq (h3 ht)⟩
  | block id a ih => intro s Q Q' hq h; exact ih (OutOf.mono hq) h
  | loop keep a ih => intro s Q Q' hq h; obtain ⟨I, n, h1, h2⟩ := h; exact ⟨I, n, h1, fun n s hi => ih (After.mono (fun s h => h) hq) (h2 n s hi)⟩
  | skip => intro s Q Q' hq h; exact wk.mono h fun s h => hq _ _ h
  | exit id => intro s Q Q' hq h; exact wk.mono h fun s h => hq _ _ h
  | ret => intro s Q Q' hq h; exact wk.mono h fun s h => hq _ _ h
  | region ops keep => intro s Q Q' hq h; exact WO.mono (fun s h => h.mono fun s h => hq _ _ h) h
  | drawn ops dyn keep => intro s Q Q' hq h; obtain ⟨s1, h0, calls, e, hh, tr, h1, h2, h3, h4⟩ := h; exact ⟨s1, h0, calls, e, hh, tr, h1, h2, h3, h4.mono fun s h => hq _ _ h⟩
  | bad => intro s Q Q' hq h; exact h

theorem W.sub : ∀ {c : CC} {s s' : St} {Q : Out → St → Prop}, Sub s s' → W P c s' Q → W P c s Q := by
  intro c
  induction c with
  | seq a b iha ihb => intro s s' Q hs h; exact iha hs h
  | cond c a b iha ihb => intro s s' Q hs h; obtain ⟨s1, h0, h1⟩ := h; exact ⟨s1, hs.trans h0, h1⟩
  | block id a ih => intro s s' Q hs h; exact ih hs h
  | loop keep a ih => intro s s' Q hs h; obtain ⟨I, n, h1, h2⟩ := h; exact ⟨I, n, wk.sub hs h1, h2⟩
  | skip => intro s s' Q hs h; exact wk.sub hs h
  | exit id => intro s s' Q hs h; exact wk.sub hs h
  | ret => intro s s' Q hs h; exact wk.sub hs h
  | region ops keep => intro s s' Q hs h; exact WO.sub hs h
  | drawn ops dyn keep => intro s s' Q hs h; obtain ⟨s1, h0, h1⟩ := h; exact ⟨s1, hs.trans h0, h1⟩
  | bad => intro s s' Q hs h; exact h

/-! ### code -/
section
variable {Q : Out → St → Prop}

theorem w_skip (h : Q .normal s) : W P .skip s Q := wk.of h
theorem w_exit {id : Nat} (h : Q (.exit id) s) : W P (.exit id) s Q := wk.of h
theorem w_ret (h : Q .ret s) : W P .ret s Q := wk.of h
theorem w_seq {a b : CC} (h : W P a s (After (fun s' => W P b s' Q) Q)) : W P (.seq a b) s Q := h
theorem w_block {id : Nat} {a : CC} (h : W P a s (OutOf id Q)) : W P (.block id a) s Q := h
theorem w_cond {c : Operand} {a b : CC} {t : Bool} (hc : opv s.env c = some (.c (.d (.lit (.bool t))))) (h1 : t = true → W P a s Q) (h2 : t = false → W P b s Q) : W P (.cond c a b) s Q := ⟨s, Sub.refl s, t, hc, h1, h2⟩
theorem w_true {c : Operand} {a b : CC} {t : Bool} (hc : opv s.env c = some (.c (.d (.lit (.bool t))))) (ht : t = true) (h1 : W P a s Q) : W P (.cond c a b) s Q := w_cond hc (fun _ => h1) fun h => by rw [ht] at h; cases h
theorem w_false {c : Operand} {a b : CC} {t : Bool} (hc : opv s.env c = some (.c (.d (.lit (.bool t))))) (ht : t = false) (h1 : W P b s Q) : W P (.cond c a b) s Q := w_cond hc (fun h => by rw [ht] at h; cases h) fun _ => h1
theorem w_region {ops : List COp} {keep : List Nat} (h : WO P ops s fun s' => wk (Q .normal) { s' with env := keepEnv s'.env keep }) : W P (.region ops keep) s Q := h
theorem o_nil {Q : St → Prop} (h : Q s) : WO P [] s Q := wk.of h
/-- the end of a region -/
theorem o_end {keep : List Nat} {e' : Env} {h' : Heap} (he : keepEnv e keep = e') (hh : h = h') (h1 : Q .normal ⟨e', h', n, gh⟩) : WO P [] ⟨e, h, n, gh⟩ fun s' => wk (Q .normal) { s' with env := keepEnv s'.env keep } := by
  subst he; subst hh; exact wk.of (wk.of h1)
theorem o_end_sub {keep : List Nat} {s' : St} (he : Sub ⟨keepEnv e keep, h, n, gh⟩ s') (h1 : Q .normal s') : WO P [] ⟨e, h, n, gh⟩ fun s' => wk (Q .normal) { s' with env := keepEnv s'.env keep } :=
  wk.of ⟨s', he, h1⟩
end

/-! ### a loop, and what it computes -/

/-- rounds, until there is an end -/
def rounds {α β : Type} (f : α → Option (α ⊕ β)) : Nat → α → Option β
  | 0, _ => none
  | n + 1, a => match f a with
    | some (.inl a') => rounds f n a'
    | some (.inr b) => some b
    | none => none

theorem rounds_mono {α β : Type} {f : α → Option (α ⊕ β)} : ∀ {n m : Nat} {a : α} {b : β}, n ≤ m → rounds f n a = some b → rounds f m a = some b := by
  intro n
  induction n with
  | zero => intro m a b _ h; simp [rounds] at h
  | succ n ih =>
    intro m a b hm h
    cases m with
    | zero => omega
    | succ m =>
      simp only [rounds] at h ⊢
      split at h
      · exact ih (by omega) h
      · exact h
      · simp at h

open Classical in
noncomputable def loopO {α β : Type} (f : α → Option (α ⊕ β)) (a : α) : Option β :=
  if h : ∃ n b, rounds f n a = some b then some (Classical.choose (Classical.choose_spec h)) else none

theorem loopO_rounds {α β : Type} {f : α → Option (α ⊕ β)} {a : α} {b : β} : loopO f a = some b ↔ ∃ n, rounds f n a = some b := by
  constructor
  · intro h
    unfold loopO at h
    split at h
    · rename_i hx
      refine ⟨Classical.choose hx, ?_⟩
      rw [Classical.choose_spec (Classical.choose_spec hx)]
      exact h
    · simp at h
  · rintro ⟨n, hn⟩
    have hx : ∃ n b, rounds f n a = some b := ⟨n, b, hn⟩
    unfold loopO
    rw [dif_pos hx]
    have h2 := Classical.choose_spec (Classical.choose_spec hx)
    have h3 := rounds_mono (Nat.le_max_left n (Classical.choose hx)) hn
    have h4 := rounds_mono (Nat.le_max_right n (Classical.choose hx)) h2
    rw [h3] at h4
    rw [← h4]

theorem loopO_eq {α β : Type} (f : α → Option (α ⊕ β)) (a : α) : loopO f a = match f a with
    | some (.inl a') => loopO f a'
    | some (.inr b) => some b
    | none => none := by
  apply Option.ext
  intro b
  rw [loopO_rounds]
  constructor
  · rintro ⟨n, hn⟩
    cases n with
    | zero => simp [rounds] at hn
    | succ n =>
      simp only [rounds] at hn
      split at hn
      · exact loopO_rounds.2 ⟨n, hn⟩
      · exact hn
      · simp at hn
  · intro h
    split at h
    · rename_i a' ha
      obtain ⟨n, hn⟩ := loopO_rounds.1 h
      exact ⟨n + 1, by simp only [rounds, ha]; exact hn⟩
    · rename_i b' ha
      exact ⟨1, by simp only [rounds, ha]; exact h⟩
    · simp at h

theorem loopO_inl {α β : Type} {f : α → Option (α ⊕ β)} {a a' : α} (h : f a = some (.inl a')) : loopO f a = loopO f a' := by rw [loopO_eq, h]
theorem loopO_inr {α β : Type} {f : α → Option (α ⊕ β)} {a : α} {b : β} (h : f a = some (.inr b)) : loopO f a = some b := by rw [loopO_eq, h]

/-- one round's end -/
def Round {α β : Type} (st : α → St) (Q : β → Out → St → Prop) : α ⊕ β → Out → St → Prop
  | .inl a, o, s => o = .normal ∧ Sub s (st a)
  | .inr b, o, s => o ≠ .normal ∧ Q b o s

theorem w_loop {α β : Type} {keep : List Nat} {c : CC} {st : α → St} {f : α → Option (α ⊕ β)} {a : α} {b : β} {Q : β → Out → St → Prop} (h : loopO f a = some b)
    (hb : ∀ a r, f a = some r → W P c (st a) (Round st Q r)) : W P (.loop keep c) (st a) (Q b) := by
  obtain ⟨n, hn⟩ := loopO_rounds.1 h
  refine ⟨fun n s => ∃ a, s = st a ∧ rounds f n a = some b, n, wk.of ⟨a, rfl, hn⟩, ?_⟩
  rintro m s ⟨a, rfl, hm⟩
  cases m with
  | zero => simp [rounds] at hm
  | succ m =>
    simp only [rounds] at hm
    split at hm
    · rename_i a' ha
      refine W.mono (fun o s hr => ?_) (hb a _ ha)
      obtain ⟨rfl, hs⟩ := hr
      exact ⟨m, Nat.lt_succ_self m, _, hs, a', rfl, hm⟩
    · rename_i b' ha
      obtain rfl := Option.some.inj hm
      refine W.mono (fun o s hr => ?_) (hb a _ ha)
      cases o with
      | normal => exact absurd rfl hr.1
      | exit id => exact hr.2
      | ret => exact hr.2
    · simp at hm

theorem w_loopS {α β : Type} {keep : List Nat} {c : CC} {st : α → St} {f : α → Option (α ⊕ β)} {a : α} {b : β} {Q : β → Out → St → Prop} (hs : Sub s (st a)) (h : loopO f a = some b)
    (hb : ∀ a r, f a = some r → W P c (st a) (Round st Q r)) : W P (.loop keep c) s (Q b) := W.sub hs (w_loop h hb)

/-! ### steps of a region -/

def noCall : Ev.Call := fun _ _ => none
theorem noCall_ok : CallOk P noCall := fun _ _ _ _ h => by simp [noCall] at h

section
variable {Q : St → Prop} {r : List COp} {d : Nat} {k : K} {args : List Operand} {v : TV} {u : Upd} {ids : List Nat} {m g : Nat} {b c : Bool}

theorem wants_of {e : Env} (hg : fnd e g = some (.c (.d (.lit (.bool c))))) (hc : c = b) : wants e (some (g, b)) = some true := by
  simp only [wants, hg]; subst hc; cases c <;> rfl
theorem wants_not {e : Env} (hg : fnd e g = some (.c (.d (.lit (.bool c))))) (hc : c = !b) : wants e (some (g, b)) = some false := by
  simp only [wants, hg]; subst hc; cases b <;> rfl

theorem o1 (h1 : ev1 noCall k (args.map (opv e)) h n = some (v, [], ids, n)) (hq : WO P r ⟨(d, v) :: e, h, n, gh⟩ Q) : WO P (⟨some d, k, args, none⟩ :: r) ⟨e, h, n, gh⟩ Q :=
  ⟨_, Sub.refl _, .inl ⟨rfl, noCall, v, [], ids, n, noCall_ok, h1, hq⟩⟩
theorem o2 (h1 : ev1 noCall k (args.map (opv e)) h n = some (v, u, ids, m)) (hq : WO P r ⟨(d, v) :: e, u ++ h, m, gh⟩ Q) : WO P (⟨some d, k, args, none⟩ :: r) ⟨e, h, n, gh⟩ Q :=
  ⟨_, Sub.refl _, .inl ⟨rfl, noCall, v, u, ids, m, noCall_ok, h1, hq⟩⟩
theorem o0 (h1 : ev1 noCall k (args.map (opv e)) h n = some (v, u, ids, m)) (hq : WO P r ⟨e, u ++ h, m, gh⟩ Q) : WO P (⟨none, k, args, none⟩ :: r) ⟨e, h, n, gh⟩ Q :=
  ⟨_, Sub.refl _, .inl ⟨rfl, noCall, v, u, ids, m, noCall_ok, h1, hq⟩⟩
theorem og (hg : fnd e g = some (.c (.d (.lit (.bool c))))) (hc : c = b) (h1 : ev1 noCall k (args.map (opv e)) h n = some (v, [], ids, n)) (hq : WO P r ⟨(d, v) :: e, h, n, gh⟩ Q) : WO P (⟨some d, k, args, some (g, b)⟩ :: r) ⟨e, h, n, gh⟩ Q :=
  ⟨_, Sub.refl _, .inl ⟨wants_of hg hc, noCall, v, [], ids, n, noCall_ok, h1, hq⟩⟩
theorem og2 (hg : fnd e g = some (.c (.d (.lit (.bool c))))) (hc : c = b) (h1 : ev1 noCall k (args.map (opv e)) h n = some (v, u, ids, m)) (hq : WO P r ⟨(d, v) :: e, u ++ h, m, gh⟩ Q) : WO P (⟨some d, k, args, some (g, b)⟩ :: r) ⟨e, h, n, gh⟩ Q :=
  ⟨_, Sub.refl _, .inl ⟨wants_of hg hc, noCall, v, u, ids, m, noCall_ok, h1, hq⟩⟩
theorem og0 (hg : fnd e g = some (.c (.d (.lit (.bool c))))) (hc : c = b) (h1 : ev1 noCall k (args.map (opv e)) h n = some (v, u, ids, m)) (hq : WO P r ⟨e, u ++ h, m, gh⟩ Q) : WO P (⟨none, k, args, some (g, b)⟩ :: r) ⟨e, h, n, gh⟩ Q :=
  ⟨_, Sub.refl _, .inl ⟨wants_of hg hc, noCall, v, u, ids, m, noCall_ok, h1, hq⟩⟩
theorem onil {dd : Option Nat} (hg : fnd e g = some (.tup [])) (hq : WO P r ⟨drop e dd, h, n, gh⟩ Q) : WO P (⟨dd, k, args, some (g, b)⟩ :: r) ⟨e, h, n, gh⟩ Q :=
  ⟨_, Sub.refl _, .inr ⟨by simp only [wants, hg], hq⟩⟩
theorem onot {dd : Option Nat} (hg : fnd e g = some (.c (.d (.lit (.bool c))))) (hc : c = !b) (hq : WO P r ⟨drop e dd, h, n, gh⟩ Q) : WO P (⟨dd, k, args, some (g, b)⟩ :: r) ⟨e, h, n, gh⟩ Q :=
  ⟨_, Sub.refl _, .inr ⟨wants_not hg hc, hq⟩⟩

/-! ### a call -/

/-- the function and what it has captured -/
def fnOf : Option TV → Option (FuncId × List C)
  | some (.c (.d (.fn f caps))) => some (f, caps.map C.d)
  | some (.c (.ofn f caps)) => some (f, caps)
  | _ => none

/-- what is called, with what -/
def callee (h : Heap) (muts : List Bool) : List (Option TV) → Option (FuncId × List A)
  | f :: vs =>
    match fnOf f, allSome vs with
    | some (f, caps), some vs => match evArgs h (vs ++ caps.map TV.c) muts with | some (as, _, _) => some (f, as) | none => none
    | _, _ => none
  | [] => none

/-- what the answer leaves -/
def landed (h : Heap) (nxt : Nat) (ro : Bool) (ids : List Nat) (lent : List (C × List Nat × List Nat)) : Option (List R × List T) → Res1
  | none => none
  | some (rs, outs) =>
    if ro then
      if rs.all litR ∧ lent.isEmpty ∧ outs.isEmpty then
        some (retV (unRs nxt rs).1, (unRs nxt rs).2.1, ids, (unRs nxt rs).2.2)
      else none
    else
      match freezeIds h ids ids with
      | none => none
      | some fu =>
        match evBack nxt lent outs with
        | none => none
        | some (bu, m) => some (retV (unRs m rs).1, (unRs m rs).2.1 ++ bu ++ fu, ids ++ lent.flatMap (·.2.2), (unRs m rs).2.2)

theorem evCall_eq (call : Ev.Call) (ro : Bool) (muts : List Bool) (fv : Option TV) (vs : List (Option TV)) (h : Heap) (nxt : Nat) :
    evCall call ro muts fv vs h nxt = match fnOf fv, allSome vs with
      | some (f, caps), some vs =>
        match evArgs h (vs ++ caps.map TV.c) muts with
        | none => none
        | some (as, ids, lent) =>
          if wholeLent h lent ∧ (lent.flatMap (fun (p : C × List Nat × List Nat) => p.2.1)).Nodup ∧ (lent.flatMap (fun (p : C × List Nat × List Nat) => p.2.1)).all (fun i => !ids.contains i) then landed h nxt ro ids lent (call f as) else none
      | _, _ => none := by
  have e1 : ∀ (o : Option (List R × List T)) (ids : List Nat) (lent : List (C × List Nat × List Nat)), (match o with
        | none => none
        | some (rs, outs) =>
          if ro then
            if rs.all litR ∧ lent.isEmpty ∧ outs.isEmpty then
              let (vs, u, m) := unRs nxt rs
              some (retV vs, u, ids, m)
            else none
          else
            match freezeIds h ids ids with
            | none => none
            | some fu =>
              match evBack nxt lent outs with
              | none => none
              | some (bu, m) =>
                let (vs, u, k) := unRs m rs
                some (retV vs, u ++ bu ++ fu, ids ++ lent.flatMap (fun (p : C × List Nat × List Nat) => p.2.2), k)) = landed h nxt ro ids lent o := by
    intro o ids lent
    cases o with
    | none => rfl
    | some p => rfl
  have e2 : (match fv with | some (.c (.d (.fn f caps))) => some (f, caps.map C.d) | some (.c (.ofn f caps)) => some (f, caps) | _ => none) = fnOf fv := rfl
  show (match (match fv with | some (.c (.d (.fn f caps))) => some (f, caps.map C.d) | some (.c (.ofn f caps)) => some (f, caps) | _ => none), allSome vs with
      | some (f, caps), some vs =>
        match evArgs h (vs ++ caps.map TV.c) muts with
        | none => none
        | some (as, ids, lent) =>
          if wholeLent h lent ∧ (lent.flatMap (fun (p : C × List Nat × List Nat) => p.2.1)).Nodup ∧ (lent.flatMap (fun (p : C × List Nat × List Nat) => p.2.1)).all (fun i => !ids.contains i) then
            (match call f as with
        | none => none
        | some (rs, outs) =>
          if ro then
            if rs.all litR ∧ lent.isEmpty ∧ outs.isEmpty then
              let (vs, u, m) := unRs nxt rs
              some (retV vs, u, ids, m)
            else none
          else
            match freezeIds h ids ids with
            | none => none
            | some fu =>
              match evBack nxt lent outs with
              | none => none
              | some (bu, m) =>
                let (vs, u, k) := unRs m rs
                some (retV vs, u ++ bu ++ fu, ids ++ lent.flatMap (fun (p : C × List Nat × List Nat) => p.2.2), k)) else none
      | _, _ => none) = _
  simp only [e1, e2]

open Classical in
noncomputable def only (f : FuncId) (as : List A) (rs : List R) (outs : List T) : Ev.Call := fun f' as' => if f' = f ∧ as' = as then some (rs, outs) else none

theorem only_ok {f : FuncId} {as : List A} {rs : List R} {outs : List T} (hg : Good P f as rs outs) : CallOk P (only f as rs outs) := by
  intro f' as' rs' outs' h
  unfold only at h
  split at h
  · rename_i he
    obtain ⟨rfl, rfl⟩ := he
    obtain ⟨rfl, rfl⟩ := Prod.mk.inj (Option.some.inj h)
    exact hg
  · simp at h

theorem call_only {f : FuncId} {as : List A} {rs : List R} {outs : List T} {ro : Bool} {muts : List Bool} {vs : List (Option TV)} {x : TV × Upd × List Nat × Nat}
    (h2 : callee h muts vs = some (f, as)) (h1 : ev1 (fun _ _ => some (rs, outs)) (.call ro muts) vs h n = some x) : ev1 (only f as rs outs) (.call ro muts) vs h n = some x := by
  cases vs with
  | nil => simp [callee] at h2
  | cons fv vs =>
    simp only [callee] at h2
    simp only [ev1, evCall_eq] at h1 ⊢
    split at h2
    · rename_i f' caps vs' hf hvs
      simp only [hf, hvs] at h1 ⊢
      split at h2
      · rename_i as' ids lent hargs
        obtain ⟨rfl, rfl⟩ := Prod.mk.inj (Option.some.inj h2)
        rw [hargs] at h1 ⊢
        simp only [only, and_self, if_true] at h1 ⊢
        exact h1
      · simp at h2
    · simp at h2

/-- a call, its arguments apart -/
theorem call_at {fv : Option TV} {ovs : List (Option TV)} {vs : List TV} {f : FuncId} {caps : List C} {as : List A} {ids : List Nat} {lent : List (C × List Nat × List Nat)} {ro : Bool} {muts : List Bool} {rs : List R} {outs : List T} {x : TV × Upd × List Nat × Nat}
    (hf : fnOf fv = some (f, caps)) (hv : allSome ovs = some vs) (ha : evArgs h (vs ++ caps.map TV.c) muts = some (as, ids, lent)) (hw : wholeLent h lent = true)
    (hn : decide ((lent.flatMap (fun (p : C × List Nat × List Nat) => p.2.1)).Nodup ∧ (lent.flatMap (fun (p : C × List Nat × List Nat) => p.2.1)).all (fun i => !ids.contains i) = true) = true)
    (hl : landed h n ro ids lent (some (rs, outs)) = some x) :
    callee h muts (fv :: ovs) = some (f, as) ∧ ev1 (fun _ _ => some (rs, outs)) (.call ro muts) (fv :: ovs) h n = some x := by
  have hn' := of_decide_eq_true hn
  constructor
  · simp only [callee, hf, hv, ha]
  · simp only [ev1, evCall_eq, hf, hv, ha]
    rw [if_pos ⟨hw, hn'⟩]; exact hl

theorem land {ids : List Nat} {lent : List (C × List Nat × List Nat)} {rs : List R} {outs : List T} {fu bu : Upd} {m : Nat} (hz : freezeIds h ids ids = some fu) (hb : evBack n lent outs = some (bu, m)) :
    landed h n false ids lent (some (rs, outs)) = some (retV (unRs m rs).1, (unRs m rs).2.1 ++ bu ++ fu, ids ++ lent.flatMap (·.2.2), (unRs m rs).2.2) := by
  simp only [landed, hz, hb, Bool.false_eq_true, if_false]
theorem back_nil : evBack n [] [] = some ([], n) := rfl
theorem back_ms {sz id len k : Nat} {rows : List (List D)} {rd : List Nat} {r : List (C × List Nat × List Nat)} {ts : List T} {w : Upd} (hl : rows.length = len) (hr : evBack n r ts = some (w, k)) :
    evBack n ((.osl sz id 0 len, [id], rd) :: r) (.sl sz rows :: ts) = some ((id, some (.arr sz rows)) :: w, k) := by
  simp only [evBack, hl, hr, and_self, if_true]
theorem back_d {c : C} {rd : List Nat} {x : D} {k : Nat} {r : List (C × List Nat × List Nat)} {ts : List T} {w : Upd} (hr : evBack n r ts = some (w, k)) : evBack n ((c, [], rd) :: r) (.d x :: ts) = some (w, k) := by
  simp only [evBack, hr]
theorem back_op {id k : Nat} {own rd : List Nat} {r : List (C × List Nat × List Nat)} {ts' ts : List T} {w : Upd} (hc : own.contains id = true) (hr : evBack (unL n ts').2.2 r ts = some (w, k)) :
    evBack n ((.op id 0, own, rd) :: r) (.pt ts' :: ts) = some ((id, some (.box (unL n ts').1)) :: (unL n ts').2.1 ++ own.map (fun i => (i, none)) ++ w, k) := by
  simp only [evBack, hr, hc, if_true]

theorem ea_nil {ms : List Bool} : evArgs h [] ms = some ([], [], []) := rfl
theorem ea_c {c : C} {vs : List TV} {ms : List Bool} {as : List A} {ids i : List Nat} {lent : List (C × List Nat × List Nat)} {x : D} (hv : viewC h 60 c = some (x, i)) (hm : ms.headD false = false) (hr : evArgs h vs ms.tail = some (as, ids, lent)) :
    evArgs h (.c c :: vs) ms = some (.d x :: as, i ++ ids, lent) := by simp only [evArgs, hr, hm, hv, Bool.false_eq_true, if_false]
theorem ea_agg {cs : List C} {vs : List TV} {ms : List Bool} {as : List A} {ids i : List Nat} {lent : List (C × List Nat × List Nat)} {xs : List D} (hv : viewCs h cs = some (xs, i)) (hm : ms.headD false = false) (hr : evArgs h vs ms.tail = some (as, ids, lent)) :
    evArgs h (.agg cs :: vs) ms = some (.agg xs :: as, i ++ ids, lent) := by simp only [evArgs, hr, hm, hv, Bool.false_eq_true, if_false]
theorem ea_mt {c : C} {vs : List TV} {ms : List Bool} {as : List A} {ids own rd : List Nat} {lent : List (C × List Nat × List Nat)} {t : T} (hv : packC h 60 c = some (t, own, rd)) (hm : ms.headD false = true) (hr : evArgs h vs ms.tail = some (as, ids, lent)) :
    evArgs h (.c c :: vs) ms = some (.mt t :: as, ids, (c, own, rd) :: lent) := by simp only [evArgs, hr, hm, hv, if_true]

theorem vs_nil : viewCs h [] = some ([], []) := rfl
theorem vs_cons {c : C} {cs : List C} {x : D} {xs : List D} {a b : List Nat} (h1 : viewC h 60 c = some (x, a)) (h2 : viewCs h cs = some (xs, b)) : viewCs h (c :: cs) = some (x :: xs, a ++ b) := by simp only [viewCs, h1, h2]
theorem vl_nil {k : Nat} : viewL h k [] = some ([], []) := by cases k <;> rfl
theorem vl_cons {k : Nat} {c : C} {cs : List C} {x : D} {xs : List D} {a b : List Nat} (h1 : viewC h k c = some (x, a)) (h2 : viewL h k cs = some (xs, b)) : viewL h (k + 1) (c :: cs) = some (x :: xs, a ++ b) := by simp only [viewL, h1, h2]
theorem v_d {k : Nat} {x : D} : viewC h k (.d x) = some (x, []) := by cases k <;> rfl
theorem v_op {k id : Nat} {cells : List C} {ds : List D} {ids : List Nat} (hl : look h id = some (.box cells)) (hc : viewL h k cells = some (ds, ids)) : viewC h (k + 1) (.op id 0) = some (.pt ds, id :: ids) := by
  simp [viewC, hl, hc]
theorem v_ofn {k : Nat} {f : FuncId} {cs : List C} {ds : List D} {ids : List Nat} (hc : viewL h k cs = some (ds, ids)) : viewC h (k + 1) (.ofn f cs) = some (.fn f ds, ids) := by
  simp [viewC, hc]
theorem pl_nil {k : Nat} : packL h k [] = some ([], [], []) := by cases k <;> rfl
theorem pl_cons {k : Nat} {c : C} {cs : List C} {t : T} {ts : List T} {a i b j : List Nat} (h1 : packC h k c = some (t, a, i)) (h2 : packL h k cs = some (ts, b, j)) : packL h (k + 1) (c :: cs) = some (t :: ts, a ++ b, i ++ j) := by simp only [packL, h1, h2]
theorem p_d {k : Nat} {x : D} : packC h k (.d x) = some (.d x, [], []) := by cases k <;> rfl
theorem p_op {k id : Nat} {cells : List C} {ts : List T} {own ids : List Nat} (hl : look h id = some (.box cells)) (hc : packL h k cells = some (ts, own, ids)) : packC h (k + 1) (.op id 0) = some (.pt ts, id :: own, id :: ids) := by
  simp only [packC, hl, hc]
theorem pr_nil : packRs h [] = some ([], []) := rfl
theorem pr_c {c : C} {vs : List TV} {t : T} {a i b : List Nat} {rs : List R} (h1 : packC h 60 c = some (t, a, i)) (h2 : packRs h vs = some (rs, b)) : packRs h (.c c :: vs) = some (.c t :: rs, a ++ b) := by simp only [packRs, packR, h1, h2]
theorem pr_agg {cs : List C} {vs : List TV} {ts : List T} {a i b : List Nat} {rs : List R} (h1 : packL h 60 cs = some (ts, a, i)) (h2 : packRs h vs = some (rs, b)) : packRs h (.agg cs :: vs) = some (.agg ts :: rs, a ++ b) := by simp only [packRs, packR, h1, h2]
theorem pc_nil : packCs h [] = some ([], []) := rfl
theorem pc_cons {c : C} {cs : List C} {t : T} {ts : List T} {a i b : List Nat} (h1 : packC h 60 c = some (t, a, i)) (h2 : packCs h cs = some (ts, b)) : packCs h (c :: cs) = some (t :: ts, a ++ b) := by simp only [packCs, h1, h2]

theorem leave_at {rvs : List RV} {m : List Bool} {len : Nat} {rs rs0 : List R} {outs : List T} {vs : List TV} {a b : List Nat} (hg : s.gh.length = len) (h0 : allSome (rvs.map (resTV s)) = some vs) (h1 : packRs s.heap vs = some (rs0, a)) (h2 : packCs s.heap s.gh = some (outs, b))
    (hn : decide (a ++ b).Nodup = true) (h3 : frzRs m rs0 = rs) : wk (fun s => s.gh.length = len ∧ ∃ rs0, leave rvs s = some (rs0, outs) ∧ frzRs m rs0 = rs) s := by
  refine wk.of ⟨hg, rs0, ?_, h3⟩
  unfold leave
  simp only [h0, h1, h2]
  rw [if_pos (of_decide_eq_true hn)]

theorem oc {f : FuncId} {as : List A} {rs : List R} {outs : List T} {ro : Bool} {muts : List Bool} (h2 : callee h muts (args.map (opv e)) = some (f, as)) (hG : Good P f as rs outs)
    (h1 : ev1 (fun _ _ => some (rs, outs)) (.call ro muts) (args.map (opv e)) h n = some (v, u, ids, m)) (hq : WO P r ⟨(d, v) :: e, u ++ h, m, gh⟩ Q) : WO P (⟨some d, .call ro muts, args, none⟩ :: r) ⟨e, h, n, gh⟩ Q :=
  ⟨_, Sub.refl _, .inl ⟨rfl, only f as rs outs, v, u, ids, m, only_ok hG, call_only h2 h1, hq⟩⟩
theorem oc0 {f : FuncId} {as : List A} {rs : List R} {outs : List T} {ro : Bool} {muts : List Bool} (h2 : callee h muts (args.map (opv e)) = some (f, as)) (hG : Good P f as rs outs)
    (h1 : ev1 (fun _ _ => some (rs, outs)) (.call ro muts) (args.map (opv e)) h n = some (v, u, ids, m)) (hq : WO P r ⟨e, u ++ h, m, gh⟩ Q) : WO P (⟨none, .call ro muts, args, none⟩ :: r) ⟨e, h, n, gh⟩ Q :=
  ⟨_, Sub.refl _, .inl ⟨rfl, only f as rs outs, v, u, ids, m, only_ok hG, call_only h2 h1, hq⟩⟩
theorem ocg {f : FuncId} {as : List A} {rs : List R} {outs : List T} {ro : Bool} {muts : List Bool} (hg : fnd e g = some (.c (.d (.lit (.bool c))))) (hc : c = b) (h2 : callee h muts (args.map (opv e)) = some (f, as)) (hG : Good P f as rs outs)
    (h1 : ev1 (fun _ _ => some (rs, outs)) (.call ro muts) (args.map (opv e)) h n = some (v, u, ids, m)) (hq : WO P r ⟨(d, v) :: e, u ++ h, m, gh⟩ Q) : WO P (⟨some d, .call ro muts, args, some (g, b)⟩ :: r) ⟨e, h, n, gh⟩ Q :=
  ⟨_, Sub.refl _, .inl ⟨wants_of hg hc, only f as rs outs, v, u, ids, m, only_ok hG, call_only h2 h1, hq⟩⟩
theorem oc' {f : FuncId} {as : List A} {rs : List R} {outs : List T} {ro : Bool} {muts : List Bool} (hc : callee h muts (args.map (opv e)) = some (f, as) ∧ ev1 (fun _ _ => some (rs, outs)) (.call ro muts) (args.map (opv e)) h n = some (v, u, ids, m))
    (hG : Good P f as rs outs) (hq : WO P r ⟨(d, v) :: e, u ++ h, m, gh⟩ Q) : WO P (⟨some d, .call ro muts, args, none⟩ :: r) ⟨e, h, n, gh⟩ Q := oc hc.1 hG hc.2 hq
theorem oc0' {f : FuncId} {as : List A} {rs : List R} {outs : List T} {ro : Bool} {muts : List Bool} (hc : callee h muts (args.map (opv e)) = some (f, as) ∧ ev1 (fun _ _ => some (rs, outs)) (.call ro muts) (args.map (opv e)) h n = some (v, u, ids, m))
    (hG : Good P f as rs outs) (hq : WO P r ⟨e, u ++ h, m, gh⟩ Q) : WO P (⟨none, .call ro muts, args, none⟩ :: r) ⟨e, h, n, gh⟩ Q := oc0 hc.1 hG hc.2 hq
theorem ocg' {f : FuncId} {as : List A} {rs : List R} {outs : List T} {ro : Bool} {muts : List Bool} (hg : fnd e g = some (.c (.d (.lit (.bool c))))) (hb : c = b)
    (hc : callee h muts (args.map (opv e)) = some (f, as) ∧ ev1 (fun _ _ => some (rs, outs)) (.call ro muts) (args.map (opv e)) h n = some (v, u, ids, m))
    (hG : Good P f as rs outs) (hq : WO P r ⟨(d, v) :: e, u ++ h, m, gh⟩ Q) : WO P (⟨some d, .call ro muts, args, some (g, b)⟩ :: r) ⟨e, h, n, gh⟩ Q := ocg hg hb hc.1 hG hc.2 hq
end

/-! ### a drawn region -/

abbrev Tr := List (List Nat × List Nat)
abbrev DSt := Env × Heap × Tr

def aftD (e : Env) (d : Option Nat) (h : Heap) (tr : Tr) (top : Nat) (r : Res1) : Option DSt :=
  match r with
  | some (v, u, ids, m) => if m ≤ top then some (put e d v, u ++ h, tr ++ [(ids, u.map (·.1))]) else none
  | none => none

def stepD (call : Ev.Call) (base i : Nat) (o : COp) (s : DSt) : Option DSt :=
  match wants s.1 o.guard with
  | some true => aftD s.1 o.dst s.2.1 s.2.2 (base + room * (i + 1)) (ev1 call o.k (o.args.map (opv s.1)) s.2.1 (base + room * i))
  | some false => some (drop s.1 o.dst, s.2.1, s.2.2 ++ [([], [])])
  | none => none

def evDr (calls : Nat → Ev.Call) (base : Nat) : List COp → Nat → DSt → Option DSt
  | [], _, s => some s
  | o :: r, i, s => (stepD (calls i) base i o s).bind (evDr calls base r (i + 1))

theorem evDr_ok {calls : Nat → Ev.Call} {base : Nat} : ∀ (l : List COp) (i : Nat) (e : Env) (h : Heap) (tr : Tr) (e' : Env) (h' : Heap) (tr' : Tr), evDr calls base l i (e, h, tr) = some (e', h', tr') →
    ∃ t, evDrawn calls base l i e h = some (e', h', t) ∧ tr' = tr ++ t := by
  intro l
  induction l with
  | nil =>
    intro i e h tr e' h' tr' hh
    obtain ⟨rfl, rfl, rfl⟩ : e = e' ∧ h = h' ∧ tr = tr' := by simpa [evDr] using hh
    exact ⟨[], rfl, by simp⟩
  | cons o r ih =>
    intro i e h tr e' h' tr' hh
    unfold evDr stepD at hh
    unfold evDrawn
    cases hw : wants e o.guard with
    | none => simp [hw] at hh
    | some b =>
      cases b with
      | false =>
        simp only [hw, Option.bind_some] at hh
        obtain ⟨t, h1, h2⟩ := ih _ _ _ _ _ _ _ hh
        exact ⟨([], []) :: t, by simp [h1], by simp [h2]⟩
      | true =>
        simp only [hw] at hh
        cases hv : ev1 (calls i) o.k (o.args.map (opv e)) h (base + room * i) with
        | none => simp [hv, aftD] at hh
        | some p =>
          obtain ⟨v, u, ids, m⟩ := p
          simp only [hv, aftD] at hh
          by_cases hm : m ≤ base + room * (i + 1)
          · rw [if_pos hm, Option.bind_some] at hh
            obtain ⟨t, h1, h2⟩ := ih _ _ _ _ _ _ _ hh
            exact ⟨(ids, u.map (·.1)) :: t, by simp [hm, h1], by simp [h2]⟩
          · rw [if_neg hm] at hh; simp at hh

theorem evDr_congr {calls calls' : Nat → Ev.Call} {base : Nat} : ∀ (l : List COp) (i : Nat) (s : DSt), (∀ j, i ≤ j → calls j = calls' j) → evDr calls base l i s = evDr calls' base l i s := by
  intro l
  induction l with
  | nil => intro i s _; rfl
  | cons o r ih =>
    intro i s hc
    simp only [evDr, hc i (Nat.le_refl _)]
    congr 1
    funext s'
    exact ih (i + 1) s' fun j hj => hc j (by omega)

def WD (P : Program) (base : Nat) (ops : List COp) (i : Nat) (e : Env) (h : Heap) (tr : Tr) (Q : Env → Heap → Tr → Prop) : Prop :=
  ∃ calls, (∀ j, CallOk P (calls j)) ∧ ∃ e' h' tr', evDr calls base ops i (e, h, tr) = some (e', h', tr') ∧ Q e' h' tr'

theorem w_drawn {Q : Out → St → Prop} {ops : List COp} {dyn : List (Nat × Nat)} {keep : List Nat}
    (hw : WD P n ops 0 e h [] fun e' h' tr => dynOk tr dyn = true ∧ wk (Q .normal) ⟨keepEnv e' keep, h', n + room * ops.length, gh⟩) : W P (.drawn ops dyn keep) ⟨e, h, n, gh⟩ Q := by
  obtain ⟨calls, hok, e', h', tr', h1, hd, hq⟩ := hw
  obtain ⟨t, h4, ht⟩ := evDr_ok _ _ _ _ _ _ _ _ h1
  obtain rfl : tr' = t := by simpa using ht
  exact ⟨_, Sub.refl _, calls, e', h', _, hok, h4, hd, hq⟩

section
variable {base i : Nat} {ops r : List COp} {tr : Tr} {Q : Env → Heap → Tr → Prop} {d : Nat} {k : K} {args : List Operand} {v : TV} {u : Upd} {ids : List Nat} {m g : Nat} {b c : Bool}

theorem d_nil (hq : Q e h tr) : WD P base [] i e h tr Q := ⟨fun _ => noCall, fun _ => noCall_ok, e, h, tr, rfl, hq⟩
theorem d_fin {Q : Out → St → Prop} {dyn : List (Nat × Nat)} {keep : List Nat} {e' : Env} {h' : Heap} {n' : Nat} {l : List COp} (hd : dynOk tr dyn = true) (he : keepEnv e keep = e') (hh : h = h') (hn : n + room * l.length = n') (h1 : Q .normal ⟨e', h', n', gh⟩) :
    WD P base [] i e h tr fun e' h' tr => dynOk tr dyn = true ∧ wk (Q .normal) ⟨keepEnv e' keep, h', n + room * l.length, gh⟩ := by
  subst he; subst hh; subst hn; exact d_nil ⟨hd, wk.of h1⟩
theorem d_end {Q : Out → St → Prop} {dyn : List (Nat × Nat)} {keep : List Nat} {s' : St} {l : List COp} (hd : dynOk tr dyn = true) (he : Sub ⟨keepEnv e keep, h, n + room * l.length, gh⟩ s') (h1 : Q .normal s') :
    WD P base [] i e h tr fun e' h' tr => dynOk tr dyn = true ∧ wk (Q .normal) ⟨keepEnv e' keep, h', n + room * l.length, gh⟩ := d_nil ⟨hd, s', he, h1⟩

theorem d_step {call : Ev.Call} {o : COp} {e1 : Env} {h1 : Heap} {tr1 : Tr} (hok : CallOk P call) (hs : stepD call base i o (e, h, tr) = some (e1, h1, tr1)) (hq : WD P base r (i + 1) e1 h1 tr1 Q) : WD P base (o :: r) i e h tr Q := by
  obtain ⟨calls, hc, e', h', tr', h2, h3⟩ := hq
  refine ⟨fun j => if j = i then call else calls j, fun j => ?_, e', h', tr', ?_, h3⟩
  · show CallOk P (if j = i then call else calls j)
    split
    · exact hok
    · exact hc j
  · simp only [evDr, if_true, hs, Option.bind_some]
    rw [evDr_congr (calls' := calls) r (i + 1) _ fun j hj => if_neg (by omega)]
    exact h2

theorem aft_ok {e : Env} {dd : Option Nat} {top : Nat} (hm : m ≤ top) : aftD e dd h tr top (some (v, u, ids, m)) = some (put e dd v, u ++ h, tr ++ [(ids, u.map (·.1))]) := by
  simp only [aftD]; rw [if_pos hm]

theorem room_le : base + room * i ≤ base + room * (i + 1) := by simp only [room]; omega

theorem d1 (h1 : ev1 noCall k (args.map (opv e)) h (base + room * i) = some (v, [], ids, base + room * i)) (hq : WD P base r (i + 1) ((d, v) :: e) h (tr ++ [(ids, [])]) Q) : WD P base (⟨some d, k, args, none⟩ :: r) i e h tr Q :=
  d_step noCall_ok (show aftD e (some d) h tr _ (ev1 noCall k (args.map (opv e)) h (base + room * i)) = _ by rw [h1, aft_ok room_le]; rfl) hq
theorem d2 (h1 : ev1 noCall k (args.map (opv e)) h (base + room * i) = some (v, u, ids, m)) (hm : m ≤ base + room * (i + 1)) (hq : WD P base r (i + 1) ((d, v) :: e) (u ++ h) (tr ++ [(ids, u.map (·.1))]) Q) : WD P base (⟨some d, k, args, none⟩ :: r) i e h tr Q :=
  d_step noCall_ok (show aftD e (some d) h tr _ (ev1 noCall k (args.map (opv e)) h (base + room * i)) = _ by rw [h1, aft_ok hm]; rfl) hq
theorem d0 (h1 : ev1 noCall k (args.map (opv e)) h (base + room * i) = some (v, u, ids, m)) (hm : m ≤ base + room * (i + 1)) (hq : WD P base r (i + 1) e (u ++ h) (tr ++ [(ids, u.map (·.1))]) Q) : WD P base (⟨none, k, args, none⟩ :: r) i e h tr Q :=
  d_step noCall_ok (show aftD e none h tr _ (ev1 noCall k (args.map (opv e)) h (base + room * i)) = _ by rw [h1, aft_ok hm]; rfl) hq
theorem dg (hg : fnd e g = some (.c (.d (.lit (.bool c))))) (hc : c = b) (h1 : ev1 noCall k (args.map (opv e)) h (base + room * i) = some (v, [], ids, base + room * i)) (hq : WD P base r (i + 1) ((d, v) :: e) h (tr ++ [(ids, [])]) Q) :
    WD P base (⟨some d, k, args, some (g, b)⟩ :: r) i e h tr Q :=
  d_step noCall_ok (by simp only [stepD, wants_of hg hc]; rw [h1, aft_ok room_le]; rfl) hq
theorem dg2 (hg : fnd e g = some (.c (.d (.lit (.bool c))))) (hc : c = b) (h1 : ev1 noCall k (args.map (opv e)) h (base + room * i) = some (v, u, ids, m)) (hm : m ≤ base + room * (i + 1)) (hq : WD P base r (i + 1) ((d, v) :: e) (u ++ h) (tr ++ [(ids, u.map (·.1))]) Q) :
    WD P base (⟨some d, k, args, some (g, b)⟩ :: r) i e h tr Q :=
  d_step noCall_ok (by simp only [stepD, wants_of hg hc]; rw [h1, aft_ok hm]; rfl) hq
theorem dnil {dd : Option Nat} (hg : fnd e g = some (.tup [])) (hq : WD P base r (i + 1) (drop e dd) h (tr ++ [([], [])]) Q) : WD P base (⟨dd, k, args, some (g, b)⟩ :: r) i e h tr Q :=
  d_step noCall_ok (by simp only [stepD, wants, hg]) hq
theorem dnot {dd : Option Nat} (hg : fnd e g = some (.c (.d (.lit (.bool c))))) (hc : c = !b) (hq : WD P base r (i + 1) (drop e dd) h (tr ++ [([], [])]) Q) : WD P base (⟨dd, k, args, some (g, b)⟩ :: r) i e h tr Q :=
  d_step noCall_ok (by simp only [stepD, wants_not hg hc]) hq
theorem dc {f : FuncId} {as : List A} {rs : List R} {outs : List T} {ro : Bool} {muts : List Bool} (h2 : callee h muts (args.map (opv e)) = some (f, as)) (hG : Good P f as rs outs)
    (h1 : ev1 (fun _ _ => some (rs, outs)) (.call ro muts) (args.map (opv e)) h (base + room * i) = some (v, u, ids, m)) (hm : m ≤ base + room * (i + 1)) (hq : WD P base r (i + 1) ((d, v) :: e) (u ++ h) (tr ++ [(ids, u.map (·.1))]) Q) :
    WD P base (⟨some d, .call ro muts, args, none⟩ :: r) i e h tr Q :=
  d_step (only_ok hG) (show aftD e (some d) h tr _ (ev1 (only f as rs outs) (.call ro muts) (args.map (opv e)) h (base + room * i)) = _ by rw [call_only h2 h1, aft_ok hm]; rfl) hq
theorem dcg {f : FuncId} {as : List A} {rs : List R} {outs : List T} {ro : Bool} {muts : List Bool} (hg : fnd e g = some (.c (.d (.lit (.bool c))))) (hc : c = b) (h2 : callee h muts (args.map (opv e)) = some (f, as)) (hG : Good P f as rs outs)
    (h1 : ev1 (fun _ _ => some (rs, outs)) (.call ro muts) (args.map (opv e)) h (base + room * i) = some (v, u, ids, m)) (hm : m ≤ base + room * (i + 1)) (hq : WD P base r (i + 1) ((d, v) :: e) (u ++ h) (tr ++ [(ids, u.map (·.1))]) Q) :
    WD P base (⟨some d, .call ro muts, args, some (g, b)⟩ :: r) i e h tr Q :=
  d_step (only_ok hG) (by simp only [stepD, wants_of hg hc]; rw [call_only h2 h1, aft_ok hm]; rfl) hq
theorem dc' {f : FuncId} {as : List A} {rs : List R} {outs : List T} {ro : Bool} {muts : List Bool} (hc : callee h muts (args.map (opv e)) = some (f, as) ∧ ev1 (fun _ _ => some (rs, outs)) (.call ro muts) (args.map (opv e)) h (base + room * i) = some (v, u, ids, m))
    (hG : Good P f as rs outs) (hm : m ≤ base + room * (i + 1)) (hq : WD P base r (i + 1) ((d, v) :: e) (u ++ h) (tr ++ [(ids, u.map (·.1))]) Q) :
    WD P base (⟨some d, .call ro muts, args, none⟩ :: r) i e h tr Q := dc hc.1 hG hc.2 hm hq
theorem dcg' {f : FuncId} {as : List A} {rs : List R} {outs : List T} {ro : Bool} {muts : List Bool} (hg : fnd e g = some (.c (.d (.lit (.bool c))))) (hb : c = b)
    (hc : callee h muts (args.map (opv e)) = some (f, as) ∧ ev1 (fun _ _ => some (rs, outs)) (.call ro muts) (args.map (opv e)) h (base + room * i) = some (v, u, ids, m))
    (hG : Good P f as rs outs) (hm : m ≤ base + room * (i + 1)) (hq : WD P base r (i + 1) ((d, v) :: e) (u ++ h) (tr ++ [(ids, u.map (·.1))]) Q) :
    WD P base (⟨some d, .call ro muts, args, some (g, b)⟩ :: r) i e h tr Q := dcg hg hb hc.1 hG hc.2 hm hq
end

/-! ### a function -/

theorem fnW {F : Fn} {m : List Bool} {as : List A} {rs : List R} {outs : List T} (hl : as.length = F.np) (hw : W P F.body (entered as) (Leaves F.rvs m (entered as).gh.length rs outs)) : FnW P F m as rs outs := ⟨hl, hw⟩

theorem leave_of {rvs : List RV} {m : List Bool} {len : Nat} {rs rs0 : List R} {outs outs0 : List T} (hg : s.gh.length = len) (hl : leave rvs s = some (rs0, outs0)) (h1 : frzRs m rs0 = rs) (h2 : outs0 = outs) :
    wk (fun s => s.gh.length = len ∧ ∃ rs0, leave rvs s = some (rs0, outs) ∧ frzRs m rs0 = rs) s := by
  subst h1 h2; exact wk.of ⟨hg, rs0, hl, rfl⟩

theorem callee_of {f : FuncId} {as as0 : List A} {muts : List Bool} {vs : List (Option TV)} (h1 : callee h muts vs = some (f, as0)) (h2 : as0 = as) : callee h muts vs = some (f, as) := h2 ▸ h1

/-! ### where one comes to -/
section
variable {R : St → Prop} {Q : Out → St → Prop} {id id' : Nat}
theorem after_n (h : R s) : After R Q .normal s := h
theorem after_e (h : Q (.exit id) s) : After R Q (.exit id) s := h
theorem after_r (h : Q .ret s) : After R Q .ret s := h
theorem out_n (h : Q .normal s) : OutOf id Q .normal s := h
theorem out_r (h : Q .ret s) : OutOf id Q .ret s := h
theorem out_e (h : Q .normal s) : OutOf id Q (.exit id) s := by simp only [OutOf, if_true]; exact h
theorem out_x (hn : (id' == id) = false) (h : Q (.exit id') s) : OutOf id Q (.exit id') s := by
  have : ¬ id' = id := by simpa using hn
  simp only [OutOf]; rw [if_neg this]; exact h
end

/-- the same heap, but for what is forgotten -/
inductive Fg : Heap → Heap → Prop
  | nil : Fg [] []
  | cons {p : Nat × Option Ob} {a b : Heap} (h : Fg a b) : Fg (p :: a) (p :: b)
  | skip {i : Nat} {a b : Heap} (h : Fg a b) : Fg a ((i, none) :: b)

theorem Fg.look {a b : Heap} (h : Fg a b) : ∀ id, look b id = look a id ∨ look b id = none := by
  induction h with
  | nil => intro id; exact .inl rfl
  | @cons p a b h ih =>
    intro id
    obtain ⟨i, o⟩ := p
    simp only [Ev.look, fnd]
    cases i == id
    · exact ih id
    · exact .inl rfl
  | @skip i a b h ih =>
    intro id
    simp only [Ev.look, fnd]
    cases i == id
    · exact ih id
    · exact .inr rfl

theorem sub_ren (ids keep : List Nat) {e' : Env} {h0 h' : Heap} {n0 n' : Nat} {gh' : List C} (hn : ids.Nodup) (he : canonWith ids (keepEnv s.env keep) s = ⟨e', h0, n0, gh'⟩) (hf : Fg h0 h') (hle : n0 ≤ n') : Sub s ⟨e', h', n', gh'⟩ :=
  (Sub.ren ids keep hn he).trans (Sub.heap hf.look hle)
theorem Sub.of_eq {s s' : St} (h : s = s') : Sub s s' := h ▸ Sub.refl s

/-- what a computation of its own leaves -/
def Jn {X : Type} (f : X → Out → St → Prop) (x : X) : Out → St → Prop := f x

theorem w_join {Q : Out → St → Prop} {J : St → Prop} {c : CC} (h1 : W P c s (fun o s => o = .normal ∧ J s)) (h2 : ∀ s, J s → Q .normal s) : W P c s Q :=
  W.mono (fun o s hj => by obtain ⟨rfl, hj⟩ := hj; exact h2 s hj) h1
theorem o_join {keep : List Nat} (hj : Sub ⟨keepEnv e keep, h, n, gh⟩ s') : WO P [] ⟨e, h, n, gh⟩ fun s => wk ((fun o s => o = Out.normal ∧ Sub s s') .normal) { s with env := keepEnv s.env keep } :=
  wk.of (wk.of ⟨rfl, hj⟩)
theorem d_join {base i : Nat} {tr : Tr} {dyn : List (Nat × Nat)} {keep : List Nat} {l : List COp} (hd : dynOk tr dyn = true) (hj : Sub ⟨keepEnv e keep, h, n + room * l.length, gh⟩ s') :
    WD P base [] i e h tr fun e' h' tr => dynOk tr dyn = true ∧ wk ((fun o s => o = Out.normal ∧ Sub s s') .normal) ⟨keepEnv e' keep, h', n + room * l.length, gh⟩ := d_nil ⟨hd, wk.of ⟨rfl, hj⟩⟩

theorem fnS {F : Fn} {m : List Bool} {as : List A} {rs : List R} {outs : List T} {c : CC} {len : Nat} (hl : as.length = F.np) (hs : Sub (entered as) s) (hlen : (entered as).gh.length = len) (hb : F.body = c)
    (hw : W P c s (Leaves F.rvs m len rs outs)) : FnW P F m as rs outs := by
  subst hlen hb; exact ⟨hl, W.sub hs hw⟩

end
end Go.Ev
