/- Every operation that the abstract machine carries out. Conditions: the relation of XEvC; the oracle's answers are good. -/
import Derived.Test.YtjfhiochcdjkhaaEvO
namespace Go.Ev

section
variable {P : Program} {S K : Nat → Prop} {w0 w : World} {Kn : Nat → Prop} {φ : Nat → Loc} {H : Heap} {e : Env} {o : Oper} {call : Call} {a : Act} {sig : Sig} {k : Ev.K} {args : List Operand}
  {nxt n' : Nat} {v : TV} {u : Upd} {ids : List Nat}

theorem bad_none {vs : List (Option TV)} : ev1 call .bad vs H nxt = none := by
  unfold ev1; split <;> first | rfl | simp_all

theorem bin_sound {op : BinOp} {t ty : TypeId} {x y : Operand} (ho : o.op = .binOp op t x y ty) (hk : compBin P op t x y = (k, args)) (hI : Inv S K w0 Kn φ (look H) w) (hE : Env.ok S w Kn φ e a.tmps)
    (h : ev1 call k (args.map (opv e)) H nxt = some (v, u, ids, n')) : Runs P o a.eval S K w0 w Kn φ (look H) nxt n' v u := by
  have hρ : ∀ x tv, opv e x = some tv → RTV S w Kn φ tv (a.eval x) := fun x tv h => opv_sound hI.glob hE h
  have plainBin : (k, args) = (Ev.K.bin op, [x, y]) → Runs P o a.eval S K w0 w Kn φ (look H) nxt n' v u := by
    intro hk
    obtain ⟨rfl, rfl⟩ := Prod.mk.inj hk
    exact op_bin ho hI (fun z hz => hρ x z hz) (fun z hz => hρ y z hz) h
  have nilBin : ∀ kind, (op = .eql ∨ op = .neq) → nilTy P t kind → (k, args) = compNil kind (op == .neq) x y → Runs P o a.eval S K w0 w Kn φ (look H) nxt n' v u := by
    intro kind hop hu hk
    unfold compNil at hk
    split at hk
    · rename_i hy
      obtain ⟨rfl, rfl⟩ := Prod.mk.inj hk
      exact op_eqNil ho hop hu hI (fun _ => rfl) (.inl ⟨rfl, hy⟩) (fun z hz => hρ x z hz) h
    · split at hk
      · rename_i hx
        obtain ⟨rfl, rfl⟩ := Prod.mk.inj hk
        exact op_eqNil ho hop hu hI (fun _ => rfl) (.inr ⟨rfl, hx⟩) (fun z hz => hρ y z hz) h
      · obtain ⟨rfl, rfl⟩ := Prod.mk.inj hk
        rw [bad_none] at h; simp at h
  have eqs : (op = .eql ∨ op = .neq) → (match P.underlying t with
    | some .bool => (Ev.K.eqBool (op == .neq), [x, y])
    | some (.int _) | some (.float _) | some .string => (Ev.K.bin op, [x, y])
    | some (.slice _) => compNil 0 (op == .neq) x y
    | some (.pointer _) => compNil 1 (op == .neq) x y
    | some (.func _ _ _) => compNil 2 (op == .neq) x y
    | some (.struct _) | some (.array _ _) =>
      match tyK P 8 t with
      | some ks => if P.eqGuardType P.depth t = false then (Ev.K.eqAgg (op == .neq) ks, [x, y]) else (Ev.K.bad, [])
      | none => (Ev.K.bad, [])
    | _ => (Ev.K.bad, [])) = (k, args) → Runs P o a.eval S K w0 w Kn φ (look H) nxt n' v u := by
    intro hop hk
    split at hk
    · rename_i hu
      obtain ⟨rfl, rfl⟩ := Prod.mk.inj hk
      exact op_eqBool ho hop hu hI (fun z hz => hρ x z hz) (fun z hz => hρ y z hz) h
    · exact plainBin hk.symm
    · exact plainBin hk.symm
    · exact plainBin hk.symm
    · rename_i hu; exact nilBin 0 hop ⟨_, hu⟩ hk.symm
    · rename_i hu; exact nilBin 1 hop ⟨_, hu⟩ hk.symm
    · rename_i hu; exact nilBin 2 hop ⟨_, _, _, hu⟩ hk.symm
    · rename_i hu
      split at hk
      · rename_i hks
        split at hk
        · rename_i hg
          obtain ⟨rfl, rfl⟩ := Prod.mk.inj hk
          exact op_eqAgg ho hop hks (by simp [aggOf, hu]) hg hI (fun z hz => hρ x z hz) (fun z hz => hρ y z hz) h
        · obtain ⟨rfl, rfl⟩ := Prod.mk.inj hk
          rw [bad_none] at h; simp at h
      · obtain ⟨rfl, rfl⟩ := Prod.mk.inj hk
        rw [bad_none] at h; simp at h
    · rename_i hu
      split at hk
      · rename_i hks
        split at hk
        · rename_i hg
          obtain ⟨rfl, rfl⟩ := Prod.mk.inj hk
          exact op_eqAgg ho hop hks (by simp [aggOf, hu]) hg hI (fun z hz => hρ x z hz) (fun z hz => hρ y z hz) h
        · obtain ⟨rfl, rfl⟩ := Prod.mk.inj hk
          rw [bad_none] at h; simp at h
      · obtain ⟨rfl, rfl⟩ := Prod.mk.inj hk
        rw [bad_none] at h; simp at h
    · obtain ⟨rfl, rfl⟩ := Prod.mk.inj hk
      rw [bad_none] at h; simp at h
  cases op with
  | eql => exact eqs (.inl rfl) hk
  | neq => exact eqs (.inr rfl) hk
  | _ => exact plainBin hk.symm

theorem one_arg {α : Type} {x : Array α} {y : α} (h : x.toList = [y]) : x = #[y] := by rw [← Array.toArray_toList (xs := x), h]
theorem two_args {α : Type} {x : Array α} {y z : α} (h : x.toList = [y, z]) : x = #[y, z] := by rw [← Array.toArray_toList (xs := x), h]

theorem builtin_sound {b : Builtin} {c : Go.Call} (ho : o.op = .call c) (hcal : c.callee = .builtin b) (hk : compBuiltin P b c.args.toList c.argTypes.toList = (k, args)) (hI : Inv S K w0 Kn φ (look H) w)
    (hE : Env.ok S w Kn φ e a.tmps) (hn0 : nxt < n' → ¬ Kn nxt) (h : ev1 call k (args.map (opv e)) H nxt = some (v, u, ids, n')) : Runs P o a.eval S K w0 w Kn φ (look H) nxt n' v u := by
  have hρ : ∀ x tv, opv e x = some tv → RTV S w Kn φ tv (a.eval x) := fun x tv h => opv_sound hI.glob hE h
  have lenArgs : ∀ str, k = .len str → args = c.args.toList → ∃ x, c.args.toList = [x] := by
    intro str hk ha
    subst hk ha
    generalize c.args.toList = l at h
    match l, h with
    | [x], _ => exact ⟨x, rfl⟩
    | [], h => simp [ev1] at h
    | x :: y :: r, h => simp [ev1] at h
  unfold compBuiltin at hk
  split at hk
  · rename_i t hts
    split at hk
    · rename_i hu
      obtain ⟨rfl, rfl⟩ := Prod.mk.inj hk
      obtain ⟨x, hx⟩ := lenArgs true rfl rfl
      rw [hx] at h
      exact op_len (str := true) ho hcal (one_arg hx) (one_arg hts) hu hI (fun z hz => hρ x z hz) h
    · rename_i hu
      obtain ⟨rfl, rfl⟩ := Prod.mk.inj hk
      obtain ⟨x, hx⟩ := lenArgs false rfl rfl
      rw [hx] at h
      exact op_len (str := false) ho hcal (one_arg hx) (one_arg hts) ⟨_, hu⟩ hI (fun z hz => hρ x z hz) h
    · obtain ⟨rfl, rfl⟩ := Prod.mk.inj hk
      rw [bad_none] at h; simp at h
  · obtain ⟨rfl, rfl⟩ := Prod.mk.inj hk
    exact op_minmax (m := true) ho hcal hI hρ h
  · obtain ⟨rfl, rfl⟩ := Prod.mk.inj hk
    exact op_minmax (m := false) ho hcal hI hρ h
  · rename_i s x hts
    split at hk
    · rename_i el el2 hus hux
      split at hk
      · rename_i n z hsz hz
        split at hk
        · rename_i hb
          obtain ⟨rfl, rfl⟩ := Prod.mk.inj hk
          have : ∃ p q, c.args.toList = [p, q] := by
            generalize c.args.toList = l at h
            match l, h with
            | [p, q], _ => exact ⟨p, q, rfl⟩
            | [], h => simp [ev1] at h
            | [p], h => simp [ev1] at h
            | p :: q :: r :: t, h => simp [ev1] at h
          obtain ⟨p, q, hpq⟩ := this
          rw [hpq] at h
          exact op_append ho hcal (two_args hpq) (two_args hts) hus hux hsz hz hb.2 hb.1 hI hn0 (fun z hz => hρ p z hz) (fun z hz => hρ q z hz) h
        · obtain ⟨rfl, rfl⟩ := Prod.mk.inj hk
          rw [bad_none] at h; simp at h
      · obtain ⟨rfl, rfl⟩ := Prod.mk.inj hk
        rw [bad_none] at h; simp at h
    · obtain ⟨rfl, rfl⟩ := Prod.mk.inj hk
      rw [bad_none] at h; simp at h
  · rename_i d x hts
    split at hk
    · rename_i el hud
      split at hk
      · rename_i n hsz
        obtain ⟨rfl, rfl⟩ := Prod.mk.inj hk
        have : ∃ p q, c.args.toList = [p, q] := by
          generalize c.args.toList = l at h
          match l, h with
          | [p, q], _ => exact ⟨p, q, rfl⟩
          | [], h => simp [ev1] at h
          | [p], h => simp [ev1] at h
          | p :: q :: r :: t, h => simp [ev1] at h
        obtain ⟨p, q, hpq⟩ := this
        rw [hpq] at h
        exact op_copy ho hcal (two_args hpq) (two_args hts) hud hsz hI (fun z hz => hρ p z hz) (fun z hz => hρ q z hz) h
      · obtain ⟨rfl, rfl⟩ := Prod.mk.inj hk
        rw [bad_none] at h; simp at h
    · obtain ⟨rfl, rfl⟩ := Prod.mk.inj hk
      rw [bad_none] at h; simp at h
  · obtain ⟨rfl, rfl⟩ := Prod.mk.inj hk
    rw [bad_none] at h; simp at h

theorem op_sound (hok : CallOk P call) (hk : compK P sig o.op = (k, args)) (hI : Inv S K w0 Kn φ (look H) w) (hE : Env.ok S w Kn φ e a.tmps) (hfr : ∀ j, nxt ≤ j → j < n' → ¬ Kn j)
    (h : ev1 call k (args.map (opv e)) H nxt = some (v, u, ids, n')) : Goes P o a S K w0 w Kn φ (look H) nxt n' v u := by
  have hρ : ∀ x tv, opv e x = some tv → RTV S w Kn φ tv (a.eval x) := fun x tv h => opv_sound hI.glob hE h
  have hn0 : nxt < n' → ¬ Kn nxt := fun h => hfr nxt (Nat.le_refl _) h
  have bad : (k, args) = (Ev.K.bad, []) → Goes P o a S K w0 w Kn φ (look H) nxt n' v u := by
    intro hk
    obtain ⟨rfl, rfl⟩ := Prod.mk.inj hk
    rw [bad_none] at h; simp at h
  generalize hop : o.op = op at hk
  unfold compK at hk
  split at hk
  · obtain ⟨rfl, rfl⟩ := Prod.mk.inj hk
    exact (op_mv (.inl hop) hI (fun z hz => hρ _ z hz) h).goes
  · obtain ⟨rfl, rfl⟩ := Prod.mk.inj hk
    exact (op_mv (.inr hop) hI (fun z hz => hρ _ z hz) h).goes
  · obtain ⟨rfl, rfl⟩ := Prod.mk.inj hk
    exact (op_pick hop hI (fun z hz => hρ _ z hz) (fun z hz => hρ _ z hz) (fun z hz => hρ _ z hz) h).goes
  · -- alloc
    split at hk
    · rename_i hz
      obtain ⟨rfl, rfl⟩ := Prod.mk.inj hk
      exact (op_alloc hop hz hI hn0 h).goes
    · exact bad hk.symm
  · obtain ⟨rfl, rfl⟩ := Prod.mk.inj hk
    exact (op_box hop hI hn0 (fun z hz => hρ _ z hz) h).goes
  · -- build
    split at hk
    · rename_i hu hz
      split at hk
      · rename_i hpl
        split at hk
        · rename_i hall
          obtain ⟨rfl, rfl⟩ := Prod.mk.inj hk
          exact (op_build hop hz (.inl ⟨_, hu, hpl, hall⟩) hI hρ h).goes
        · exact bad hk.symm
      · exact bad hk.symm
    · rename_i hu hz
      split at hk
      · rename_i hs
        obtain ⟨rfl, rfl⟩ := Prod.mk.inj hk
        exact (op_build hop hz (.inr ⟨_, _, _, hu, hs, rfl⟩) hI hρ h).goes
      · exact bad hk.symm
    · exact bad hk.symm
  · -- buildSlice
    split at hk
    · rename_i hu
      split at hk
      · rename_i hs hz
        split at hk
        · rename_i hl
          obtain ⟨rfl, rfl⟩ := Prod.mk.inj hk
          exact (op_buildSlice hop hu hs hz hl hI hn0 hρ h).goes
        · exact bad hk.symm
      · exact bad hk.symm
    · exact bad hk.symm
  · -- load
    split at hk
    · rename_i ha hs
      obtain ⟨rfl, rfl⟩ := Prod.mk.inj hk
      exact (op_load hop ha hs hI (fun z hz => hρ _ z hz) h).goes
    · exact bad hk.symm
  · -- store
    split at hk
    · rename_i hs
      obtain ⟨rfl, rfl⟩ := Prod.mk.inj hk
      exact (op_store hop hs hI (fun z hz => hρ _ z hz) (fun z hz => hρ _ z hz) h).goes
    · exact bad hk.symm
  · obtain ⟨rfl, rfl⟩ := Prod.mk.inj hk
    exact (op_nilCheck hop hI (fun z hz => hρ _ z hz) h).goes
  · exact (bin_sound hop hk hI hE h).goes
  · obtain ⟨rfl, rfl⟩ := Prod.mk.inj hk
    exact (op_un hop hI (fun z hz => hρ _ z hz) h).goes
  · -- convert
    split at hk
    · rename_i hs hd
      obtain ⟨rfl, rfl⟩ := Prod.mk.inj hk
      exact (op_convInt hop hs hd hI (fun z hz => hρ _ z hz) h).goes
    · rename_i hs hd
      obtain ⟨rfl, rfl⟩ := Prod.mk.inj hk
      exact (op_convSame hop hs hd hI (fun z hz => hρ _ z hz) h).goes
    · exact bad hk.symm
  · -- makeFunc
    split at hk
    · rename_i hf
      obtain ⟨rfl, rfl⟩ := Prod.mk.inj hk
      exact (op_mkFn hop hf hI hρ h).goes
    · exact bad hk.symm
  · -- makeSlice
    split at hk
    · rename_i hu
      split at hk
      · rename_i hs hz
        split at hk
        · rename_i hl
          obtain ⟨rfl, rfl⟩ := Prod.mk.inj hk
          exact (op_makeSlice hop hu hs hz hl.1 hl.2 hI hn0 (fun z hz => hρ _ z hz) (fun z hz => hρ _ z hz) h).goes
        · exact bad hk.symm
      · exact bad hk.symm
    · exact bad hk.symm
  · -- slice
    split at hk
    · rename_i hu
      obtain ⟨rfl, rfl⟩ := Prod.mk.inj hk
      exact (op_slice (str := true) hop hu hI hρ h).goes
    · rename_i hu
      split at hk
      · rename_i hs
        obtain ⟨rfl, rfl⟩ := Prod.mk.inj hk
        exact (op_slice (str := false) hop ⟨_, hu, hs⟩ hI hρ h).goes
      · exact bad hk.symm
    · exact bad hk.symm
  · -- fieldAddr
    split at hk
    · rename_i hu
      split at hk
      · rename_i hf
        split at hk
        · rename_i hs
          obtain ⟨rfl, rfl⟩ := Prod.mk.inj hk
          exact (op_fieldAddr hop hu hf hs hI (fun z hz => hρ _ z hz) h).goes
        · exact bad hk.symm
      · exact bad hk.symm
    · exact bad hk.symm
  · -- field
    split at hk
    · rename_i hu
      split at hk
      · rename_i hf
        split at hk
        · rename_i ha hs
          obtain ⟨rfl, rfl⟩ := Prod.mk.inj hk
          exact (op_field hop hu hf ha hs hI (fun z hz => hρ _ z hz) h).goes
        · exact bad hk.symm
      · exact bad hk.symm
    · exact bad hk.symm
  · -- indexAddr
    split at hk
    · rename_i hu
      split at hk
      · rename_i hs
        obtain ⟨rfl, rfl⟩ := Prod.mk.inj hk
        exact (op_indexAddr (arr := none) hop ⟨_, hu, hs⟩ hI (fun z hz => hρ _ z hz) (fun z hz => hρ _ z hz) h).goes
      · exact bad hk.symm
    · rename_i hu
      split at hk
      · rename_i hs
        obtain ⟨rfl, rfl⟩ := Prod.mk.inj hk
        exact (op_indexAddr (arr := some _) hop ⟨_, hu, hs⟩ hI (fun z hz => hρ _ z hz) (fun z hz => hρ _ z hz) h).goes
      · exact bad hk.symm
    · exact bad hk.symm
  · -- index
    split at hk
    · rename_i hu
      obtain ⟨rfl, rfl⟩ := Prod.mk.inj hk
      exact (op_indexStr hop hu hI (fun z hz => hρ _ z hz) (fun z hz => hρ _ z hz) h).goes
    · rename_i hu
      split at hk
      · rename_i ha hs
        obtain ⟨rfl, rfl⟩ := Prod.mk.inj hk
        exact (op_index hop hu ha hs hI (fun z hz => hρ _ z hz) (fun z hz => hρ _ z hz) h).goes
      · exact bad hk.symm
    · exact bad hk.symm
  · obtain ⟨rfl, rfl⟩ := Prod.mk.inj hk
    exact (op_extract hop hI (fun z hz => hρ _ z hz) h).goes
  · -- makeMap
    split at hk
    · split at hk
      · obtain ⟨rfl, rfl⟩ := Prod.mk.inj hk
        exact (op_makeMap hop hI hn0 h).goes
      · exact bad hk.symm
    · exact bad hk.symm
  · -- lookup
    split at hk
    · rename_i hu
      split at hk
      · rename_i hm
        obtain ⟨rfl, rfl⟩ := Prod.mk.inj hk
        exact (op_lookup hop hu hm hI (fun z hz => hρ _ z hz) (fun z hz => hρ _ z hz) h).goes
      · exact bad hk.symm
    · exact bad hk.symm
  · -- mapEntry
    split at hk
    · rename_i hu
      split at hk
      · rename_i hm
        obtain ⟨rfl, rfl⟩ := Prod.mk.inj hk
        exact (op_mapEntry hop hu hm hI (fun z hz => hρ _ z hz) (fun z hz => hρ _ z hz) h).goes
      · exact bad hk.symm
    · exact bad hk.symm
  · -- entryStore
    split at hk
    · split at hk
      · obtain ⟨rfl, rfl⟩ := Prod.mk.inj hk
        exact (op_entryStore hop hI (fun z hz => hρ _ z hz) (fun z hz => hρ _ z hz) (fun z hz => hρ _ z hz) h).goes
      · exact bad hk.symm
    · exact bad hk.symm
  · -- call
    split at hk
    · rename_i hcal
      exact (builtin_sound hop hcal hk hI hE hn0 h).goes
    · rename_i hcal
      obtain ⟨rfl, rfl⟩ := Prod.mk.inj hk
      exact op_call hop hcal hok hI hfr hρ h
    · rename_i hcal
      obtain ⟨rfl, rfl⟩ := Prod.mk.inj hk
      exact op_call hop hcal hok hI hfr hρ h
    · exact bad hk.symm
  · exact bad hk.symm

end
end Go.Ev
