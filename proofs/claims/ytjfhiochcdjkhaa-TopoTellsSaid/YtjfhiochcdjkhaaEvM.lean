/- Calls: what a callee's answer means, and that a caller may use it. Conditions: the relation of XEvC. -/
import Derived.Test.YtjfhiochcdjkhaaEvLa
namespace Go.Ev

/-! ### what a call is handed, and hands back -/

def RA (S : Nat → Prop) (w : World) : A → Value → List Nat → Prop
  | .d x, v, fp => RD S w x v ∧ fp = []
  | .agg xs, v, fp => ∃ arr, v = .agg arr ∧ xs.length = arr.size ∧ (∀ (i : Nat) (x : D), xs[i]? = some x → RD S w x (arr.getD i undef)) ∧ fp = []
  | .mt t, v, fp => RT S w t v fp

def RAs (S : Nat → Prop) (w : World) : List A → List Value → List Nat → Prop
  | [], [], fp => fp = []
  | a :: as, v :: vs, fp => ∃ f1 f2, fp = f1 ++ f2 ∧ RA S w a v f1 ∧ RAs S w as vs f2
  | _, _, _ => False

def RR (S : Nat → Prop) (w : World) : R → Value → List Nat → Prop
  | .c t, v, fp => RT S w t v fp
  | .agg ts, v, fp => ∃ (arr : Array Value) (fps : List (List Nat)), v = .agg arr ∧ ts.length = arr.size ∧ fps.length = ts.length ∧ fps.flatten = fp ∧ ∀ (i : Nat) (t : T) (f : List Nat), ts[i]? = some t → fps[i]? = some f → RT S w t (arr.getD i undef) f

def RRs (S : Nat → Prop) (w : World) : List R → List Value → List Nat → Prop
  | [], [], fp => fp = []
  | r :: rs, v :: vs, fp => ∃ f1 f2, fp = f1 ++ f2 ∧ RR S w r v f1 ∧ RRs S w rs vs f2
  | _, _, _ => False

def RTs (S : Nat → Prop) (w : World) : List T → List Value → List Nat → Prop
  | [], [], fp => fp = []
  | t :: ts, v :: vs, fp => ∃ f1 f2, fp = f1 ++ f2 ∧ RT S w t v f1 ∧ RTs S w ts vs f2
  | _, _, _ => False

/-- the values that are lent -/
def lentV : List A → List Value → List Value
  | .mt _ :: as, v :: vs => v :: lentV as vs
  | _ :: as, _ :: vs => lentV as vs
  | _, _ => []

def retVal : List Value → Value
  | [v] => v
  | vs => .tuple vs.toArray

/-- the model comes to the callee, and it returns -/
def Enters (P : Program) (f : FuncId) (args : Array Value) (w : World) (R : Value → World → Prop) : Prop :=
  (∃ g as, (callFunc f args).run P w = .ok (.enter g as) w ∧ Calls P g as w fun e w' => ∃ v, e = .returned v ∧ R v w') ∨
  (∃ v, (callFunc f args).run P w = .ok (.value v) w ∧ R v w)

/-- what a callee leaves -/
def Left (S : Nat → Prop) (w : World) (fp : List Nat) (rs : List R) (outs : List T) (lent : List Value) (v : Value) (w' : World) : Prop :=
  ∃ (S' : Nat → Prop) (rvs : List Value) (fp1 fp2 : List Nat), v = retVal rvs ∧ Stp S w S' w' ∧ (∀ b, S' b → S b ∨ b ∈ fp ∨ w.heap.size ≤ b) ∧ (∀ b, S' b → b < w'.heap.size) ∧
    RRs S' w' rs rvs fp1 ∧ RTs S' w' outs lent fp2 ∧ (fp1 ++ fp2).Nodup ∧ (∀ b ∈ fp1 ++ fp2, ¬ S' b ∧ (b ∈ fp ∨ w.heap.size ≤ b)) ∧ Frm (fun b => b < w.heap.size ∧ b ∉ fp) w w'

/-- the answer is what the model's call gives, wherever the arguments are these -/
def Good (P : Program) (f : FuncId) (as : List A) (rs : List R) (outs : List T) : Prop :=
  ∀ (S : Nat → Prop) (w : World) (vs : List Value) (fp : List Nat), (∀ b, S b → b < w.heap.size) → RAs S w as vs fp → fp.Nodup → (∀ b ∈ fp, ¬ S b) → Glob S w →
    Enters P f vs.toArray w (Left S w fp rs outs (lentV as vs))

def CallOk (P : Program) (call : Call) : Prop := ∀ f as rs outs, call f as = some (rs, outs) → Good P f as rs outs

theorem RAs.stp {S S' : Nat → Prop} {w : World} (hs : Stp S w S' w) {as : List A} : ∀ {vs : List Value} {fp : List Nat}, RAs S w as vs fp → RAs S' w as vs fp := by
  induction as with
  | nil => intro vs fp h; cases vs <;> exact h
  | cons x as ih =>
    intro vs fp h
    cases vs with
    | nil => exact h
    | cons v vs =>
      obtain ⟨f1, f2, h1, h2, h3⟩ := h
      refine ⟨f1, f2, h1, ?_, ih h3⟩
      cases x with
      | d y => exact ⟨h2.1.mono hs, h2.2⟩
      | agg xs =>
        obtain ⟨arr, q1, q2, q3, q4⟩ := h2
        exact ⟨arr, q1, q2, fun i x hi => (q3 i x hi).mono hs, q4⟩
      | mt t => exact RT.mono hs h2 fun _ _ => rfl

section
variable {P : Program} {S K : Nat → Prop} {w0 w : World} {Kn : Nat → Prop} {φ : Nat → Loc} {H : Heap} {e : Env} {ρ : Operand → Value} {o : Oper} {call : Call}
  {nxt n' : Nat} {v : TV} {u : Upd} {ids : List Nat}

/-! ### the arguments -/

/-- what is lent, beside what it is -/
inductive Lent (Kn : Nat → Prop) (φ : Nat → Loc) (S : Nat → Prop) (w : World) : List (C × List Nat × List Nat) → List Value → Prop
  | nil : Lent Kn φ S w [] []
  | cons {c : C} {own rd : List Nat} {l : List (C × List Nat × List Nat)} {v : Value} {vs : List Value} (h : RC S w Kn φ c v) (hl : Lent Kn φ S w l vs) : Lent Kn φ S w ((c, own, rd) :: l) (v :: vs)

theorem args_sound {H : Heap} (hI : Inv S K w0 Kn φ (look H) w) : ∀ (tvs : List TV) (ms : List Bool) (as : List A) (ids : List Nat) (lent : List (C × List Nat × List Nat)) (vs : List Value),
    evArgs H tvs ms = some (as, ids, lent) → tvs.length = vs.length → (∀ (i : Nat) (t : TV) (v : Value), tvs[i]? = some t → vs[i]? = some v → RTV S w Kn φ t v) →
    RAs (SB S φ ids) w as vs ((lent.flatMap (·.2.1)).map fun i => (φ i).blk) ∧ (∀ i ∈ lent.flatMap (·.2.1), ∃ o, look H i = some o ∧ isOwn o = true) ∧ Lent Kn φ S w lent (lentV as vs) := by
  intro tvs
  induction tvs with
  | nil =>
    intro ms as ids lent vs h hl hr
    obtain ⟨rfl, rfl, rfl⟩ : [] = as ∧ [] = ids ∧ [] = lent := by simpa [evArgs] using h
    obtain rfl : vs = [] := List.length_eq_zero_iff.1 hl.symm
    exact ⟨rfl, fun i hi => by simp at hi, .nil⟩
  | cons t tvs ih =>
    intro ms as ids lent vs h hl hr
    cases vs with
    | nil => simp at hl
    | cons v vs =>
      have h0 := hr 0 t v rfl rfl
      simp only [evArgs] at h
      split at h
      · simp at h
      · rename_i as1 ids1 lent1 hrec
        obtain ⟨i1, i2, i3⟩ := ih ms.tail as1 ids1 lent1 vs hrec (by simpa using hl) (fun i t v hi hv => hr (i + 1) t v (by simpa using hi) (by simpa using hv))
        split at h
        · split at h
          · rename_i c
            split at h
            · rename_i t0 own rd hp
              obtain ⟨rfl, rfl, rfl⟩ : A.mt t0 :: as1 = as ∧ ids1 = ids ∧ (c, own, rd) :: lent1 = lent := by simpa using h
              cases h0 with
              | c h0 =>
                obtain ⟨p1, p2⟩ := (pack_sound hI 60).1 c t0 own rd v hp h0
                refine ⟨⟨own.map fun i => (φ i).blk, _, by simp, p1.mono (SB.stp0 w _) (fun _ _ => rfl), i1⟩, fun i hi => ?_, .cons h0 i3⟩
                rcases List.mem_append.1 (by simpa using hi : i ∈ own ++ lent1.flatMap (·.2.1)) with hi | hi
                · exact p2 i hi
                · exact i2 i hi
            · simp at h
          · simp at h
        · split at h
          · rename_i c
            split at h
            · rename_i x i hp
              obtain ⟨rfl, rfl, rfl⟩ : A.d x :: as1 = as ∧ i ++ ids1 = ids ∧ lent1 = lent := by simpa using h
              cases h0 with
              | c h0 =>
                have p1 := (view_sound hI 60).1 c x i v hp h0
                refine ⟨⟨[], _, rfl, ⟨p1.mono (SB.stp w _ _ fun j hj => by simp [hj]), rfl⟩, ?_⟩, i2, i3⟩
                exact i1.stp (SB.stp w _ _ fun j hj => by simp [hj])
            · simp at h
          · rename_i cs
            split at h
            · rename_i xs i hp
              obtain ⟨rfl, rfl, rfl⟩ : A.agg xs :: as1 = as ∧ i ++ ids1 = ids ∧ lent1 = lent := by simpa using h
              cases h0 with
              | @agg _ arr hlen h0 =>
                obtain ⟨q1, q2⟩ := viewCs_sound hI cs xs i hp (fun i => arr[i]?) (fun i c hi => by
                  have hlt : i < arr.size := by rw [← hlen]; exact (List.getElem?_eq_some_iff.1 hi).1
                  exact ⟨arr.getD i undef, by simp [hlt], h0 i c hi⟩)
                refine ⟨⟨[], _, rfl, ⟨arr, rfl, q1.trans hlen, fun j x hj => ?_, rfl⟩, ?_⟩, i2, i3⟩
                · obtain ⟨y, hy, hd⟩ := q2 j x hj
                  have hy' : arr[j]? = some y := hy
                  have e1 : arr.getD j undef = y := by simp [hy']
                  rw [e1]; exact hd.mono (SB.stp w _ _ fun k hk => by simp [hk])
                · exact i1.stp (SB.stp w _ _ fun j hj => by simp [hj])
            · simp at h
          · simp at h

end
end Go.Ev
