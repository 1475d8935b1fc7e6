/- Code against the abstract machine's code: what a state may be weakened to, regions, code, as predicates on what is left. Conditions: the relation of XEvC; what is called is good; the program's mark for mixed orders. -/
import Derived.Test.YtjfhiochcdjkhaaEvT
namespace Go.Ev

/-- code, translated; the names to be kept are handed in, in the order of the text -/
def comp (P : Program) (sig : Sig) (nt : Nat) : Code → List (List Nat) → CC × List (List Nat)
  | .skip, ks => (.skip, ks)
  | .region _ ops draw, ks => (if draw then compDrawn ops.toList (ops.toList.map (compOp P sig nt ops)) (ks.headD []) else .region (ops.toList.map (compOp P sig nt ops)) (ks.headD []), ks.tail)
  | .seq a b, ks => (.seq (comp P sig nt a ks).1 (comp P sig nt b (comp P sig nt a ks).2).1, (comp P sig nt b (comp P sig nt a ks).2).2)
  | .cond c a b, ks => (.cond c (comp P sig nt a ks).1 (comp P sig nt b (comp P sig nt a ks).2).1, (comp P sig nt b (comp P sig nt a ks).2).2)
  | .block id a, ks => (.block id (comp P sig nt a ks).1, (comp P sig nt a ks).2)
  | .loop a, ks => (.loop (ks.headD []) (comp P sig nt a ks.tail).1, (comp P sig nt a ks.tail).2)
  | .exit id, ks => (.exit id, ks)
  | .ret, ks => (.ret, ks)
  | _, ks => (.bad, ks)

def outE : Out → Exit
  | .normal => .normal
  | .exit id => .exit id
  | .ret => .ret

/-- where the one state is, the other one is too -/
def Sub (s s1 : St) : Prop := ∀ (S K : Nat → Prop) (w0 : World) (Kn : Nat → Prop) (φ : Nat → Loc) (gv : List Value) (nt : Nat) (a : Act) (w : World),
  Rel S K w0 Kn φ gv nt s a w → ∃ S' Kn' φ', Stp S w S' w ∧ Rel S' K w0 Kn' φ' gv nt s1 a w

theorem Sub.refl (s : St) : Sub s s := fun S _ _ Kn φ _ _ _ w h => ⟨S, Kn, φ, Stp.refl S w, h⟩
theorem Sub.trans {s s1 s2 : St} (a : Sub s s1) (b : Sub s1 s2) : Sub s s2 := fun S K w0 Kn φ gv nt ac w h =>
  let ⟨S1, Kn1, φ1, h1, h2⟩ := a S K w0 Kn φ gv nt ac w h
  let ⟨S2, Kn2, φ2, h3, h4⟩ := b S1 K w0 Kn1 φ1 gv nt ac w h2
  ⟨S2, Kn2, φ2, h1.trans h3, h4⟩

def wk (Q : St → Prop) (s : St) : Prop := ∃ s1, Sub s s1 ∧ Q s1

theorem wk.of {Q : St → Prop} {s : St} (h : Q s) : wk Q s := ⟨s, Sub.refl s, h⟩

def WO (P : Program) : List COp → St → (St → Prop) → Prop
  | [], s, Q => wk Q s
  | o :: r, s, Q => ∃ s1, Sub s s1 ∧
    ((wants s1.env o.guard = some true ∧ ∃ call v u ids n, CallOk P call ∧ ev1 call o.k (o.args.map (opv s1.env)) s1.heap s1.next = some (v, u, ids, n) ∧ WO P r ⟨put s1.env o.dst v, u ++ s1.heap, n, s1.gh⟩ Q) ∨
     (wants s1.env o.guard = some false ∧ WO P r ⟨drop s1.env o.dst, s1.heap, s1.next, s1.gh⟩ Q))

def After (R : St → Prop) (Q : Out → St → Prop) : Out → St → Prop
  | .normal, s => R s
  | .exit id, s => Q (.exit id) s
  | .ret, s => Q .ret s

/-- what an exit from the block is, outside it -/
def OutOf (id : Nat) (Q : Out → St → Prop) : Out → St → Prop
  | .exit id', s => if id' = id then Q .normal s else Q (.exit id') s
  | .normal, s => Q .normal s
  | .ret, s => Q .ret s

def W (P : Program) : CC → St → (Out → St → Prop) → Prop
  | .skip, s, Q => wk (Q .normal) s
  | .region ops keep, s, Q => WO P ops s fun s' => wk (Q .normal) { s' with env := keepEnv s'.env keep }
  | .drawn ops dyn keep, s, Q => ∃ s1, Sub s s1 ∧ ∃ calls e h tr, (∀ i, CallOk P (calls i)) ∧ evDrawn calls s1.next ops 0 s1.env s1.heap = some (e, h, tr) ∧ dynOk tr dyn = true ∧
      wk (Q .normal) ⟨keepEnv e keep, h, s1.next + room * ops.length, s1.gh⟩
  | .seq a b, s, Q => W P a s (After (fun s' => W P b s' Q) Q)
  | .cond c a b, s0, Q => ∃ s, Sub s0 s ∧ ∃ t, opv s.env c = some (.c (.d (.lit (.bool t)))) ∧ (t = true → W P a s Q) ∧ (t = false → W P b s Q)
  | .block id a, s, Q => W P a s (OutOf id Q)
  | .loop _ a, s, Q => ∃ (I : Nat → St → Prop) (n : Nat), wk (I n) s ∧ ∀ n s, I n s → W P a s (After (fun s' => ∃ m, m < n ∧ wk (I m) s') Q)
  | .exit id, s, Q => wk (Q (.exit id)) s
  | .ret, s, Q => wk (Q .ret) s
  | .bad, _, _ => False

section
variable {P : Program} {S K : Nat → Prop} {w0 w : World} {Kn : Nat → Prop} {φ : Nat → Loc} {gv : List Value} {nt : Nat} {a : Act} {sig : Sig} {s s' : St}

/-- a region in the text's order -/
theorem wo_sound {all : Array Oper} {R : Exit → Act → World → Prop} (hnt : nt < 1000000000) {Q : St → Prop} : ∀ (l : List Nat) (os : List Oper) (s : St) (S : Nat → Prop) (Kn : Nat → Prop) (φ : Nat → Loc) (a : Act) (w : World),
    (∀ (i j : Nat), l[i]? = some j → all[j]? = os[i]?) → l.length = os.length → WO P (os.map (compOp P sig nt all)) s Q → Rel S K w0 Kn φ gv nt s a w →
    (∀ S' Kn' φ' s' a' w', Q s' → Stp S w S' w' → Rel S' K w0 Kn' φ' gv nt s' a' w' → R .normal a' w') → wpOps P all R l a w := by
  intro l
  induction l with
  | nil =>
    intro os s S Kn φ a w _ hl h hR hQ
    obtain rfl : os = [] := List.length_eq_zero_iff.1 hl.symm
    obtain ⟨s1, h1, h2⟩ := h
    obtain ⟨S1, Kn1, φ1, h3, h4⟩ := h1 S K w0 Kn φ gv nt a w hR
    exact hQ S1 Kn1 φ1 s1 a w h2 h3 h4
  | cons i l ih =>
    intro os s S Kn φ a w hi hl h hR hQ
    cases os with
    | nil => simp at hl
    | cons o os =>
      have ho : all[i]? = some o := by simpa using hi 0 i rfl
      simp only [List.map_cons, WO] at h
      obtain ⟨s1, hsub, h⟩ := h
      obtain ⟨S1, Kn1, φ1, hs1, hR1⟩ := hsub S K w0 Kn φ gv nt a w hR
      simp only [wpOps, ho]
      rcases h with ⟨hw, call, v, u, ids, n, hok, hev, h⟩ | ⟨hw, h⟩
      · have hwant := wants_sound hR1.env (by rw [hR1.size]; exact hnt) hw
        rw [if_pos hwant]
        left
        have hdst : ∀ x, o.dst = some x → x < a.tmps.size := by
          intro x hx
          rw [hR1.size]
          rcases Nat.lt_or_ge x nt with h1 | h1
          · exact h1
          · exfalso
            have : (compOp P sig nt all o).k = .bad := by
              simp only [compOp, hx]
              rw [if_neg (by simp; omega)]
            rw [this, bad_none] at hev
            simp at hev
        have hk : compK P sig o.op = ((compOp P sig nt all o).k, (compOp P sig nt all o).args) := by
          have : (compOp P sig nt all o).k = (compK P sig o.op).1 := by
            simp only [compOp]
            rw [if_pos]
            cases hd : o.dst with
            | none => rfl
            | some d => have := hdst d hd; rw [hR1.size] at this; simpa using this
          rw [this]; rfl
        have hgo := op_sound hok hk hR1.inv hR1.env (fun j hj _ => hR1.fresh j hj) hev
        refine hgo _ _ fun val w' hD => ?_
        obtain ⟨hle, S', φ', h1, h2, h3, h4⟩ := hD
        refine ih os _ S' (KnU Kn1 s1.next n) φ' _ w' (fun i' j hj => hi (i' + 1) j (by simpa using hj)) (by simpa using hl) h ⟨?_, ?_, ?_, ?_, ?_, ?_⟩ fun S2 Kn2 φ2 s2 a2 w2 h0 h5 h6 => hQ S2 Kn2 φ2 s2 a2 w2 h0 ((hs1.trans h1).trans h5) h6
        · simp only [look_append]; exact h4
        · exact Env.put_ok hR1.env h1 h2 hdst h3
        · rw [put_size]; exact hR1.size
        · rw [put_defers]; exact hR1.defers
        · intro j hj hk
          simp only at hj
          rcases hk with hk | hk
          · exact hR1.fresh j (by omega) hk
          · omega
        · intro i c v hc hv
          exact (hR1.gh i c v hc hv).mono h1 h2
      · have hwant := wants_sound hR1.env (by rw [hR1.size]; exact hnt) hw
        rw [if_neg (by simp [hwant])]
        refine ih os _ S1 Kn1 φ1 _ w (fun i' j hj => hi (i' + 1) j (by simpa using hj)) (by simpa using hl) h ⟨hR1.inv, ?_, ?_, ?_, hR1.fresh, hR1.gh⟩ fun S2 Kn2 φ2 s2 a2 w2 h0 h5 h6 => hQ S2 Kn2 φ2 s2 a2 w2 h0 (hs1.trans h5) h6
        · exact Env.drop_ok hR1.env
        · rw [put_size]; exact hR1.size
        · rw [put_defers]; exact hR1.defers

/-- a loop that ends within so many rounds -/
theorem wp_loop_fuel {c : Code} {Q : Exit → Act → World → Prop} (J : Nat → Act → World → Prop) (n : Nat) (h₀ : J n a w)
    (round : ∀ n a w, J n a w → c.wp P (Exit.then (fun a w => ∃ m, m < n ∧ J m a w) Q) a w) : (Code.loop c).wp P Q a w := by
  intro b k cs
  have key : ∀ n a w, J n a w → ∃ e a' w', Q e a' w' ∧ Arrives P (lone (b.at a (.code c :: .inLoop c :: k)) cs w) b k cs e a' w' := by
    intro n
    induction n using Nat.strongRecOn with
    | _ n ih =>
      intro a w hJ
      obtain ⟨e, a₁, w₁, hq, harr⟩ := round n a w hJ b (.inLoop c :: k) cs
      cases e with
      | normal =>
        obtain ⟨m, hlt, hq⟩ := hq
        obtain ⟨e₂, a₂, w₂, hq₂, harr₂⟩ := ih m hlt a₁ w₁ hq
        exact ⟨e₂, a₂, w₂, hq₂, .of_steps (Steps.trans harr (.one step_inLoop)) harr₂⟩
      | exit id => exact ⟨_, a₁, w₁, hq, .pass (x := .inLoop c) rfl (fun _ _ => .inl (by simp)) harr⟩
      | goto l => exact ⟨_, a₁, w₁, hq, .pass (x := .inLoop c) rfl (fun _ _ => .inl (by simp)) harr⟩
      | ret => exact ⟨_, a₁, w₁, hq, .pass (x := .inLoop c) rfl (fun _ _ => .inl (by simp)) harr⟩
      | panic ch => exact ⟨_, a₁, w₁, hq, .pass (x := .inLoop c) rfl (fun _ _ => .inl (by simp)) harr⟩
      | outgrown => exact ⟨_, a₁, w₁, hq, .pass (x := .inLoop c) rfl (fun _ _ => .inl (by simp)) harr⟩
  obtain ⟨e, a', w', hq, harr⟩ := key n a w h₀
  exact ⟨e, a', w', hq, .of_steps (.one step_loop) harr⟩

/-- where the run comes to -/
def Post (S K : Nat → Prop) (w0 w : World) (gv : List Value) (nt : Nat) (Q : Out → St → Prop) (e : Exit) (a' : Act) (w' : World) : Prop :=
  ∃ o s', Q o s' ∧ e = outE o ∧ ∃ S' Kn' φ', Stp S w S' w' ∧ Rel S' K w0 Kn' φ' gv nt s' a' w'

theorem Post.trans {S' : Nat → Prop} {w' : World} (h : Stp S w S' w') {Q : Out → St → Prop} {e : Exit} {a' : Act} {w'' : World} (hp : Post S' K w0 w' gv nt Q e a' w'') : Post S K w0 w gv nt Q e a' w'' := by
  obtain ⟨o, s', h0, h1, S'', Kn', φ', h2, h3⟩ := hp
  exact ⟨o, s', h0, h1, S'', Kn', φ', h.trans h2, h3⟩

theorem Post.of_wk {Q : Out → St → Prop} {o : Out} {a' : Act} {w' : World} {S' Kn' : Nat → Prop} {φ' : Nat → Loc} (h : wk (Q o) s') (hs : Stp S w S' w') (hR : Rel S' K w0 Kn' φ' gv nt s' a' w') : Post S K w0 w gv nt Q (outE o) a' w' := by
  obtain ⟨s1, h1, h2⟩ := h
  obtain ⟨S1, Kn1, φ1, h3, h4⟩ := h1 S' K w0 Kn' φ' gv nt a' w' hR
  exact ⟨o, s1, h2, rfl, S1, Kn1, φ1, hs.trans h3, h4⟩

theorem code_sound (hnt : nt < 1000000000) (hm : P.follows .mixedOrders = true) : ∀ (code : Code) (ks : List (List Nat)) (s : St) (Q : Out → St → Prop) (S : Nat → Prop) (Kn : Nat → Prop) (φ : Nat → Loc) (a : Act) (w : World),
    W P (comp P sig nt code ks).1 s Q → Rel S K w0 Kn φ gv nt s a w → code.wp P (Post S K w0 w gv nt Q) a w := by
  intro code
  induction code with
  | skip =>
    intro ks s Q S Kn φ a w h hR
    exact wp_skip (Post.of_wk h (Stp.refl _ _) hR)
  | region id ops draw =>
    intro ks s Q S Kn φ a w h hR
    simp only [comp] at h
    cases draw with
    | false =>
      simp only [Bool.false_eq_true, if_false, W] at h
      refine wp_region ?_
      refine wo_sound (gv := gv) (K := K) (w0 := w0) hnt (List.range ops.size) ops.toList s S Kn φ a w ?_ (by simp) h hR fun S' Kn' φ' s' a' w' h0 h1 h2 => Post.of_wk (o := .normal) h0 h1 (h2.keep _)
      intro i j hj
      obtain ⟨hlt, rfl⟩ : i < ops.size ∧ i = j := by
        have := List.getElem?_eq_some_iff.1 hj
        obtain ⟨h1, h2⟩ := this
        simp at h1 h2
        exact ⟨h1, h2⟩
      simp
    | true =>
      simp only [if_true] at h
      unfold compDrawn at h
      simp only at h
      split at h
      · rename_i hc
        simp only [Bool.and_eq_true] at hc
        simp only [W] at h
        obtain ⟨s1, hsub, calls, e1, h1, tr, hok, hev, hdyn, hq⟩ := h
        obtain ⟨S1, Kn1, φ1, hs1, hR1⟩ := hsub S K w0 Kn φ gv nt a w hR
        refine wp_region_any hm ?_
        exact drawn_sound hok hnt rfl hc.1.1 hc.1.2 hev hdyn (by simpa using hc.2) hR1 fun S' Kn' φ' a' w' h1 h2 => Post.of_wk (o := .normal) hq (hs1.trans h1) (h2.keep _)
      · simp [W] at h
  | seq x y ihx ihy =>
    intro ks s Q S Kn φ a w h hR
    simp only [comp, W] at h
    refine wp_seq ?_
    refine wp_mono (ihx ks s _ S Kn φ a w h hR) fun e a' w' hp => ?_
    obtain ⟨o, s', h0, rfl, S', Kn', φ', h1, h2⟩ := hp
    cases o with
    | normal => exact wp_mono (ihy _ s' Q S' Kn' φ' a' w' h0 h2) fun e a'' w'' hp => hp.trans h1
    | exit id => exact ⟨.exit id, s', h0, rfl, S', Kn', φ', h1, h2⟩
    | ret => exact ⟨.ret, s', h0, rfl, S', Kn', φ', h1, h2⟩
  | cond c x y ihx ihy =>
    intro ks s Q S Kn φ a w h hR
    simp only [comp, W] at h
    obtain ⟨s1, hsub, t, ht, h1, h2⟩ := h
    obtain ⟨S1, Kn1, φ1, hs1, hR1⟩ := hsub S K w0 Kn φ gv nt a w hR
    have hv := (opv_sound hR1.inv.glob hR1.env ht).lit.1
    refine wp_cond hv ?_
    cases t with
    | true => exact wp_mono (ihx ks s1 Q S1 Kn1 φ1 a w (h1 rfl) hR1) fun _ _ _ hp => hp.trans hs1
    | false => exact wp_mono (ihy _ s1 Q S1 Kn1 φ1 a w (h2 rfl) hR1) fun _ _ _ hp => hp.trans hs1
  | block id x ih =>
    intro ks s Q S Kn φ a w h hR
    simp only [comp, W] at h
    refine wp_block ?_
    refine wp_mono (ih ks s _ S Kn φ a w h hR) fun e a' w' hp => ?_
    obtain ⟨o, s', h0, rfl, hp⟩ := hp
    cases o with
    | normal => exact ⟨.normal, s', h0, rfl, hp⟩
    | ret => exact ⟨.ret, s', h0, rfl, hp⟩
    | exit id' =>
      simp only [outE, Exit.inBlock]
      simp only [OutOf] at h0
      by_cases hid : id' = id
      · rw [if_pos hid] at h0 ⊢
        exact ⟨.normal, s', h0, rfl, hp⟩
      · rw [if_neg hid] at h0 ⊢
        exact ⟨.exit id', s', h0, rfl, hp⟩
  | loop x ih =>
    intro ks s Q S Kn φ a w h hR
    simp only [comp, W] at h
    obtain ⟨I, n, ⟨s0, hsub, hI⟩, hstep⟩ := h
    obtain ⟨S0, Kn0, φ0, hs0, hR0⟩ := hsub S K w0 Kn φ gv nt a w hR
    refine wp_loop_fuel (J := fun n a' w' => ∃ s1 S1 Kn1 φ1, Stp S w S1 w' ∧ Rel S1 K w0 Kn1 φ1 gv nt s1 a' w' ∧ I n s1) n ⟨s0, S0, Kn0, φ0, hs0, hR0, hI⟩ fun n a1 w1 hJ => ?_
    obtain ⟨s1, S1, Kn1, φ1, h1, h2, h3⟩ := hJ
    refine wp_mono (ih _ s1 _ S1 Kn1 φ1 a1 w1 (hstep n s1 h3) h2) fun e a' w' hp => ?_
    obtain ⟨o, s2, h0, rfl, S2, Kn2, φ2, h4, h5⟩ := hp
    cases o with
    | normal =>
      obtain ⟨m, hm, s3, h6, h7⟩ := h0
      obtain ⟨S3, Kn3, φ3, h8, h9⟩ := h6 S2 K w0 Kn2 φ2 gv nt a' w' h5
      exact ⟨m, hm, s3, S3, Kn3, φ3, (h1.trans h4).trans h8, h9, h7⟩
    | exit id => exact ⟨.exit id, s2, h0, rfl, S2, Kn2, φ2, h1.trans h4, h5⟩
    | ret => exact ⟨.ret, s2, h0, rfl, S2, Kn2, φ2, h1.trans h4, h5⟩
  | exit id =>
    intro ks s Q S Kn φ a w h hR
    exact wp_exit (Post.of_wk (o := .exit id) h (Stp.refl _ _) hR)
  | ret =>
    intro ks s Q S Kn φ a w h hR
    exact wp_ret (Post.of_wk (o := .ret) h (Stp.refl _ _) hR)
  | _ =>
    intro ks s Q S Kn φ a w h hR
    simp [comp, W] at h

end
end Go.Ev
