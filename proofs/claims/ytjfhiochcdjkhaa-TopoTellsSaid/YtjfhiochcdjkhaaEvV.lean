/- A function against the abstract machine's function. Conditions: the relation of XEvC; the oracle's answers are good; the program's mark for mixed orders. -/
import Derived.Test.YtjfhiochcdjkhaaEvU
namespace Go.Ev

def rvOf (P : Program) : ResultVar → Option RV
  | .tmp t => some (.tmp t)
  | .cell a t => match aggOf P t, szOf P t with | some g, some n => some (.cell a g n) | _, _ => none

def rvsOf (P : Program) : List ResultVar → Option (List RV)
  | [] => some []
  | r :: rs => match rvOf P r, rvsOf P rs with | some x, some xs => some (x :: xs) | _, _ => none

/-- a function, translated -/
def compFn (P : Program) (sig : Sig) (f np : Nat) (ks : List (List Nat)) : Option Fn :=
  match P.funcs[f]? with
  | none => none
  | some g =>
    match g.body with
    | none => none
    | some code =>
      if (g.name == "runtime.NumGoroutine") = false ∧ np ≤ g.ntmps ∧ g.ntmps < 1000000000 then
        match rvsOf P g.results.toList with
        | some rvs => some ⟨np, g.ntmps, rvs, (comp P sig g.ntmps code ks).1⟩
        | none => none
      else none

section
variable {P : Program} {S K : Nat → Prop} {w0 w : World} {gv : List Value} {nt : Nat} {a : Act} {call : Call} {sig : Sig} {s s' : St}

theorem Laid.any {Kn : Nat → Prop} {φ φ1 : Nat → Loc} {hf : Nat → Option Ob} {fa : List Nat} {n m : Nat} {u : Upd} (h : Laid S K w0 w Kn φ hf fa n m u φ1) : Ren Kn φ (KnU Kn n m) φ1 := h.ren

theorem enter_sound : ∀ (as : List A) {Kn : Nat → Prop} {φ : Nat → Loc} {hf : Nat → Option Ob} (vs : List Value) (fp : List Nat) (i n : Nat), Inv S K w0 Kn φ hf w → (∀ j, n ≤ j → ¬ Kn j) → RAs S w as vs fp → fp.Nodup →
    (∀ b ∈ fp, ¬ S b ∧ ¬ K b) → Away φ hf fp →
    ∃ φ', Laid S K w0 w Kn φ hf fp n (enter as i n).2.2.1 (enter as i n).2.1 φ' ∧
      (∀ t x, fnd (enter as i n).1 t = some x → i ≤ t ∧ ∃ v, vs[t - i]? = some v ∧ RTV S w (KnU Kn n (enter as i n).2.2.1) φ' x v) ∧
      (∀ (k : Nat) (c : C) (v : Value), (enter as i n).2.2.2[k]? = some c → (lentV as vs)[k]? = some v → RC S w (KnU Kn n (enter as i n).2.2.1) φ' c v) ∧
      (enter as i n).2.2.2.length = (lentV as vs).length ∧ as.length = vs.length := by
  intro as
  induction as with
  | nil =>
    intro Kn φ hf vs fp i n hI hfr h hn hSK ha
    cases vs with
    | cons v vs => exact h.elim
    | nil =>
      obtain rfl : fp = [] := h
      exact ⟨φ, Laid.nil hI _ _, fun t x hx => by simp [enter, fnd] at hx, fun k c v hk => by simp [enter] at hk, rfl, rfl⟩
  | cons x as ih =>
    intro Kn φ hf vs fp i n hI hfr h hn hSK ha
    cases vs with
    | nil => exact h.elim
    | cons v vs =>
      obtain ⟨f1, f2, rfl, h1, h2⟩ := h
      have next : ∀ {e : Env} {i' : Nat} {t : Nat} {x : TV} {φ' : Nat → Loc} {Kn' : Nat → Prop}, i + 1 ≤ t ∧ (∃ v, vs[t - (i + 1)]? = some v ∧ RTV S w Kn' φ' x v) → i ≤ t ∧ ∃ v', (v :: vs)[t - i]? = some v' ∧ RTV S w Kn' φ' x v' := by
        intro e i' t x φ' Kn' ⟨q1, v', q2, q3⟩
        refine ⟨by omega, v', ?_, q3⟩
        rw [show t - i = (t - (i + 1)) + 1 by omega]
        simpa using q2
      cases x with
      | d y =>
        obtain ⟨h1, rfl⟩ := h1
        obtain ⟨φ', q1, q2, q3, q4, q5⟩ := ih (Kn := Kn) (φ := φ) (hf := hf) vs f2 (i + 1) n hI hfr h2 (by simpa using hn) (by simpa using hSK) (by simpa using ha)
        refine ⟨φ', q1, fun t x hx => ?_, q3, q4, by simp [q5]⟩
        simp only [enter, fnd] at hx
        by_cases e : i = t
        · subst e
          simp at hx
          subst hx
          exact ⟨Nat.le_refl _, v, by simp, .c (.d h1)⟩
        · have e' : (i == t) = false := by simpa using e
          rw [e', cond_false] at hx
          exact next (e := []) (i' := 0) (q2 t x hx)
      | agg xs =>
        obtain ⟨arr, rfl, hlen, h1, rfl⟩ := h1
        obtain ⟨φ', q1, q2, q3, q4, q5⟩ := ih (Kn := Kn) (φ := φ) (hf := hf) vs f2 (i + 1) n hI hfr h2 (by simpa using hn) (by simpa using hSK) (by simpa using ha)
        refine ⟨φ', q1, fun t x hx => ?_, q3, q4, by simp [q5]⟩
        simp only [enter, fnd] at hx
        by_cases e : i = t
        · subst e
          simp at hx
          subst hx
          refine ⟨Nat.le_refl _, _, by simp; rfl, .agg (by simpa using hlen) fun j x hj => ?_⟩
          rw [List.getElem?_map] at hj
          obtain ⟨d, hd, rfl⟩ := Option.map_eq_some_iff.1 hj
          exact .d (h1 j d hd)
        · have e' : (i == t) = false := by simpa using e
          rw [e', cond_false] at hx
          exact next (e := []) (i' := 0) (q2 t x hx)
      | mt t0 =>
        rw [List.nodup_append] at hn
        obtain ⟨hn1, hn2, hn3⟩ := hn
        simp only [List.mem_append] at hSK
        obtain ⟨φ1, hL1, hr1⟩ := unC_sound t0 n v f1 hI (fun j hj _ => hfr j hj) h1 hn1 (fun b hb => hSK b (.inl hb)) (fun j o hj hown hm => ha j o hj hown (by simp [hm]))
        obtain ⟨φ2, hL2, q2, q3, q4, q5⟩ := ih (Kn := KnU Kn n (unC n t0).2.2) (φ := φ1) (hf := updF (unC n t0).2.1 hf) vs f2 (i + 1) (unC n t0).2.2 hL1.inv (fun j hj hk => by
          rcases hk with hk | hk
          · have := hL1.le; exact hfr j (by omega) hk
          · omega) h2 hn2 (fun b hb => hSK b (.inr hb)) (hL1.away hI (fun j o hj hown hm => ha j o hj hown (by simp [hm])) fun x hx hx2 => hn3 x hx x hx2 rfl)
        have hcomp := hL1.comp hL2
        have hcm : updF ((enter as (i + 1) (unC n t0).2.2).2.1 ++ (unC n t0).2.1) hf = updF ((unC n t0).2.1 ++ (enter as (i + 1) (unC n t0).2.2).2.1) hf :=
          updF_comm fun p hp q hq e => by
            have h1 := hL2.fresh p hp
            have h2 := hL1.fresh q hq
            omega
        have hsub : ∀ j, KnU (KnU Kn n (unC n t0).2.2) (unC n t0).2.2 (enter as (i + 1) (unC n t0).2.2).2.2.1 j → KnU Kn n (enter as (i + 1) (unC n t0).2.2).2.2.1 j := fun j => (knu_knu hL1.le hL2.le j).1
        refine ⟨φ2, ?_, fun t x hx => ?_, fun k c v' hk hv => ?_, by simp [enter, lentV, q4], by simp [q5]⟩
        · simp only [enter]
          refine ⟨hcomp.le, hcomp.ren, hcm ▸ hcomp.inv, fun p hp => hcomp.fresh p ?_, hcomp.blk⟩
          rcases List.mem_append.1 hp with h | h
          · exact List.mem_append_right _ h
          · exact List.mem_append_left _ h
        · simp only [enter, fnd] at hx ⊢
          by_cases e : i = t
          · subst e
            simp at hx
            subst hx
            exact ⟨Nat.le_refl _, v, by simp, .c ((hr1.mono (Stp.refl _ _) hL2.ren).kn hsub)⟩
          · have e' : (i == t) = false := by simpa using e
            rw [e', cond_false] at hx
            obtain ⟨p1, v', p2, p3⟩ := q2 t x hx
            exact next (e := []) (i' := 0) ⟨p1, v', p2, p3.mono (Stp.refl _ _) ⟨hsub, fun _ _ => rfl⟩⟩
        · simp only [enter] at hk ⊢
          simp only [lentV] at hv
          cases k with
          | zero =>
            obtain rfl : (unC n t0).1 = c := by simpa using hk
            obtain rfl : v = v' := by simpa using hv
            exact (hr1.mono (Stp.refl _ _) hL2.ren).kn hsub
          | succ k => exact (q3 k c v' (by simpa using hk) (by simpa using hv)).kn hsub

theorem packR_sound {Kn : Nat → Prop} {φ : Nat → Loc} {H : Heap} (hI : Inv S K w0 Kn φ (look H) w) {v : TV} {r : R} {own : List Nat} {x : Value} (h : packR H v = some (r, own)) (hv : RTV S w Kn φ v x) :
    RR S w r x (own.map fun i => (φ i).blk) ∧ ∀ i ∈ own, ∃ o, look H i = some o ∧ isOwn o = true := by
  cases hv with
  | c hv =>
    simp only [packR] at h
    split at h
    · rename_i t ids rd hp
      obtain ⟨rfl, rfl⟩ : R.c t = r ∧ ids = own := by simpa using h
      exact (pack_sound hI 60).1 _ _ _ _ _ hp hv
    · simp at h
  | @agg cs arr hlen hv =>
    simp only [packR] at h
    split at h
    · rename_i ts ids rd hp
      obtain ⟨rfl, rfl⟩ : R.agg ts = r ∧ ids = own := by simpa using h
      obtain ⟨h1, ⟨fps, h2, h3, h4⟩, h5⟩ := (pack_sound hI 60).2 _ _ _ _ hp (fun i => arr.getD i undef) hv
      exact ⟨⟨arr, fps, rfl, h1.trans hlen, h2, h3, h4⟩, h5⟩
    · simp at h
  | tup hlen hv => simp [packR] at h

theorem packRs_sound {Kn : Nat → Prop} {φ : Nat → Loc} {H : Heap} (hI : Inv S K w0 Kn φ (look H) w) : ∀ (tvs : List TV) (vs : List Value) (rs : List R) (own : List Nat), packRs H tvs = some (rs, own) → tvs.length = vs.length →
    (∀ (i : Nat) (t : TV) (v : Value), tvs[i]? = some t → vs[i]? = some v → RTV S w Kn φ t v) → RRs S w rs vs (own.map fun i => (φ i).blk) ∧ ∀ i ∈ own, ∃ o, look H i = some o ∧ isOwn o = true := by
  intro tvs
  induction tvs with
  | nil =>
    intro vs rs own h hl hr
    obtain ⟨rfl, rfl⟩ : [] = rs ∧ [] = own := by simpa [packRs] using h
    obtain rfl : vs = [] := List.length_eq_zero_iff.1 hl.symm
    exact ⟨rfl, fun i hi => by simp at hi⟩
  | cons t tvs ih =>
    intro vs rs own h hl hr
    cases vs with
    | nil => simp at hl
    | cons v vs =>
      simp only [packRs] at h
      split at h
      · rename_i r o1 rs1 o2 hp hps
        obtain ⟨rfl, rfl⟩ : r :: rs1 = rs ∧ o1 ++ o2 = own := by simpa using h
        obtain ⟨a1, a2⟩ := packR_sound hI hp (hr 0 t v rfl rfl)
        obtain ⟨b1, b2⟩ := ih vs rs1 o2 hps (by simpa using hl) (fun i t v hi hv => hr (i + 1) t v (by simpa using hi) (by simpa using hv))
        refine ⟨⟨_, _, by simp, a1, b1⟩, fun i hi => ?_⟩
        rcases List.mem_append.1 hi with hi | hi
        · exact a2 i hi
        · exact b2 i hi
      · simp at h

theorem packCs_sound {Kn : Nat → Prop} {φ : Nat → Loc} {H : Heap} (hI : Inv S K w0 Kn φ (look H) w) : ∀ (cs : List C) (vs : List Value) (ts : List T) (own : List Nat), packCs H cs = some (ts, own) → cs.length = vs.length →
    (∀ (i : Nat) (c : C) (v : Value), cs[i]? = some c → vs[i]? = some v → RC S w Kn φ c v) → RTs S w ts vs (own.map fun i => (φ i).blk) ∧ ∀ i ∈ own, ∃ o, look H i = some o ∧ isOwn o = true := by
  intro cs
  induction cs with
  | nil =>
    intro vs ts own h hl hr
    obtain ⟨rfl, rfl⟩ : [] = ts ∧ [] = own := by simpa [packCs] using h
    obtain rfl : vs = [] := List.length_eq_zero_iff.1 hl.symm
    exact ⟨rfl, fun i hi => by simp at hi⟩
  | cons c cs ih =>
    intro vs ts own h hl hr
    cases vs with
    | nil => simp at hl
    | cons v vs =>
      simp only [packCs] at h
      split at h
      · rename_i t o1 rd ts1 o2 hp hps
        obtain ⟨rfl, rfl⟩ : t :: ts1 = ts ∧ o1 ++ o2 = own := by simpa using h
        obtain ⟨a1, a2⟩ := (pack_sound hI 60).1 _ _ _ _ _ hp (hr 0 c v rfl rfl)
        obtain ⟨b1, b2⟩ := ih vs ts1 o2 hps (by simpa using hl) (fun i t v hi hv => hr (i + 1) t v (by simpa using hi) (by simpa using hv))
        refine ⟨⟨_, _, by simp, a1, b1⟩, fun i hi => ?_⟩
        rcases List.mem_append.1 hi with hi | hi
        · exact a2 i hi
        · exact b2 i hi
      · simp at h

/-- one result -/
def resultM (tmps : Array Value) : ResultVar → Sem Value
  | .tmp t => pure (tmps.getD t undef)
  | .cell a t => do loadVar t (← asAddr (tmps.getD a undef))

theorem loadAt_cell {t : TypeId} {pv val : Value} (h : (Instr.loadAt t pv).run P w = .ok val w) : (do loadVar t (← asAddr pv) : Sem Value).run P w = .ok val w := by
  cases pv with
  | pointer x =>
    cases x with
    | some a => simpa [Instr.loadAt, Instr.sureAddr, asAddr] using h
    | none => simp [Instr.loadAt, Instr.sureAddr] at h
  | _ => simp [Instr.loadAt, Instr.sureAddr] at h

theorem result_sound {Kn : Nat → Prop} {φ : Nat → Loc} (hI : Inv S K w0 Kn φ (look s.heap) w) (hE : Env.ok S w Kn φ s.env a.tmps) {r : ResultVar} {x : RV} {v : TV} (hr : rvOf P r = some x) (h : resTV s x = some v) :
    ∃ val, (resultM a.tmps r).run P w = .ok val w ∧ RTV S w Kn φ v val := by
  cases r with
  | tmp t =>
    obtain rfl : RV.tmp t = x := by simpa [rvOf] using hr
    exact ⟨_, by simp [resultM], hE t v h⟩
  | cell t ty =>
    simp only [rvOf] at hr
    split at hr
    · rename_i g n hg hn
      obtain rfl := Option.some.inj hr
      simp only [resTV] at h
      split at h
      · rename_i p hp
        split at h
        · rename_i v' ids hl
          obtain rfl := Option.some.inj h
          cases hE t _ hp with
          | c hc =>
            obtain ⟨val, h1, h2⟩ := run_evLoad hg hn hI hc hl
            exact ⟨val, loadAt_cell h1, h2⟩
        · simp at h
      · simp at h
    · simp at hr

theorem results_sound {Kn : Nat → Prop} {φ : Nat → Loc} (hI : Inv S K w0 Kn φ (look s.heap) w) (hE : Env.ok S w Kn φ s.env a.tmps) : ∀ (rs : List ResultVar) (xs : List RV) (tvs : List TV), rvsOf P rs = some xs → allSome (xs.map (resTV s)) = some tvs →
    ∃ vs, (rs.mapM (resultM a.tmps)).run P w = .ok vs w ∧ tvs.length = vs.length ∧ ∀ (i : Nat) (t : TV) (v : Value), tvs[i]? = some t → vs[i]? = some v → RTV S w Kn φ t v := by
  intro rs
  induction rs with
  | nil =>
    intro xs tvs h1 h2
    obtain rfl : [] = xs := by simpa [rvsOf] using h1
    obtain rfl : [] = tvs := by simpa [allSome] using h2
    exact ⟨[], by simp, rfl, fun i t v hi => by simp at hi⟩
  | cons r rs ih =>
    intro xs tvs h1 h2
    simp only [rvsOf] at h1
    split at h1
    · rename_i x xs1 hx hxs
      obtain rfl := Option.some.inj h1
      simp only [List.map_cons] at h2
      cases hv : resTV s x with
      | none => rw [hv] at h2; simp [allSome] at h2
      | some v =>
        rw [hv] at h2
        simp only [allSome] at h2
        split at h2
        · rename_i tvs1 htv
          obtain rfl := Option.some.inj h2
          obtain ⟨val, q1, q2⟩ := result_sound hI hE hx hv
          obtain ⟨vs, q3, q4, q5⟩ := ih xs1 tvs1 hxs htv
          refine ⟨val :: vs, by simp [List.mapM_cons, q1, q3], by simp [q4], fun i t v' hi hv' => ?_⟩
          cases i with
          | zero =>
            obtain rfl : v = t := by simpa using hi
            obtain rfl : val = v' := by simpa using hv'
            exact q2
          | succ i => exact q5 i t v' (by simpa using hi) (by simpa using hv')
        · simp at h2
    · simp at h1

theorem run_results {g : Func} {tmps : Array Value} {vs : List Value} (h : (g.results.toList.mapM (resultM tmps)).run P w = .ok vs w) : (results g tmps).run P w = .ok (retVal vs) w := by
  have e : results g tmps = (do let vs ← g.results.mapM (resultM tmps); pure (if h : vs.size = 1 then vs[0] else .tuple vs)) := rfl
  have e2 : g.results.mapM (resultM tmps) = (do let vs ← g.results.toList.mapM (resultM tmps); pure vs.toArray) := by
    rw [Array.mapM_eq_mapM_toList, bind_pure_comp]
  rw [e, e2]
  simp only [Sem.run_bind, h, Result.andThen_ok, Sem.run_pure]
  match vs with
  | [] => rfl
  | [v] => rfl
  | v :: v' :: r => simp [retVal]

/-! ### what is handed back, frozen -/

mutual
def frzT : T → D
  | .d x => x
  | .sl sz rows => .sl sz rows
  | .pt ts => .pt (frzL ts)
def frzL : List T → List D
  | [] => []
  | t :: ts => frzT t :: frzL ts
end

theorem frzL_map : ∀ ts : List T, frzL ts = ts.map frzT := by
  intro ts
  induction ts with
  | nil => rfl
  | cons t ts ih => simp [frzL, ih]

theorem RT.frz {S S' : Nat → Prop} {w : World} {t : T} {v : Value} {fp : List Nat} (h : RT S w t v fp) (hS : ∀ b, S b → S' b) (hb : ∀ b ∈ fp, S' b) : RD S' w (frzT t) v := by
  have hst : Stp S w S' w := ⟨hS, fun _ _ => rfl⟩
  induction h with
  | d h => exact h.mono hst
  | @sl sz rows b off len cap arr hsz ho hlen hcap hext hr =>
    subst hlen
    refine .sl (fun i j => arr.getD (off + i * sz + j) undef) (hb b (by simp)) hsz hcap hr.1 (fun i r hi j x hj => ?_) (fun i r hi j x hj => ?_)
    · obtain ⟨v, h1, h2⟩ := hr.2 i r hi j x hj
      simp only at h1
      rw [ho.cell, h1, Array.getD_eq_getD_getElem?, h1]; rfl
    · obtain ⟨v, h1, h2⟩ := hr.2 i r hi j x hj
      simp only at h1
      rw [Array.getD_eq_getD_getElem?, h1]; exact h2.mono hst
  | @pt ts b arr fps ho hlen hfl h ih =>
    simp only [frzT, frzL_map]
    have hlt : ∀ (j : Nat) (x : D), (ts.map frzT)[j]? = some x → ∃ t f, ts[j]? = some t ∧ fps[j]? = some f ∧ x = frzT t := by
      intro j x hj
      rw [List.getElem?_map] at hj
      obtain ⟨t, ht, rfl⟩ := Option.map_eq_some_iff.1 hj
      have hl := (List.getElem?_eq_some_iff.1 ht).1
      exact ⟨t, _, ht, List.getElem?_eq_getElem (by omega), rfl⟩
    have key := RD.pt (S := S') (w := w) (cells := ts.map frzT) (b := b) (off := 0) (fun j => arr.getD j undef) (hb b (by simp)) (fun j x hj => ?_) (fun j x hj => ?_)
    · exact key
    · obtain ⟨t, f, h1, h2, rfl⟩ := hlt j x hj
      have hl := (List.getElem?_eq_some_iff.1 h1).1
      rw [Nat.zero_add, ho.cell, Array.getD_eq_getD_getElem?, Array.getElem?_eq_getElem (by omega)]; rfl
    · obtain ⟨t, f, h1, h2, rfl⟩ := hlt j x hj
      exact ih j t f h1 h2 fun b hbm => hb b (List.mem_cons_of_mem _ (List.mem_flatten.2 ⟨f, List.mem_of_getElem? h2, hbm⟩))

def frzR : R → R
  | .c t => .c (.d (frzT t))
  | .agg ts => .agg (ts.map fun t => .d (frzT t))

def frzRs : List Bool → List R → List R
  | b :: bs, r :: rs => (if b then frzR r else r) :: frzRs bs rs
  | _, rs => rs

theorem RR.mono' {S S' : Nat → Prop} {w : World} (hS : ∀ b, S b → S' b) {r : R} {v : Value} {fp : List Nat} (h : RR S w r v fp) : RR S' w r v fp := by
  have hst : Stp S w S' w := ⟨hS, fun _ _ => rfl⟩
  cases r with
  | c t => exact RT.mono hst h fun _ _ => rfl
  | agg ts =>
    obtain ⟨arr, fps, h1, h2, h3, h4, h5⟩ := h
    exact ⟨arr, fps, h1, h2, h3, h4, fun i t f hi hf => (h5 i t f hi hf).mono hst fun _ _ => rfl⟩

theorem RR.frz {S S' : Nat → Prop} {w : World} (hS : ∀ b, S b → S' b) {r : R} {v : Value} {fp : List Nat} (h : RR S w r v fp) (hb : ∀ b ∈ fp, S' b) : RR S' w (frzR r) v [] := by
  cases r with
  | c t => exact .d (RT.frz h hS hb)
  | agg ts =>
    obtain ⟨arr, fps, h1, h2, h3, h4, h5⟩ := h
    refine ⟨arr, ts.map fun _ => [], h1, by simp [h2], by simp, ?_, fun i t f hi hf => ?_⟩
    · clear h5 h3 h2
      induction ts with
      | nil => rfl
      | cons t ts ih => simp
    · simp only [List.getElem?_map, Option.map_eq_some_iff] at hi hf
      obtain ⟨t0, ht0, rfl⟩ := hi
      obtain ⟨_, _, rfl⟩ := hf
      have hl := (List.getElem?_eq_some_iff.1 ht0).1
      have hf : fps[i]? = some _ := List.getElem?_eq_getElem (by omega)
      refine .d ((h5 i t0 _ ht0 hf).frz hS fun b hbm => hb b ?_)
      rw [← h4]
      exact List.mem_flatten.2 ⟨_, List.mem_of_getElem? hf, hbm⟩

theorem RRs.mono' {S S' : Nat → Prop} {w : World} (hS : ∀ b, S b → S' b) : ∀ {rs : List R} {vs : List Value} {fp : List Nat}, RRs S w rs vs fp → RRs S' w rs vs fp := by
  intro rs
  induction rs with
  | nil => intro vs fp h; cases vs <;> exact h
  | cons r rs ih =>
    intro vs fp h
    cases vs with
    | nil => exact h
    | cons v vs =>
      obtain ⟨f1, f2, h1, h2, h3⟩ := h
      exact ⟨f1, f2, h1, h2.mono' hS, ih h3⟩

theorem RRs.frz {S : Nat → Prop} {w : World} : ∀ (m : List Bool) (rs : List R) (vs : List Value) (fp : List Nat), RRs S w rs vs fp → fp.Nodup →
    ∃ fpK, fpK.Sublist fp ∧ ∀ S' : Nat → Prop, (∀ b, S b → S' b) → (∀ b ∈ fp, b ∉ fpK → S' b) → RRs S' w (frzRs m rs) vs fpK := by
  intro m
  induction m with
  | nil => intro rs vs fp h hn; exact ⟨fp, List.Sublist.refl _, fun S' hS _ => by cases rs <;> exact h.mono' hS⟩
  | cons b m ih =>
    intro rs vs fp h hn
    cases rs with
    | nil => exact ⟨fp, List.Sublist.refl _, fun S' hS _ => h.mono' hS⟩
    | cons r rs =>
      cases vs with
      | nil => exact h.elim
      | cons v vs =>
        obtain ⟨f1, f2, rfl, h2, h3⟩ := h
        obtain ⟨n1, n2, n3⟩ := List.nodup_append.1 hn
        obtain ⟨fpK, hsub, hk⟩ := ih rs vs f2 h3 n2
        cases b with
        | true =>
          refine ⟨fpK, hsub.trans (List.sublist_append_right _ _), fun S' hS hb => ⟨[], fpK, rfl, h2.frz hS fun b hbm => hb b (List.mem_append_left _ hbm) fun hb2 => n3 b hbm b (hsub.subset hb2) rfl, hk S' hS fun b hbm hb2 => hb b (List.mem_append_right _ hbm) hb2⟩⟩
        | false =>
          refine ⟨f1 ++ fpK, List.Sublist.append (List.Sublist.refl _) hsub, fun S' hS hb => ⟨f1, fpK, rfl, h2.mono' hS, hk S' hS fun b hbm hb2 => hb b (List.mem_append_right _ hbm) fun hb3 => ?_⟩⟩
          rcases List.mem_append.1 hb3 with h | h
          · exact n3 b h b hbm rfl
          · exact hb2 h

theorem RRs.lt {S : Nat → Prop} {w : World} : ∀ {rs : List R} {vs : List Value} {fp : List Nat}, RRs S w rs vs fp → ∀ b ∈ fp, b < w.heap.size := by
  intro rs
  induction rs with
  | nil =>
    intro vs fp h b hb
    cases vs with
    | nil => have h' : fp = [] := h; subst h'; simp at hb
    | cons _ _ => exact h.elim
  | cons r rs ih =>
    intro vs fp h b hb
    cases vs with
    | nil => exact h.elim
    | cons v vs =>
      obtain ⟨f1, f2, rfl, h2, h3⟩ := h
      rcases List.mem_append.1 hb with hb | hb
      · cases r with
        | c t => exact RT.lt h2 b hb
        | agg ts =>
          obtain ⟨arr, fps, _, q2, q3, rfl, q5⟩ := h2
          obtain ⟨fp, hfp, hbf⟩ := List.mem_flatten.1 hb
          obtain ⟨i, hi, rfl⟩ := List.getElem_of_mem hfp
          exact (q5 i _ _ (List.getElem?_eq_getElem (by omega : i < ts.length)) (List.getElem?_eq_getElem hi)).lt b hbf
      · exact ih h3 b hb

theorem RTs.mono' {S S' : Nat → Prop} {w : World} (hS : ∀ b, S b → S' b) : ∀ {ts : List T} {vs : List Value} {fp : List Nat}, RTs S w ts vs fp → RTs S' w ts vs fp := by
  intro ts
  induction ts with
  | nil => intro vs fp h; cases vs <;> exact h
  | cons r rs ih =>
    intro vs fp h
    cases vs with
    | nil => exact h
    | cons v vs =>
      obtain ⟨f1, f2, h1, h2, h3⟩ := h
      exact ⟨f1, f2, h1, RT.mono ⟨hS, fun _ _ => rfl⟩ h2 fun _ _ => rfl, ih h3⟩

theorem Left.frz {S : Nat → Prop} {w w' : World} {fp : List Nat} {rs : List R} {outs : List T} {lent : List Value} {v : Value} (m : List Bool) (h : Left S w fp rs outs lent v w') : Left S w fp (frzRs m rs) outs lent v w' := by
  obtain ⟨S', rvs, fp1, fp2, h1, h2, h3, h4, h5, h6, h7, h8, h9⟩ := h
  obtain ⟨n1, n2, n3⟩ := List.nodup_append.1 h7
  obtain ⟨fpK, hsub, hk⟩ := RRs.frz m rs rvs fp1 h5 n1
  refine ⟨fun b => S' b ∨ (b ∈ fp1 ∧ b ∉ fpK), rvs, fpK, fp2, h1, ⟨fun b hb => .inl (h2.sub b hb), h2.same⟩, fun b hb => ?_, fun b hb => ?_, hk _ (fun b hb => .inl hb) (fun b hb hb2 => .inr ⟨hb, hb2⟩),
    RTs.mono' (fun b hb => .inl hb) h6, ?_, fun b hb => ?_, h9⟩
  · rcases hb with hb | hb
    · exact h3 b hb
    · exact .inr (h8 b (List.mem_append_left _ hb.1)).2
  · rcases hb with hb | hb
    · exact h4 b hb
    · exact RRs.lt h5 b hb.1
  · exact (List.Sublist.append hsub (List.Sublist.refl fp2)).nodup h7
  · rcases List.mem_append.1 hb with hb | hb
    · exact ⟨fun h => h.elim (h8 b (List.mem_append_left _ (hsub.subset hb))).1 fun h => h.2 hb, (h8 b (List.mem_append_left _ (hsub.subset hb))).2⟩
    · exact ⟨fun h => h.elim (h8 b (List.mem_append_right _ hb)).1 fun h => n3 b h.1 b hb rfl, (h8 b (List.mem_append_right _ hb)).2⟩

theorem Good.frz {f : FuncId} {as : List A} {rs : List R} {outs : List T} (h : Good P f as rs outs) (m : List Bool) : Good P f as (frzRs m rs) outs := by
  intro S w vs fp hlt hargs hnd hfp hgl
  rcases h S w vs fp hlt hargs hnd hfp hgl with ⟨g, as', h1, h2⟩ | ⟨v, h1, h2⟩
  · exact .inl ⟨g, as', h1, h2.mono fun e w' ⟨v, h3, h4⟩ => ⟨v, h3, h4.frz m⟩⟩
  · exact .inr ⟨v, h1, h2.frz m⟩

/-! ### a function -/

/-- where the code must come to; what is marked is handed back frozen -/
def Leaves (rvs : List RV) (m : List Bool) (len : Nat) (rs : List R) (outs : List T) : Out → St → Prop
  | .exit _, _ => False
  | .normal, s => wk (fun s => s.gh.length = len ∧ ∃ rs0, leave rvs s = some (rs0, outs) ∧ frzRs m rs0 = rs) s
  | .ret, s => wk (fun s => s.gh.length = len ∧ ∃ rs0, leave rvs s = some (rs0, outs) ∧ frzRs m rs0 = rs) s

def entered (as : List A) : St := ⟨(enter as 0 0).1, (enter as 0 0).2.1, (enter as 0 0).2.2.1, (enter as 0 0).2.2.2⟩

/-- a function by its run -/
def FnW (P : Program) (F : Fn) (m : List Bool) (as : List A) (rs : List R) (outs : List T) : Prop :=
  as.length = F.np ∧ W P F.body (entered as) (Leaves F.rvs m (entered as).gh.length rs outs)

/-- a function's answer is good -/
theorem fn_good (hm : P.follows .mixedOrders = true) {f np : Nat} {ks : List (List Nat)} {F : Fn} (hF : compFn P sig f np ks = some F) {as : List A} {rs : List R} {outs : List T}
    {m : List Bool} (h : FnW P F m as rs outs) : Good P f as rs outs := by
  unfold compFn at hF
  split at hF
  · simp at hF
  rename_i g hg
  split at hF
  · simp at hF
  rename_i code hb
  split at hF
  case isFalse => simp at hF
  rename_i hc
  obtain ⟨hname, hnp, hnt⟩ := hc
  split at hF
  case h_2 => simp at hF
  rename_i rvs hrv
  obtain rfl := Option.some.inj hF
  obtain ⟨hlen, h⟩ := h
  simp only at hlen h
  intro S w vs fp hlt hargs hnd hfp hglob
  left
  refine ⟨f, vs.toArray, ?_, ?_⟩
  · simp [callFunc, run_program, hg, hb]
    intro e
    rw [e] at hname
    simp at hname
  refine calls_of_wp hg hb ?_
  have hI0 : Inv S (fun b => b < w.heap.size ∧ b ∉ fp ∧ ¬ S b) w (fun _ => False) (fun _ => default) (look []) w := by
    refine ⟨hlt, fun b hb h => h.2.2 hb, ⟨fun b hb => hb.1, fun _ _ => rfl, Nat.le_refl _, fun _ => rfl, fun b arr ho => ⟨arr, ho, rfl⟩, rfl, rfl⟩, fun id o ho => by simp [look, fnd] at ho, fun i j a b ha => by simp [look, fnd] at ha, hglob⟩
  obtain ⟨φ, hL, q1, q2, q3, q4⟩ := enter_sound as (S := S) (K := fun b => b < w.heap.size ∧ b ∉ fp ∧ ¬ S b) (w0 := w) (w := w) (Kn := fun _ => False) (φ := fun _ => default) (hf := look []) vs fp 0 0 hI0 (fun _ _ h => h) hargs hnd
    (fun b hb => ⟨hfp b hb, fun h => h.2.1 hb⟩) (fun j o ho => by simp [look, fnd] at ho)
  unfold entered at h
  generalize hen : enter as 0 0 = en at h hL q1 q2 q3
  obtain ⟨e, hp, n, lent⟩ := en
  simp only at h hL q1 q2 q3
  have hRel : Rel S (fun b => b < w.heap.size ∧ b ∉ fp ∧ ¬ S b) w (KnU (fun _ => False) 0 n) φ (lentV as vs) g.ntmps ⟨e, hp, n, lent⟩
      { tmps := vs.toArray ++ Array.replicate (g.ntmps - vs.toArray.size) undef, defers := [] } w := by
    refine ⟨?_, fun t x hx => ?_, ?_, rfl, fun j hj hk => ?_, q2⟩
    · have : look hp = updF hp (look []) := by rw [← look_append, List.append_nil]
      rw [this]; exact hL.inv
    · obtain ⟨_, v, hv, hr⟩ := q1 t x hx
      have hv' : vs[t]? = some v := by simpa using hv
      have : (vs.toArray ++ Array.replicate (g.ntmps - vs.toArray.size) undef).getD t undef = v := by
        have ht : t < vs.length := (List.getElem?_eq_some_iff.1 hv').1
        rw [Array.getD_eq_getD_getElem?, Array.getElem?_append_left (by simpa using ht)]
        simp [hv']
      simp only [this]; exact hr
    · simp; omega
    · rcases hk with hk | hk
      · exact hk
      · have : n ≤ j := hj
        omega
  refine wp_mono (code_sound hnt hm code ks _ _ S _ φ _ w h hRel) fun ex a' w' hp => ?_
  obtain ⟨o, s', hl, rfl, S', Kn', φ', hs, hR⟩ := hp
  have main : ∀ (s' : St) (rs : List R) (S' Kn' : Nat → Prop) (φ' : Nat → Loc), Stp S w S' w' → Rel S' (fun b => b < w.heap.size ∧ b ∉ fp ∧ ¬ S b) w Kn' φ' (lentV as vs) g.ntmps s' a' w' → s'.gh.length = lent.length → leave rvs s' = some (rs, outs) →
      a'.defers = [] ∧ ∃ v, (results g a'.tmps).run P w' = .ok v w' ∧ ∃ v', Ending.returned v = Ending.returned v' ∧ Left S w fp rs outs (lentV as vs) v' w' := by
    intro s' rs S' Kn' φ' hs hR hgl hlv
    unfold leave at hlv
    split at hlv
    · simp at hlv
    rename_i tvs htv
    split at hlv
    case h_2 => simp at hlv
    rename_i rs1 oa ts1 ob hpr hpc
    split at hlv
    case isFalse => simp at hlv
    rename_i hnod
    obtain ⟨rfl, rfl⟩ : rs1 = rs ∧ ts1 = outs := by simpa using hlv
    obtain ⟨rv, p1, p2, p3⟩ := results_sound hR.inv hR.env _ _ _ hrv htv
    obtain ⟨r1, r2⟩ := packRs_sound hR.inv tvs rv rs1 oa hpr p2 p3
    obtain ⟨t1, t2⟩ := packCs_sound hR.inv s'.gh (lentV as vs) ts1 ob hpc (hgl.trans q3) hR.gh
    have hown : ∀ i ∈ oa ++ ob, ∃ o, look s'.heap i = some o ∧ isOwn o = true := by
      intro i hi
      rcases List.mem_append.1 hi with hi | hi
      · exact r2 i hi
      · exact t2 i hi
    have hfrm := hR.inv.frm
    refine ⟨hR.defers, _, run_results p1, _, rfl, S', rv, _, _, rfl, hs, fun b hb => ?_, hR.inv.slt, r1, t1, ?_, ?_, ?_⟩
    · by_cases h1 : b < w.heap.size
      · by_cases h2 : b ∈ fp
        · exact .inr (.inl h2)
        · by_cases h3 : S b
          · exact .inl h3
          · exact absurd ⟨h1, h2, h3⟩ (hR.inv.sk b hb)
      · exact .inr (.inr (by omega))
    · rw [← List.map_append]; exact blk_nodup hR.inv hnod hown
    · rw [← List.map_append]
      intro b hb
      obtain ⟨i, hi, rfl⟩ := List.mem_map.1 hb
      obtain ⟨oi, hoi, hoo⟩ := hown i hi
      obtain ⟨k1, k2, k3⟩ := (hR.inv.obj i oi hoi).2.own hoo
      refine ⟨k1, ?_⟩
      by_cases h1 : (φ' i).blk < w.heap.size
      · by_cases h2 : (φ' i).blk ∈ fp
        · exact .inl h2
        · by_cases h3 : S (φ' i).blk
          · exact absurd (hs.sub _ h3) k1
          · exact absurd ⟨h1, h2, h3⟩ k2
      · exact .inr (by omega)
    · refine ⟨fun b hb => hb.1, fun b hb => ?_, hfrm.grow, hfrm.frz, hfrm.own, hfrm.io⟩
      by_cases h3 : S b
      · exact hs.same b h3
      · exact hfrm.keep b ⟨hb.1, hb.2, h3⟩
  have fin : wk (fun s => s.gh.length = lent.length ∧ ∃ rs0, leave rvs s = some (rs0, outs) ∧ frzRs m rs0 = rs) s' →
      a'.defers = [] ∧ ∃ v, (results g a'.tmps).run P w' = .ok v w' ∧ ∃ v', Ending.returned v = Ending.returned v' ∧ Left S w fp rs outs (lentV as vs) v' w' := by
    rintro ⟨s1, hsub, hgl, rs0, hlv, rfl⟩
    obtain ⟨S1, Kn1, φ1, hs1, hR1⟩ := hsub S' _ w Kn' φ' _ _ a' w' hR
    obtain ⟨q1, v, q2, v', q3, q4⟩ := main s1 rs0 S1 Kn1 φ1 (hs.trans hs1) hR1 hgl hlv
    exact ⟨q1, v, q2, v', q3, q4.frz m⟩
  cases o with
  | exit id => exact hl.elim
  | normal => exact fin hl
  | ret => exact fin hl


end
end Go.Ev
