/- The model's operations against the abstract machine's, fourth part: make, stores, append. Conditions: the relation of XEvC. -/
import Derived.Test.YtjfhiochcdjkhaaEvJ
namespace Go.Ev

section
variable {P : Program} {S K : Nat → Prop} {w0 w : World} {Kn : Nat → Prop} {φ : Nat → Loc} {H : Heap} {e : Env} {ρ : Operand → Value} {o : Oper} {call : Call}
  {nxt n' : Nat} {v : TV} {u : Upd} {ids : List Nat}

theorem bytesOk_get {el : TypeId} (h : bytesOk P el = true) : ∃ i, P.info? el = some i ∧ 0 < i.bytes ∧ i.bytes ≤ 16384 := by
  unfold bytesOk at h
  split at h
  · rename_i i hi
    simp only [Bool.and_eq_true, decide_eq_true_eq] at h
    exact ⟨i, hi, h.1, h.2⟩
  · simp at h

theorem op_makeSlice {t el : TypeId} {n : Nat} {l c : Operand} {z : List Value} (ho : o.op = .makeSlice t l c) (hu : P.underlying t = some (.slice el))
    (hs : szOf P el = some (n + 1)) (hz : zeroOf P el = some z) (hzl : z.length = n + 1) (hb : bytesOk P el = true)
    (hI : Inv S K w0 Kn φ (look H) w) (hn0 : nxt < n' → ¬ Kn nxt) {tl tc : Option TV} (hl : ∀ y, tl = some y → RTV S w Kn φ y (ρ l)) (hc : ∀ y, tc = some y → RTV S w Kn φ y (ρ c))
    (h : ev1 call (.makeSlice z) [tl, tc] H nxt = some (v, u, ids, n')) : Runs P o ρ S K w0 w Kn φ (look H) nxt n' v u := by
  change (match intOf? tl, intOf? tc with
    | some l, some c =>
      if 0 ≤ l ∧ l ≤ c ∧ c ≤ lim then some (TV.c (.osl z.length nxt 0 l.toNat), [(nxt, some (Ob.arr z.length (List.replicate l.toNat (litsD z))))], ([] : List Nat), nxt + 1) else none
    | _, _ => none) = _ at h
  split at h
  · rename_i a b ha hb'
    split at h
    · rename_i hle
      obtain ⟨h0, h1, h2⟩ := hle
      obtain ⟨rfl, rfl, rfl, rfl⟩ : TV.c (.osl z.length nxt 0 a.toNat) = v ∧ [(nxt, some (Ob.arr z.length (List.replicate a.toNat (litsD z))))] = u ∧ [] = ids ∧ nxt + 1 = n' := by simpa using h
      have hn := hn0 (Nat.lt_succ_self _)
      obtain ⟨k1, hk1⟩ := intOf_get ha hl
      obtain ⟨k2, hk2⟩ := intOf_get hb' hc
      obtain ⟨i, hi, hby0, hby⟩ := bytesOk_get hb
      obtain ⟨zv, hzr, hzv, hzp⟩ := run_zero hz w
      simp only [lim] at h2
      have hwa : IntKind.i64.wrap a = a := wrap_small h0 (by omega)
      have hwb : IntKind.i64.wrap b = b := wrap_small (by omega) (by omega)
      have hmul : (i.bytes : Int) * b ≤ 16384 * 2147483648 := Int.mul_le_mul (by omega) (by omega) (by omega) (by omega)
      have hsz : (z.length) = zv.cells.size := by rw [← hzv]; simp
      let arr : Array Value := (Array.range (b.toNat * (n + 1))).map (fun i => zv.cells[i % zv.cells.size]!)
      have harr : arr.toList = (List.range (b.toNat * (n + 1))).map fun i => z.getD (i % (n + 1)) undef := zeros_eq hzv hzl (Nat.succ_pos _)
      have hsize : arr.size = b.toNat * (n + 1) := by simp [arr]
      have hrows : RowsAt S w (n + 1) (fun i => arr[i]?) 0 (List.replicate a.toNat (litsD z)) := by
        refine ⟨fun i r hi => ?_, fun i r hi j x hj => ?_⟩
        · obtain ⟨_, rfl⟩ : i < a.toNat ∧ litsD z = r := by
            rw [List.getElem?_replicate] at hi
            split at hi
            · rename_i hlt; exact ⟨hlt, Option.some.inj hi⟩
            · simp at hi
          simp [litsD, hzl]
        · obtain ⟨hlt, rfl⟩ : i < a.toNat ∧ litsD z = r := by
            rw [List.getElem?_replicate] at hi
            split at hi
            · rename_i hlt; exact ⟨hlt, Option.some.inj hi⟩
            · simp at hi
          simp only [litsD, List.getElem?_map] at hj
          obtain ⟨y, hy, rfl⟩ := Option.map_eq_some_iff.1 hj
          have hjl : j < n + 1 := by rw [← hzl]; exact (List.getElem?_eq_some_iff.1 hy).1
          refine ⟨y, ?_, .lit (hzp y (List.mem_of_getElem? hy))⟩
          have hidx : i * (n + 1) + j < b.toNat * (n + 1) := by
            have : (i + 1) * (n + 1) ≤ b.toNat * (n + 1) := Nat.mul_le_mul_right _ (by omega)
            rw [Nat.succ_mul] at this; omega
          show arr[0 + i * (n + 1) + j]? = some y
          rw [← Array.getElem?_toList, harr, Nat.zero_add, List.getElem?_map, List.getElem?_range hidx]
          have e1 : (i * (n + 1) + j) % (n + 1) = j := by
            rw [Nat.add_comm, Nat.add_mul_mod_self_right]; exact Nat.mod_eq_of_lt hjl
          simp [e1, List.getD, hy]
      have hD := Done.arr (K := K) (w0 := w0) hI hn (cap := b.toNat) (arr := arr) el (Nat.succ_pos n) (by simp; omega) (by rw [hsize]; exact Nat.le_refl _) hrows
      rw [List.length_replicate] at hD
      rw [hzl]
      refine ⟨.value (.slice (some ⟨w.heap.size, 0, none⟩) a.toNat b.toNat), _, _, ?_, .inl rfl, hD⟩
      have hinfo : ∀ w : World, (typeInfo el).run P w = .ok i w := fun w => by simp [typeInfo, hi]
      have harr0 : ∀ zc : Array Value, (b.toNat * (n + 1) = 0 → zc = #[]) → (¬ b.toNat * (n + 1) = 0 → zc = zv.cells) → ((Array.range (b.toNat * (n + 1))).map (fun i => zc[i % zc.size]!)) = arr := by
        intro zc h1 h2
        by_cases hc0 : b.toNat * (n + 1) = 0
        · apply Array.ext'
          rw [harr, hc0]; simp
        · rw [h2 hc0]
      have hnl : ¬ (decide (b < 0) || decide ((i.bytes : Int) * b > 2 ^ 48)) = true := by
        simp only [Bool.or_eq_true, decide_eq_true_eq, not_or]
        constructor <;> omega
      simp only [execOp, ho, Sem.run_bind, Instr.makeSlice, run_und hu, Result.andThen_ok, run_asInt hk1, run_asInt hk2, hinfo, hwa, hwb]
      rw [Sem.run_ite, if_neg (by
        simp only [Bool.or_eq_true, decide_eq_true_eq]
        simp only [Bool.or_eq_true, decide_eq_true_eq] at hnl
        omega)]
      simp only [Sem.run_pure, Result.andThen_ok, Sem.run_bind, run_askRoom, run_sz hs]
      by_cases hc0 : b.toNat * (n + 1) = 0
      · have := harr0 #[] (fun _ => rfl) (fun h => absurd hc0 h)
        simp only [if_pos hc0, Sem.run_bind, Sem.run_pure, Result.andThen_ok, newRow, run_newObj, this]
      · have := harr0 zv.cells (fun h => absurd h hc0) (fun _ => rfl)
        simp only [if_neg hc0, Sem.run_bind, hzr, Sem.run_pure, Result.andThen_ok, newRow, run_newObj, this]
    · simp at h
  · simp at h

/-! ### stores -/

theorem CR.mono {S' : Nat → Prop} {w' : World} {Kn' : Nat → Prop} {φ' : Nat → Loc} (hs : Stp S w S' w') (hr : Ren Kn φ Kn' φ') {cs : List C} {vs : List Value} (h : CR S w Kn φ cs vs) : CR S' w' Kn' φ' cs vs :=
  ⟨h.1, fun i x y hx hy => (h.2 i x y hx hy).mono hs hr⟩

theorem arr_cr {cs : List C} {arr : Array Value} (h1 : cs.length = arr.size) (h2 : ∀ (i : Nat) (x : C), cs[i]? = some x → RC S w Kn φ x (arr.getD i undef)) : CR S w Kn φ cs arr.toList := by
  refine ⟨by simpa using h1, fun i x y hx hy => ?_⟩
  have := h2 i x hx
  rw [Array.getElem?_toList] at hy
  have e1 : arr.getD i undef = y := by simp [hy]
  rwa [e1] at this

/-- the world behind a run of stores -/
theorem put_world {b o n : Nat} {arr : Array Value} {vs : List Value} (ho : Own w b arr) (hn : vs.length = n) :
    Own (w.setRow b (arr.toList.take o ++ vs ++ arr.toList.drop (o + n)).toArray) b (splice arr.toList o vs).toArray ∧
    (∀ c, c ≠ b → (w.setRow b (arr.toList.take o ++ vs ++ arr.toList.drop (o + n)).toArray).heap[c]? = w.heap[c]?) ∧
    (w.setRow b (arr.toList.take o ++ vs ++ arr.toList.drop (o + n)).toArray).heap.size = w.heap.size ∧
    (∀ a, (w.setRow b (arr.toList.take o ++ vs ++ arr.toList.drop (o + n)).toArray).frozen? a = w.frozen? a) ∧
    (o + n ≤ arr.size → ∀ arr1, Own w b arr1 → ∃ arr', Own (w.setRow b (arr.toList.take o ++ vs ++ arr.toList.drop (o + n)).toArray) b arr' ∧ arr'.size = arr1.size) := by
  rw [put_eq hn]
  refine ⟨own_setRow ho, fun c hc => setRow_other w b c _ hc, by simp, frozen_setRow ho, fun hle arr1 h1 => ⟨_, own_setRow ho, ?_⟩⟩
  obtain ⟨t1, h1⟩ := h1
  obtain ⟨t2, h2⟩ := ho
  rw [h1] at h2
  obtain rfl : arr1 = arr := by simp at h2; exact h2.1
  simp only [List.size_toArray]
  rw [splice_length _ _ _ (by simp; omega)]
  simp

theorem Inv.stp {hf hf' : Nat → Option Ob} {S' : Nat → Prop} {w' : World} (_ : Inv S K w0 Kn φ hf w) (hs : Stp S w S' w') (hI : Inv S' K w0 Kn φ hf' w') {u : Upd} {n : Nat} (he : hf' = updF u hf) :
    Done S K w0 w Kn φ hf n n (.tup []) u undef w' :=
  ⟨Nat.le_refl _, S', φ, hs, ren_knu _ _, .tup rfl (fun i x hi => by simp at hi), he ▸ hI.kn fun _ h => .inl h⟩

/-- a row's cells replaced -/
theorem rows_splice {sz base row off : Nat} {rows : List (List D)} {r ds : List D} {arr : Array Value} {vs : List Value} (h : RowsAt S w sz (fun i => arr[i]?) base rows) (hrow : rows[row]? = some r)
    (hfit : off + ds.length ≤ r.length) (hl : ds.length = vs.length) (hd : ∀ (i : Nat) (x : D), ds[i]? = some x → ∃ y, vs[i]? = some y ∧ RD S w x y) (hsz : base + rows.length * sz ≤ arr.size) :
    RowsAt S w sz (fun i => (splice arr.toList (base + row * sz + off) vs).toArray[i]?) base (rows.set row (splice r off ds)) := by
  have hrl := h.1 row r hrow
  have hlt : row < rows.length := (List.getElem?_eq_some_iff.1 hrow).1
  have hmul : (row + 1) * sz ≤ rows.length * sz := Nat.mul_le_mul_right _ (by omega)
  rw [Nat.succ_mul] at hmul
  have hget : ∀ k, (splice arr.toList (base + row * sz + off) vs).toArray[k]? = if k < base + row * sz + off then arr[k]? else if k < base + row * sz + off + vs.length then vs[k - (base + row * sz + off)]? else arr[k]? := by
    intro k
    rw [← Array.getElem?_toList]
    show (splice arr.toList _ vs)[k]? = _
    rw [splice_get _ _ _ (by simp; omega)]
    simp only [Array.getElem?_toList]
  have hsetr : ∀ i q, (rows.set row (splice r off ds))[i]? = some q → (i = row ∧ q = splice r off ds) ∨ (i ≠ row ∧ rows[i]? = some q) := by
    intro i q hi
    by_cases e1 : i = row
    · subst e1
      rw [List.getElem?_set_self hlt] at hi
      exact .inl ⟨rfl, (Option.some.inj hi).symm⟩
    · rw [List.getElem?_set_ne (fun e => e1 e.symm)] at hi
      exact .inr ⟨e1, hi⟩
  refine ⟨fun i q hi => ?_, fun i q hi j z hj => ?_⟩
  · rcases hsetr i q hi with ⟨rfl, rfl⟩ | ⟨_, h1⟩
    · rw [splice_length _ _ _ hfit]; exact hrl
    · exact h.1 i q h1
  · simp only [hget]
    rcases hsetr i q hi with ⟨rfl, rfl⟩ | ⟨hne, h1⟩
    · rw [splice_get _ _ _ hfit] at hj
      by_cases c1 : j < off
      · rw [if_pos c1] at hj
        rw [if_pos (by omega)]
        exact h.2 i r hrow j z hj
      · rw [if_neg c1] at hj
        by_cases c2 : j < off + ds.length
        · rw [if_pos c2] at hj
          obtain ⟨y, hy, hr⟩ := hd _ z hj
          rw [if_neg (by omega), if_pos (by omega)]
          refine ⟨y, ?_, hr⟩
          rw [← hy]; congr 1; omega
        · rw [if_neg c2] at hj
          rw [if_neg (by omega), if_neg (by omega)]
          exact h.2 i r hrow j z hj
    · have hjl : j < sz := by rw [← h.1 i q h1]; exact (List.getElem?_eq_some_iff.1 hj).1
      have hout : base + i * sz + j < base + row * sz + off ∨ base + row * sz + off + vs.length ≤ base + i * sz + j := by
        rcases Nat.lt_or_gt_of_ne hne with hlt2 | hgt
        · have : (i + 1) * sz ≤ row * sz := Nat.mul_le_mul_right _ (by omega)
          rw [Nat.succ_mul] at this; omega
        · have : (row + 1) * sz ≤ i * sz := Nat.mul_le_mul_right _ (by omega)
          rw [Nat.succ_mul] at this; omega
      rcases hout with c | c
      · rw [if_pos c]; exact h.2 i q h1 j z hj
      · rw [if_neg (by omega), if_neg (by omega)]; exact h.2 i q h1 j z hj

theorem op_store {t : TypeId} {n : Nat} {a x : Operand} (ho : o.op = .store t a x) (hs : szOf P t = some n) (hI : Inv S K w0 Kn φ (look H) w)
    {ta tx : Option TV} (ha : ∀ y, ta = some y → RTV S w Kn φ y (ρ a)) (hx : ∀ y, tx = some y → RTV S w Kn φ y (ρ x))
    (h : ev1 call (.store n) [ta, tx] H nxt = some (v, u, ids, n')) : Runs P o ρ S K w0 w Kn φ (look H) nxt n' v u := by
  match ta, tx, h, ha, hx with
  | some (.c p), some tv, h, ha, hx =>
    change (match evStore n p tv H with | some (u, ids) => some (TV.tup [], u, ids, nxt) | none => none) = _ at h
    split at h
    · rename_i u' ids' hst
      obtain ⟨rfl, rfl, rfl, rfl⟩ : TV.tup [] = v ∧ u' = u ∧ ids' = ids ∧ nxt = n' := by simpa using h
      unfold evStore at hst
      split at hst
      · simp at hst
      · rename_i cs hcs
        split at hst
        · rename_i hlen
          have hcr := (hx _ rfl).cr hcs
          obtain ⟨_, _, hone⟩ := (hx _ rfl).cells hcs
          have hvl : (ρ x).cells.size = n := by have := hcr.1; simp at this; omega
          have hr := ha _ rfl
          generalize hv0 : ρ a = val at hr
          have run : ∀ b off arr, val = .pointer (some ⟨b, off, none⟩) → Own w b arr → off + n ≤ arr.size →
              (execOp ρ o).run P w = .ok .skip (w.setRow b (arr.toList.take off ++ (ρ x).cells.toList ++ arr.toList.drop (off + n)).toArray) := by
            intro b off arr hv hown hfit
            simp [execOp, ho, hv0, hv, Instr.storeAt, Instr.sureAddr, run_put hs hown hvl hfit hone]
          cases hr with
          | c hr =>
          split at hst
          · rename_i id row off
            split at hst
            · rename_i sz rows hob
              split at hst
              · rename_i r ds ids1 hrow hvw
                split at hst
                · rename_i u1 hfz
                  split at hst
                  · rename_i hb
                    obtain ⟨hb1, hb2⟩ := hb
                    obtain ⟨rfl, rfl⟩ : (id, some (Ob.arr sz (rows.set row (splice r off ds)))) :: u1 = u' ∧ id :: ids1 = ids' := by simpa using hst
                    have hnm : id ∉ ids1 := by simpa using hb2
                    obtain ⟨hdl, hds⟩ := viewCs_sound hI cs ds ids1 hvw (fun i => (ρ x).cells.toList[i]?) (fun i c hi => by
                      have hlt : i < (ρ x).cells.toList.length := by rw [← hcr.1]; exact (List.getElem?_eq_some_iff.1 hi).1
                      exact ⟨_, List.getElem?_eq_getElem hlt, hcr.2 i c _ hi (List.getElem?_eq_getElem hlt)⟩)
                    have hI1 := hI.freeze hfz
                    have hob1 : updF u1 (look H) id = some (.arr sz rows) := by simp only [updF, (fnd_freeze ids1 u1 hfz id).2 hnm, hob]
                    obtain ⟨hk, h0⟩ := hI1.obj _ _ hob1
                    generalize hphi : φ id = l at *
                    cases h0 with
                    | @arr _ _ arr hsz hl hS hK hown hext hfit hrr =>
                      cases hr with
                      | ep hk' =>
                        rw [hphi] at run
                        subst hl
                        have hrl := hrr.1 row r hrow
                        have hrowlt : row < rows.length := (List.getElem?_eq_some_iff.1 hrow).1
                        have hmul : (row + 1) * l.sz ≤ rows.length * l.sz := Nat.mul_le_mul_right _ (by omega)
                        rw [Nat.succ_mul] at hmul
                        have hfit2 : l.base + row * l.sz + off + n ≤ arr.size := by rw [hext]; omega
                        obtain ⟨p1, p2, p3, p4, p5⟩ := put_world (w := w) (b := l.blk) (o := l.base + row * l.sz + off) (n := n) (vs := (ρ x).cells.toList) hown (by simpa using hvl)
                        have hset := hI1.set (o' := .arr l.sz (rows.set row (splice r off ds))) hob1 rfl (by rw [hphi]; exact p2) p3 p4 (by rw [hphi]; exact p5 hfit2) ⟨rfl, rfl⟩ (fun hst => by
                          rw [hphi]
                          have h5 := (rows_splice (off := off) (vs := (ρ x).cells.toList) hrr hrow (by omega) (by rw [hdl]; exact hcr.1) hds (by omega)).mono hst
                          exact .arr hsz rfl hS hK p1 (by simp only [List.size_toArray]; rw [splice_length _ _ _ (by simp; omega)]; simpa using hext) (by simpa using hfit) h5)
                        refine ⟨.skip, undef, _, run _ _ _ rfl hown hfit2, .inr ⟨rfl, rfl⟩, hI.stp ((SB.stp0 w ids1).trans hset.1) hset.2 ?_⟩
                        rw [← updF_append]; rfl
                  · simp at hst
                · simp at hst
              · simp at hst
            · simp at hst
          · rename_i id off
            split at hst
            · rename_i cells hob
              split at hst
              · rename_i hb
                obtain ⟨rfl, rfl⟩ : [(id, some (Ob.box (splice cells off cs)))] = u' ∧ [id] = ids' := by simpa using hst
                obtain ⟨hk, h0⟩ := hI.obj _ _ hob
                generalize hphi : φ id = l at *
                cases h0 with
                | @box _ arr hbase hS hK hown hlen2 hrr =>
                  cases hr with
                  | op hk' =>
                    rw [hphi, hbase, Nat.zero_add] at run
                    obtain ⟨p1, p2, p3, p4, p5⟩ := put_world (w := w) (b := l.blk) (o := off) (n := n) (vs := (ρ x).cells.toList) hown (by simpa using hvl)
                    have hset := hI.set (o' := .box (splice cells off cs)) hob rfl (by rw [hphi]; exact p2) p3 p4 (by rw [hphi]; exact p5 (by omega)) ⟨rfl, rfl⟩ (fun hst => by
                      rw [hphi]
                      have h5 := ((arr_cr hlen2 hrr).splice hcr off (by omega)).mono hst (Ren.refl _ _)
                      obtain ⟨h6, h7⟩ := cr_arr (arr := (splice arr.toList off (ρ x).cells.toList).toArray) (by rw [List.toList_toArray]; exact h5)
                      exact .box hbase hS hK p1 h6 h7)
                    exact ⟨.skip, undef, _, run _ _ _ rfl hown (by omega), .inr ⟨rfl, rfl⟩, hI.stp hset.1 hset.2 rfl⟩
              · simp at hst
            · simp at hst
          · simp at hst
        · simp at hst
    · simp at h

end
end Go.Ev
