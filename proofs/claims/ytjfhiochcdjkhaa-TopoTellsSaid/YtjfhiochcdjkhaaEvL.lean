/- The model's append against the abstract machine's. Conditions: the relation of XEvC; lengths below 2^31. -/
import Derived.Test.YtjfhiochcdjkhaaEvK
namespace Go.Ev

section
variable {P : Program} {S K : Nat → Prop} {w0 w : World} {Kn : Nat → Prop} {φ : Nat → Loc} {H : Heap} {e : Env} {ρ : Operand → Value} {o : Oper} {call : Call}
  {nxt n' : Nat} {v : TV} {u : Upd} {ids : List Nat}

theorem load_rows {sz b addr : Nat} {rows : List (List D)} (hsz : 0 < sz) (h : RowsAt S w sz (fun i => w.cell? ⟨b, i, none⟩) addr rows) :
    ∃ arr, (∀ w' : World, w'.heap = w.heap → (loadCells ⟨b, addr, none⟩ (rows.length * sz)).run P w' = .ok arr w') ∧ arr.size = rows.length * sz ∧ RowsAt S w sz (fun i => arr[i]?) 0 rows ∧ ∀ x ∈ arr.toList, one x = true := by
  have hcell : ∀ k, k < rows.length * sz → ∃ y, w.cell? ⟨b, addr + k, none⟩ = some y ∧ one y = true := by
    intro k hk
    have h1 : k / sz < rows.length := Nat.div_lt_of_lt_mul (by rw [Nat.mul_comm]; exact hk)
    have h2 := h.1 (k / sz) rows[k / sz] (List.getElem?_eq_getElem h1)
    have h3 : k % sz < rows[k / sz].length := by rw [h2]; exact Nat.mod_lt _ hsz
    obtain ⟨y, hy, hr⟩ := h.2 (k / sz) rows[k / sz] (List.getElem?_eq_getElem h1) (k % sz) _ (List.getElem?_eq_getElem h3)
    refine ⟨y, ?_, hr.one⟩
    rw [← hy]
    have := Nat.div_add_mod k sz
    rw [Nat.mul_comm] at this
    show w.cell? ⟨b, addr + k, none⟩ = w.cell? ⟨b, addr + k / sz * sz + k % sz, none⟩
    congr 2; omega
  refine ⟨((List.range (rows.length * sz)).map fun j => (w.cell? ⟨b, addr + j, none⟩).getD undef).toArray, fun w' hw => run_loadCells w' ⟨b, addr, none⟩ _ (fun j => (w.cell? ⟨b, addr + j, none⟩).getD undef) fun j hj => ?_, by simp,
    ⟨h.1, fun i r hi j x hj => ?_⟩, fun x hx => ?_⟩
  · obtain ⟨y, hy, _⟩ := hcell j hj
    have : w'.cell? ⟨b, addr + j, none⟩ = w.cell? ⟨b, addr + j, none⟩ := by unfold World.cell?; rw [hw]
    rw [add_eq, this, hy]; rfl
  · obtain ⟨y, hy, hr⟩ := h.2 i r hi j x hj
    refine ⟨y, ?_, hr⟩
    have hil : i < rows.length := (List.getElem?_eq_some_iff.1 hi).1
    have hjl : j < sz := by rw [← h.1 i r hi]; exact (List.getElem?_eq_some_iff.1 hj).1
    have hm : (i + 1) * sz ≤ rows.length * sz := Nat.mul_le_mul_right _ hil
    rw [Nat.succ_mul] at hm
    simp only at hy
    have hlt : 0 + i * sz + j < rows.length * sz := by omega
    have e1 : addr + (0 + i * sz + j) = addr + i * sz + j := by omega
    show (((List.range (rows.length * sz)).map fun j => (w.cell? ⟨b, addr + j, none⟩).getD undef).toArray)[0 + i * sz + j]? = some y
    rw [← Array.getElem?_toList, List.getElem?_map, List.getElem?_range hlt]
    simp only [Option.map_some, e1, hy, Option.getD_some]
  · simp only [List.mem_map, List.mem_range] at hx
    obtain ⟨k, hk, rfl⟩ := hx
    obtain ⟨y, hy, h1⟩ := hcell k hk
    rw [hy]; exact h1

/-- what a slice's elements load as -/
def Elems (P : Program) (S : Nat → Prop) (w : World) (sz : Nat) (xv : Value) (new : List (List D)) (arr : Array Value) : Prop :=
  (∀ w' : World, w'.heap = w.heap → (Builtin.lenOf xv).run P w' = .ok new.length w' ∧ (Builtin.firstCells sz new.length xv).run P w' = .ok arr w') ∧
  arr.size = new.length * sz ∧ RowsAt S w sz (fun i => arr[i]?) 0 new ∧ ∀ x ∈ arr.toList, one x = true

theorem elems_mem {sz b addr len cap : Nat} {new : List (List D)} (hsz : 0 < sz) (hl : new.length = len) (h : RowsAt S w sz (fun i => w.cell? ⟨b, i, none⟩) addr new) :
    ∃ arr, Elems P S w sz (.slice (some ⟨b, addr, none⟩) len cap) new arr := by
  subst hl
  obtain ⟨arr, h1, h2, h3, h4⟩ := load_rows (P := P) hsz h
  exact ⟨arr, fun w' hw => ⟨rfl, h1 w' hw⟩, h2, h3, h4⟩

/-- a slice's elements, loaded -/
theorem run_rowsOf {sz : Nat} {x : C} {xv : Value} {new : List (List D)} (hsz : 0 < sz) (hI : Inv S K w0 Kn φ (look H) w) (hr : RC S w Kn φ x xv) (h : rowsOf sz H x = some (new, ids)) :
    ∃ arr, Elems P S w sz xv new arr := by
  unfold rowsOf at h
  split at h
  · obtain ⟨rfl, rfl⟩ : [] = new ∧ [] = ids := by simpa using h
    cases hr with
    | d hd => cases hd with
      | lit hp => exact ⟨#[], fun w' _ => ⟨rfl, rfl⟩, by simp, ⟨fun i r hi => by simp at hi, fun i r hi => by simp at hi⟩, fun x hx => by simp at hx⟩
  · rename_i sz' rows
    split at h
    · rename_i e1
      subst e1
      obtain ⟨rfl, rfl⟩ : rows = new ∧ [] = ids := by simpa using h
      cases hr with
      | d hd => cases hd with
        | sl f hb hsz0 hcap hrow hcell hrd => exact elems_mem hsz rfl ⟨hrow, fun i r hi j x hj => ⟨_, hcell i r hi j x hj, hrd i r hi j x hj⟩⟩
        | sl0 hsz0 => exact ⟨#[], fun w' _ => ⟨rfl, by
            have h0 : ([] : List (List D)).length * sz' = 0 := by simp
            simp only [Builtin.firstCells, h0]
            rfl⟩, by simp, ⟨fun i r hi => by simp at hi, fun i r hi => by simp at hi⟩, fun x hx => by simp at hx⟩
    · simp at h
  · rename_i sz' id off len
    have key : ∀ szo rows, (look H id = some (.arr szo rows) ∨ look H id = some (.imm szo rows)) → (if sz' = sz ∧ off + len ≤ rows.length then some ((rows.drop off).take len, [id]) else none) = some (new, ids) →
        ∃ arr, Elems P S w sz xv new arr := by
      intro szo rows ho hq
      split at hq
      · rename_i hb
        obtain ⟨e1, hle⟩ := hb
        subst e1
        obtain ⟨rfl, rfl⟩ := Prod.mk.inj (Option.some.inj hq)
        obtain ⟨hsz1, hl, hR⟩ := rows_cell hI ho
        subst hl
        cases hr with
        | osl hk hcap haddr hext => exact elems_mem hsz1 (by simp; omega) (hR.sub' off len fun h => haddr (by omega))
      · simp at hq
    split at h
    · exact key _ _ (.inl (by assumption)) h
    · exact key _ _ (.inr (by assumption)) h
    · simp at h
  · simp at h

theorem grow_le (need : Nat) (c : Nat) : Builtin.growBy need 4 c ≤ 3 * c + 3072 := by
  simp only [Builtin.growBy]
  repeat' split
  all_goals omega

theorem nsc_le {need cap : Nat} (h1 : need ≤ 2147483648) (h2 : cap < need) : Builtin.nextslicecap need cap ≤ 6442454016 := by
  unfold Builtin.nextslicecap
  split
  · omega
  · split
    · omega
    · have := grow_le need cap; omega

/-- a block that is nobody's changes -/
theorem Inv.other {hf : Nat → Option Ob} {w' : World} {b : Nat} (h : Inv S K w0 Kn φ hf w) (hS : ¬ S b) (hK : ¬ K b) (hfree : ∀ i o, hf i = some o → isOwn o = true → (φ i).blk ≠ b)
    (hother : ∀ c, c ≠ b → w'.heap[c]? = w.heap[c]?) (hsize : w'.heap.size = w.heap.size) (hfrz : ∀ a, w'.frozen? a = w.frozen? a)
    (hsz : ∀ arr, Own w b arr → ∃ arr', Own w' b arr' ∧ arr'.size = arr.size) (hio : w'.os = w.os ∧ w'.output = w.output) : Stp S w S w' ∧ Inv S K w0 Kn φ hf w' := by
  have hs : Stp S w S w' := ⟨fun _ h => h, fun c hc => hother c (fun e => hS (e ▸ hc))⟩
  refine ⟨hs, h.step hs (Ren.refl _ _) (fun c hc => hsize ▸ h.slt c hc) h.sk ⟨h.frm.klt, fun c hc => (hother c (fun e => hK (e ▸ hc))).trans (h.frm.keep c hc), hsize ▸ h.frm.grow, fun a => (hfrz a).trans (h.frm.frz a), h.frm.own_step hother hsz, hio.1.trans h.frm.io.1, hio.2.trans h.frm.io.2⟩ ?_ h.dist⟩
  intro id o ho
  exact .inl ⟨ho, fun hown => ⟨hother _ (hfree id o ho hown), ((h.obj id o ho).2.own hown).1⟩⟩

theorem rows_append {sz base : Nat} {a b : List (List D)} {get : Nat → Option Value} (h1 : RowsAt S w sz get base a) (h2 : RowsAt S w sz get (base + a.length * sz) b) : RowsAt S w sz get base (a ++ b) := by
  have key : ∀ (i : Nat) (r : List D), (a ++ b)[i]? = some r → a[i]? = some r ∨ (a.length ≤ i ∧ b[i - a.length]? = some r) := by
    intro i r hi
    by_cases hc : i < a.length
    · rw [List.getElem?_append_left hc] at hi; exact .inl hi
    · rw [List.getElem?_append_right (by omega)] at hi; exact .inr ⟨by omega, hi⟩
  refine ⟨fun i r hi => ?_, fun i r hi j x hj => ?_⟩
  · rcases key i r hi with h | ⟨_, h⟩
    · exact h1.1 i r h
    · exact h2.1 _ r h
  · rcases key i r hi with h | ⟨hle, h⟩
    · exact h1.2 i r h j x hj
    · obtain ⟨y, hy, hr⟩ := h2.2 _ r h j x hj
      refine ⟨y, ?_, hr⟩
      rw [← hy]; congr 1
      have : a.length * sz + (i - a.length) * sz = i * sz := by rw [← Nat.add_mul]; congr 1; omega
      omega

theorem RC.osl_inv {sz id off len : Nat} {v : Value} (h : RC S w Kn φ (.osl sz id off len) v) : ∃ cap addr, v = .slice (some ⟨(φ id).blk, addr, none⟩) len cap ∧ (φ id).sz = sz ∧ Kn id ∧ len ≤ cap ∧
    (0 < cap → addr = (φ id).base + off * (φ id).sz) ∧ addr + cap * (φ id).sz ≤ (φ id).ext := by
  cases h with
  | osl hk hcap haddr hext => exact ⟨_, _, rfl, rfl, hk, hcap, haddr, hext⟩

theorem op_append {c : Go.Call} {s x : Operand} {st xt el el2 : TypeId} {n : Nat} {z : List Value} (ho : o.op = .call c) (hcal : c.callee = .builtin .append) (hargs : c.args = #[s, x]) (hts : c.argTypes = #[st, xt])
    (hus : P.underlying st = some (.slice el)) (hux : P.underlying xt = some (.slice el2)) (hsz : szOf P el = some (n + 1)) (hz : zeroOf P el = some z) (hzl : z.length = n + 1) (hby : bytesOk P el = true)
    (hI : Inv S K w0 Kn φ (look H) w) (hn0 : nxt < n' → ¬ Kn nxt) {ta tx : Option TV} (ha : ∀ y, ta = some y → RTV S w Kn φ y (ρ s)) (hx : ∀ y, tx = some y → RTV S w Kn φ y (ρ x))
    (h : ev1 call (.append (n + 1)) [ta, tx] H nxt = some (v, u, ids, n')) : Runs P o ρ S K w0 w Kn φ (look H) nxt n' v u := by
  obtain ⟨inf, hinf, hb0, hb1⟩ := bytesOk_get hby
  obtain ⟨zv, hzr, hzv, _⟩ := run_zero hz w
  match ta, tx, h, ha, hx with
  | some (.c sc), some (.c xc), h, ha, hx =>
    change evAppend (n + 1) sc xc H nxt = _ at h
    unfold evAppend at h
    split at h
    · simp at h
    · rename_i new ids1 hrx
      cases hx _ rfl with
      | c hxr =>
      obtain ⟨narr, hel, hns, hnR, hnone⟩ := run_rowsOf (P := P) (sz := n + 1) (Nat.succ_pos n) hI hxr hrx
      have hinfo : ∀ w : World, (typeInfo el).run P w = .ok inf w := fun w => by simp [typeInfo, hinf]
      have hzr' : ∀ w : World, (zeroValue el).run P w = .ok zv w := by
        intro w'
        simp only [zeroValue, typeInfo, Sem.run_bind, run_program, Result.andThen_ok, hinf, Sem.run_pure] at hzr ⊢
        cases hzz : inf.zero with
        | none => rw [hzz] at hzr; simp at hzr
        | some q => rw [hzz] at hzr; simp at hzr ⊢; exact hzr
      have hunx : ∀ w : World, (underlying xt).run P w = .ok (.slice el2) w := run_und hux
      -- what the model does where there is no room
      have grows : ∀ (base : Option Addr) (sLen sCap : Nat) (old : Array Value), ρ s = .slice base sLen sCap → sCap < sLen + new.length → sLen + new.length ≤ 2147483648 →
          (∀ w' : World, w'.heap = w.heap → (Builtin.firstCells (n + 1) sLen (.slice base sLen sCap)).run P w' = .ok old w') →
          ∃ newCap, sLen + new.length ≤ newCap ∧ (execOp ρ o).run P w = .ok (.value (.slice (some ⟨w.heap.size, 0, none⟩) (sLen + new.length) newCap))
            { ({ w with drawn := w.drawn + 1 } : World) with heap := w.heap.push (.cells (old ++ narr ++ Builtin.zeroCells zv.cells (newCap - (sLen + new.length))) el) } := by
        intro base sLen sCap old hs hlt hle hold
        refine ⟨(Question.appendCap (sLen + new.length) sCap el).cut (w.tape w.drawn (.appendCap (sLen + new.length) sCap el)), by simp [Question.cut], ?_⟩
        have hcap : ¬ Builtin.nextslicecap (sLen + new.length) sCap * inf.bytes > 2 ^ 48 := by
          have h1 := nsc_le hle hlt
          have h2 : Builtin.nextslicecap (sLen + new.length) sCap * inf.bytes ≤ 6442454016 * 16384 := Nat.mul_le_mul h1 hb1
          omega
        have hbz : ¬ inf.bytes = 0 := by omega
        have hnle : ¬ sLen + new.length ≤ sCap := by omega
        have ho2 := hold { w with drawn := w.drawn + 1 } rfl
        have hn2 := (hel { w with drawn := w.drawn + 1 } rfl).2
        have hl2 := (hel w rfl).1
        simp only [execOp, ho, hcal, resolve, hargs, Sem.run_bind, Sem.run_pure, Result.andThen_ok, invoke, builtin, Builtin.append_, hts, List.map_toArray, List.map_cons, List.map_nil, hs, List.getElem?_toArray,
          List.getElem?_cons_zero, List.getElem?_cons_succ, run_und hus, run_sz hsz, hunx, hl2, hnle, if_false, hinfo, hcap, hbz, Bool.false_eq_true, or_self, and_false, run_choose, Question.forced, run_askRoom, ho2, hn2, hzr', newRow, run_newObj, Bool.not_false, if_true]
      have room_new : ¬ Kn nxt → ∀ (k : Nat) (hf : Nat → Option Ob) (rows : List (List D)) (arr : Array Value) (cap : Nat), Inv S K w0 Kn φ hf w → rows.length ≤ cap → cap * (n + 1) ≤ arr.size → RowsAt S w (n + 1) (fun i => arr[i]?) 0 rows →
          Done S K w0 w Kn φ hf nxt (nxt + 1) (.c (.osl (n + 1) nxt 0 rows.length)) [(nxt, some (.arr (n + 1) rows))] (.slice (some ⟨w.heap.size, 0, none⟩) rows.length cap)
            { ({ w with drawn := k } : World) with heap := w.heap.push (.cells arr el) } := by
        intro hn k hf rows arr cap hI1 h1 h2 h3
        obtain ⟨a1, S', φ', a2, a3, a4, a5⟩ := Done.arr (hI1.drew k) hn el (Nat.succ_pos n) h1 h2 (h3.mono (Stp.drew S w k))
        exact ⟨a1, S', φ', (Stp.drew S w k).trans a2, a3, a4, a5⟩
      have zsize : ∀ m, (Builtin.zeroCells zv.cells m).size = m * (n + 1) := by
        intro m
        have : zv.cells.size = n + 1 := by rw [← hzl, ← hzv]; simp
        simp [Builtin.zeroCells, this]
      split at h
      · -- a nil slice
        split at h
        · rename_i hle
          simp only [lim] at hle
          obtain ⟨hv, _⟩ := (ha _ rfl).lit
          cases new with
          | nil =>
            obtain ⟨rfl, rfl, rfl, rfl⟩ : TV.c (.d (.lit (.slice none 0 0))) = v ∧ [] = u ∧ ids1 = ids ∧ nxt = n' := by simpa using h
            refine Runs.pure hI ?_ (ha _ rfl)
            have hl2 := (hel w rfl).1
            have hn2 := (hel w rfl).2
            simp only [List.length_nil] at hl2 hn2
            simp only [execOp, ho, hcal, resolve, hargs, Sem.run_bind, Sem.run_pure, Result.andThen_ok, invoke, builtin, Builtin.append_, hts, List.map_toArray, List.map_cons, List.map_nil, hv, List.getElem?_toArray,
              List.getElem?_cons_zero, List.getElem?_cons_succ, run_und hus, run_sz hsz, hunx, hl2, Nat.le_refl, if_true, Bool.not_false, hn2, Bool.false_eq_true, if_false, Nat.add_zero]
          | cons q new =>
            obtain ⟨rfl, rfl, rfl, rfl⟩ : TV.c (.osl (n + 1) nxt 0 (q :: new).length) = v ∧ [(nxt, some (Ob.arr (n + 1) (q :: new)))] = u ∧ ids1 = ids ∧ nxt + 1 = n' := by simpa using h
            obtain ⟨newCap, hnc, hrun⟩ := grows none 0 0 #[] hv (by simp) (by simpa using hle) (fun w' _ => rfl)
            rw [Nat.zero_add] at hrun hnc
            refine ⟨.value _, _, _, hrun, .inl rfl, room_new (hn0 (Nat.lt_succ_self _)) _ _ _ _ _ hI hnc ?_ ?_⟩
            · simp only [Array.size_append, hns, zsize, List.size_toArray, List.length_nil]
              rw [Nat.zero_add, ← Nat.add_mul]
              exact Nat.mul_le_mul_right _ (by omega)
            · refine ⟨hnR.1, fun i r hi j x hj => ?_⟩
              obtain ⟨y, hy, hr⟩ := hnR.2 i r hi j x hj
              refine ⟨y, ?_, hr⟩
              have hlt := (Array.getElem?_eq_some_iff.1 hy).1
              simp only at hy ⊢
              rw [Array.getElem?_append_left (by simp; omega)]
              simpa using hy
        · simp at h
      · -- a slice of one's own
        rename_i sz' id off len
        split at h
        · rename_i szo rows hob
          split at h
          · rename_i hb
            obtain ⟨e1, hle, hlim⟩ := hb
            subst e1
            simp only [lim] at hlim
            obtain ⟨rfl, rfl, rfl, rfl⟩ : TV.c (.osl (n + 1) nxt 0 (len + new.length)) = v ∧ [(id, none), (nxt, some (Ob.arr (n + 1) ((rows.drop off).take len ++ new)))] = u ∧ id :: ids1 = ids ∧ nxt + 1 = n' := by simpa using h
            have hn := hn0 (Nat.lt_succ_self _)
            have hr := ha _ rfl
            generalize hv0 : ρ s = val at hr
            cases hr with
            | c hr =>
            have hlen : ((rows.drop off).take len).length = len := by simp; omega
            have hlen2 : ((rows.drop off).take len ++ new).length = len + new.length := by simp; omega
            have hku : ∀ hf : Nat → Option Ob, updF [(id, none), (nxt, some (Ob.arr (n + 1) ((rows.drop off).take len ++ new)))] hf = updF [(nxt, some (Ob.arr (n + 1) ((rows.drop off).take len ++ new)))] (updF [(id, none)] hf) := by
              intro hf
              have hne : id ≠ nxt := fun e => hn (e ▸ (hI.obj _ _ hob).1)
              rw [← updF_append]
              exact updF_comm (u := [(id, none)]) fun p hp q hq => by
                obtain rfl := List.mem_singleton.1 hp
                obtain rfl := List.mem_singleton.1 hq
                exact hne
            have hkill : Inv S K w0 Kn φ (updF [(id, none)] (look H)) w := hI.kill fun i o ho => by
              rw [updF_cons] at ho
              split at ho
              · simp at ho
              · exact ho
            obtain ⟨hk0, h0⟩ := hI.obj _ _ hob
            generalize hphi : φ id = l at *
            cases h0 with
            | @arr _ _ arr hsz0 hl hS hK hown hext hfit hrr =>
            obtain ⟨cap, addr, rfl, hszl, hk, hcap, haddr, hextc⟩ := hr.osl_inv
            rw [hphi] at hv0 haddr hextc hszl
            have e2 : szo = n + 1 := by rw [← hl, hszl]
            subst e2
            rw [hl] at haddr hextc
            have hR : ∀ len', len' = len → RowsAt S w (n + 1) (fun i => arr[i]?) addr ((rows.drop off).take len') := fun len' e => by
              subst e; exact hrr.sub' off len' fun h => haddr (by omega)
            have hRc : RowsAt S w (n + 1) (fun i => w.cell? ⟨l.blk, i, none⟩) addr ((rows.drop off).take len) := ⟨(hR len rfl).1, fun i r hi j x hj => let ⟨y, hy, hd⟩ := (hR len rfl).2 i r hi j x hj; ⟨y, (hown.cell _).trans hy, hd⟩⟩
            by_cases hroom : len + new.length ≤ cap
            · -- there is room
              have hl2 := (hel w rfl).1
              have hn2 := (hel w rfl).2
              have hcm : (len + new.length) * (n + 1) ≤ cap * (n + 1) := Nat.mul_le_mul_right _ hroom
              rw [Nat.add_mul] at hcm
              obtain ⟨ty, hty⟩ := hown
              have hst := run_storeCells_at P l.blk (addr + len * (n + 1)) ty narr.toList 0 arr w hty (by simp only [Array.length_toList, hns]; omega) (fun v hv => by rw [oneCell_eq]; exact hnone v hv)
              simp only [Nat.add_zero, Array.length_toList, hns] at hst
              have hown : Own w l.blk arr := ⟨ty, hty⟩
              obtain ⟨p1, p2, p3, p4, p5⟩ := put_world (w := w) (b := l.blk) (o := addr + len * (n + 1)) (n := new.length * (n + 1)) (vs := narr.toList) hown (by simpa using hns)
              have hio : (w.setRow l.blk (arr.toList.take (addr + len * (n + 1)) ++ narr.toList ++ arr.toList.drop (addr + len * (n + 1) + new.length * (n + 1))).toArray).os = w.os ∧
                  (w.setRow l.blk (arr.toList.take (addr + len * (n + 1)) ++ narr.toList ++ arr.toList.drop (addr + len * (n + 1) + new.length * (n + 1))).toArray).output = w.output := ⟨rfl, rfl⟩
              generalize hw' : w.setRow l.blk (arr.toList.take (addr + len * (n + 1)) ++ narr.toList ++ arr.toList.drop (addr + len * (n + 1) + new.length * (n + 1))).toArray = w' at *
              have hrun : (execOp ρ o).run P w = .ok (.value (.slice (some ⟨l.blk, addr, none⟩) (len + new.length) cap)) w' := by
                simp only [execOp, ho, hcal, resolve, hargs, Sem.run_bind, Sem.run_pure, Result.andThen_ok, invoke, builtin, Builtin.append_, hts, List.map_toArray, List.map_cons, List.map_nil, hv0, List.getElem?_toArray,
                  List.getElem?_cons_zero, List.getElem?_cons_succ, run_und hus, run_sz hsz, hunx, hl2, hroom, if_true, Bool.not_false, hn2, Bool.false_eq_true, if_false, add_eq, hst]
              have hfree : ∀ i o, updF [(id, none)] (look H) i = some o → isOwn o = true → (φ i).blk ≠ l.blk := by
                intro i o hi ho
                rw [updF_cons] at hi
                split at hi
                · simp at hi
                · rename_i hne
                  have := hI.dist i id o _ hi hob ho rfl (fun e => hne e.symm)
                  rwa [hphi] at this
              obtain ⟨hs1, hI1⟩ := hkill.other hS hK hfree p2 p3 p4 (p5 (by omega)) hio
              have hget : ∀ k, (splice arr.toList (addr + len * (n + 1)) narr.toList).toArray[k]? = if k < addr + len * (n + 1) then arr[k]? else if k < addr + len * (n + 1) + narr.size then narr[k - (addr + len * (n + 1))]? else arr[k]? := by
                intro k
                rw [← Array.getElem?_toList]
                show (splice arr.toList _ narr.toList)[k]? = _
                rw [splice_get _ _ _ (by simp only [Array.length_toList, hns]; omega)]
                simp only [Array.getElem?_toList, Array.length_toList]
              have hrows : RowsAt S w' (n + 1) (fun i => (splice arr.toList (addr + len * (n + 1)) narr.toList).toArray[i]?) addr ((rows.drop off).take len ++ new) := by
                refine rows_append (RowsAt.mono hs1 ⟨(hR len rfl).1, fun i r hi j x hj => ?_⟩) (RowsAt.mono hs1 ⟨hnR.1, fun i r hi j x hj => ?_⟩)
                · obtain ⟨y, hy, hd⟩ := (hR len rfl).2 i r hi j x hj
                  refine ⟨y, ?_, hd⟩
                  have hil : i < len := by rw [← hlen]; exact (List.getElem?_eq_some_iff.1 hi).1
                  have hjl : j < n + 1 := by rw [← (hR len rfl).1 i r hi]; exact (List.getElem?_eq_some_iff.1 hj).1
                  have hm : (i + 1) * (n + 1) ≤ len * (n + 1) := Nat.mul_le_mul_right _ hil
                  rw [Nat.succ_mul] at hm
                  show (splice arr.toList (addr + len * (n + 1)) narr.toList).toArray[_]? = _
                  rw [hget, if_pos (by omega)]; exact hy
                · obtain ⟨y, hy, hd⟩ := hnR.2 i r hi j x hj
                  refine ⟨y, ?_, hd⟩
                  have hlt := (Array.getElem?_eq_some_iff.1 hy).1
                  show (splice arr.toList (addr + len * (n + 1)) narr.toList).toArray[_]? = _
                  rw [hlen, hget, if_neg (by omega), if_pos (by omega)]
                  rw [← hy]
                  show narr[_]? = narr[_]?
                  congr 1; omega
              have hsz' : (splice arr.toList (addr + len * (n + 1)) narr.toList).toArray.size = l.ext := by
                simp only [List.size_toArray]
                rw [splice_length _ _ _ (by simp only [Array.length_toList, hns]; omega)]
                simpa using hext
              have hname := hI1.name hn ⟨l.blk, addr, n + 1, l.ext⟩ (.arr (n + 1) ((rows.drop off).take len ++ new)) (fun j b hj hb _ => hfree j b hj hb)
                (.arr (Nat.succ_pos n) rfl hS hK p1 hsz' (by rw [hlen2, Nat.add_mul]; simp only; omega) hrows)
              refine ⟨.value _, _, _, hrun, .inl rfl, Nat.le_succ _, S, _, hs1, ⟨fun _ h => .inl h, (ren_ext _ hn).same⟩, .c ?_, (hku (look H) ▸ hname).knEq fun j => knu_succ j⟩
              have e : ext φ nxt ⟨l.blk, addr, n + 1, l.ext⟩ nxt = ⟨l.blk, addr, n + 1, l.ext⟩ := by simp [ext]
              have := RC.osl (S := S) (w := w') (Kn := KnU Kn nxt (nxt + 1)) (φ := ext φ nxt ⟨l.blk, addr, n + 1, l.ext⟩) (id := nxt) (off := 0) (len := len + new.length) (cap := cap) (addr := addr)
                (.inr (by omega)) hroom (by rw [e]; simp) (by rw [e]; exact hextc)
              rw [e] at this
              exact this
            · -- there is none
              obtain ⟨old, hold, hos, hoR, hoone⟩ := load_rows (P := P) (sz := n + 1) (Nat.succ_pos n) hRc
              rw [hlen] at hold hos
              obtain ⟨newCap, hnc, hrun⟩ := grows (some ⟨l.blk, addr, none⟩) len cap old hv0 (by omega) hlim (fun w' hw => hold w' hw)
              refine ⟨.value _, _, _, hrun, .inl rfl, ?_⟩
              have hD := room_new hn (w.drawn + 1) (updF [(id, none)] (look H)) ((rows.drop off).take len ++ new) (old ++ narr ++ Builtin.zeroCells zv.cells (newCap - (len + new.length))) newCap hkill (by rw [hlen2]; exact hnc)
                (by
                  simp only [Array.size_append, hos, hns, zsize]
                  rw [← Nat.add_mul, ← Nat.add_mul]
                  exact Nat.mul_le_mul_right _ (by omega))
                (by
                  refine rows_append ⟨hoR.1, fun i r hi j x hj => ?_⟩ ⟨hnR.1, fun i r hi j x hj => ?_⟩
                  · obtain ⟨y, hy, hd⟩ := hoR.2 i r hi j x hj
                    refine ⟨y, ?_, hd⟩
                    have hlt := (Array.getElem?_eq_some_iff.1 hy).1
                    show (old ++ narr ++ _)[_]? = _
                    rw [Array.getElem?_append_left (by rw [Array.size_append]; omega), Array.getElem?_append_left hlt]
                    exact hy
                  · obtain ⟨y, hy, hd⟩ := hnR.2 i r hi j x hj
                    refine ⟨y, ?_, hd⟩
                    have hlt := (Array.getElem?_eq_some_iff.1 hy).1
                    show (old ++ narr ++ _)[_]? = _
                    rw [hlen, Array.getElem?_append_left (by rw [Array.size_append, hos]; omega), Array.getElem?_append_right (by rw [hos]; omega)]
                    rw [← hy, hos]
                    show narr[_]? = narr[_]?
                    congr 1; omega)
              rw [hlen2] at hD
              obtain ⟨q1, S', φ', q2, q3, q4, q5⟩ := hD
              exact ⟨q1, S', φ', q2, q3, q4, by rw [hku]; exact q5⟩
          · simp at h
        · simp at h
      · simp at h

end
end Go.Ev
