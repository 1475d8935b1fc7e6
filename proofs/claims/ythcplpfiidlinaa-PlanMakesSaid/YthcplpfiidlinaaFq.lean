/- Operations that do not fail, against the abstract machine's, second part. Conditions: as stated. -/
import Derived.Test.YthcplpfiidlinaaFh
namespace Go.Ev
section
variable {h : H2} {n : Nat} {h1 : q0k}
theorem q11x {a b : Value} (he : vEq a b = true) : a = b := by
 unfold vEq at he
 split at he <;> simp_all
theorem qa5 : ∀ {a b : List Value}, qk6 a b = true → a = b := by
 intro a
 induction a with
 | nil => intro b he; cases b <;> first | rfl | (simp [qk6] at he)
 | cons x a ih =>
  intro b he
  cases b with
  | nil => simp [qk6] at he
  | cons y b =>
   simp only [qk6, Bool.and_eq_true] at he
   rw [q11x he.1, ih he.2]
theorem qan (a b : List Value) : lits (a ++ b) = lits a ++ lits b := by simp [lits]
theorem qac : ∀ (t : Ty), dat t = true → q06 t (zeE t) = q0n (zeL t) := by
 intro t
 induction t with
 | pr a c iha ihc => intro hd; simp only [dat, Bool.and_eq_true] at hd; simp [q06, zeE, zeL, q0n, iha hd.1, ihc hd.2]
 | st t ih => intro hd; exact ih hd
 | ar m t ih =>
  intro hd
  have e := ih hd
  simp only [q06, zeE, zeL]
  clear hd ih
  induction m with
  | zero => rfl
  | succ m ihm => simp only [List.replicate_succ, List.flatMap_cons, List.flatten_cons, e, q0n, List.map_append] at ihm ⊢; rw [ihm]
 | o k => intro hd; simp [dat] at hd
 | mp k v => intro hd; simp [dat] at hd
 | _ => intro _; rfl
theorem qha : ∀ (t : Ty), (q2i (zeG t).1 false t = true → q31 h (zeG t).1 (lits (zeL t)) ∧ okV n h (zeG t).1) ∧ (q2i (zeG t).2 true t = true → q31 h (zeG t).2 (lits (zeL t)) ∧ okV n h (zeG t).2) := by
 have one : ∀ (t : Ty) (v : V), (q31 h v (lits (zeL t)) ∧ okV n h v) → (q31 h (.co v .ni) (lits (zeL t)) ∧ okV n h (.co v .ni)) := fun t v hv => ⟨⟨_, [], by simp, hv.1, rfl⟩, hv.2, trivial⟩
 have dt : ∀ (t : Ty) , dat t = true → q31 h (.x t (zeE t)) (lits (zeL t)) := fun t hd => ⟨hd, by rw [qac t hd]; simp [lits, q0n]⟩
 intro t
 induction t with
 | pr a c iha ihc =>
  refine ⟨fun hf => by simp [zeG, q2i] at hf, fun hf => ?_⟩
  simp only [zeG, q2i, Bool.and_eq_true] at hf
  obtain ⟨q1, q3⟩ := iha.1 hf.1
  obtain ⟨q4, q5⟩ := ihc.2 hf.2
  exact ⟨⟨_, _, qan _ _, q1, q4⟩, q3, q5⟩
 | st t ih =>
  cases hd : dat t with
  | true =>
   have := dt (.st t) hd
   simp only [zeG, hd, cond_true]
   exact ⟨fun _ => ⟨this, trivial⟩, fun _ => one (.st t) _ ⟨this, trivial⟩⟩
  | false =>
   simp only [zeG, hd, cond_false]
   exact ⟨fun hf => ih.2 hf, fun hf => one (.st t) _ (ih.2 hf)⟩
 | sl t ih =>
  cases hd : dat t with
  | true =>
   have := dt (.sl t) hd
   simp only [zeG, hd, cond_true]
   exact ⟨fun _ => ⟨this, trivial⟩, fun _ => one (.sl t) _ ⟨this, trivial⟩⟩
  | false =>
   simp only [zeG, hd, cond_false]
   exact ⟨fun _ => ⟨rfl, trivial⟩, fun _ => one (.sl t) _ ⟨rfl, trivial⟩⟩
 | ar m t ih =>
  cases hd : dat t with
  | true =>
   have := dt (.ar m t) hd
   simp only [zeG, hd, cond_true]
   exact ⟨fun _ => ⟨this, trivial⟩, fun _ => one (.ar m t) _ ⟨this, trivial⟩⟩
  | false =>
   simp only [zeG, hd, cond_false]
   exact ⟨fun hf => by simp [q2i] at hf, fun hf => by simp [q2i] at hf⟩
 | o k =>
  have : q31 h (.nl k) (lits (zeL (.o k))) := by
   show lits (zeL (.o k)) = [nlC k]
   rcases k with _ | _ | _ | _ | k <;> rfl
  exact ⟨fun _ => ⟨this, trivial⟩, fun _ => one (.o k) _ ⟨this, trivial⟩⟩
 | mp k v => exact ⟨fun _ => ⟨rfl, trivial⟩, fun _ => one (.mp k v) _ ⟨rfl, trivial⟩⟩
 | un => exact ⟨fun _ => ⟨dt .un rfl, trivial⟩, fun _ => one .un _ ⟨dt .un rfl, trivial⟩⟩
 | i k => exact ⟨fun _ => ⟨dt (.i k) rfl, trivial⟩, fun _ => one (.i k) _ ⟨dt (.i k) rfl, trivial⟩⟩
 | b => exact ⟨fun _ => ⟨dt .b rfl, trivial⟩, fun _ => one .b _ ⟨dt .b rfl, trivial⟩⟩
 | s => exact ⟨fun _ => ⟨dt .s rfl, trivial⟩, fun _ => one .s _ ⟨dt .s rfl, trivial⟩⟩
 | f k => exact ⟨fun _ => ⟨dt (.f k) rfl, trivial⟩, fun _ => one (.f k) _ ⟨dt (.f k) rfl, trivial⟩⟩
theorem qgz {t : Ty} {v w : V} {cs : List C} (hw : nrm t v = some w) (hv : q31 h v cs) (hk : okV n h v) : q31 h w cs ∧ q2i w false t = true ∧ okV n h w ∧ agV w = agV v := by
 unfold nrm at hw
 split at hw
 ·rename_i y hy
  obtain rfl := Option.some.inj hw
  cases hd : dat t with
  | false => rw [hd] at hy; simp at hy
  | true =>
   rw [hd, cond_true] at hy
   exact ⟨⟨hd, q7h hy hv⟩, by simp [q2i], trivial, (qnf hy).symm⟩
 ·cases hf : q2i v false t with
  | false => rw [hf] at hw; simp at hw
  | true =>
   rw [hf, cond_true] at hw
   obtain rfl := Option.some.inj hw
   exact ⟨hv, hf, hk, rfl⟩
theorem quq {t : Ty} {v : V} {y : El t} (hy : q3d t v = some y) : plV v := by
 cases v <;> first | trivial | (simp [q3d] at hy)
theorem qy5 {t : Ty} {v : V} (hf : q2i v false t = true) : plV v := by
 cases v <;> first | trivial | (cases t <;> simp [q2i] at hf)
theorem qt7 {t : Ty} {v w : V} (hw : nrm t v = some w) : plV v := by
 unfold nrm at hw
 split at hw
 ·rename_i y hy
  cases hd : dat t with
  | false => rw [hd] at hy; simp at hy
  | true => rw [hd, cond_true] at hy; exact quq hy
 ·cases hf : q2i v false t with
  | false => rw [hf] at hw; simp at hw
  | true => exact qy5 hf
theorem q11y {t : Ty} {v : V} (hf : q2i v false t = true) (ha : agT t = true) : agV v = true := by
 cases t <;> simp [agT] at ha
 all_goals (cases v <;> first | rfl | (simp [q2i] at hf; done) | skip)
 ·simp only [q2i, decide_eq_true_eq] at hf; subst hf; rfl
 ·simp only [q2i, decide_eq_true_eq] at hf; subst hf; rfl
theorem quf {t : Ty} : ∀ (is : List Nat) (ps : List (Nat × Nat)) (ws : List V) (c c' : V) (cs : List C) (xs : List TV), qq4 t is ps ws c = some c' → q2i c false t = true → q31 h c cs → okV n h c → qas h ws xs → (∀ w ∈ ws, okV n h w) →
  ∃ cs', q7q cs (ps.zip xs) = some cs' ∧ q31 h c' cs' ∧ okV n h c' ∧ q2i c' false t = true := by
 intro is
 induction is with
 | nil =>
  intro ps ws c c' cs xs hb hf hc hk hx hw
  cases ps with
  | cons p ps => simp [qq4] at hb
  | nil =>
   cases ws with
   | cons w ws => simp [qq4] at hb
   | nil => obtain rfl := Option.some.inj hb; exact ⟨cs, by simp [q7q], hc, hk, hf⟩
 | cons i is ih =>
  intro ps ws c c' cs xs hb hf hc hk hx hw
  cases ps with
  | nil => simp [qq4] at hb
  | cons p ps =>
   obtain ⟨off, m⟩ := p
   cases ws with
   | nil => simp [qq4] at hb
   | cons w ws =>
    obtain ⟨x, ys, rfl, hx1, hx2⟩ := q1p hx
    have hw1 := hw w (by simp)
    have step : ∀ (pe : Pe) (a : Ty), tyP t [pe] = some a → okP t [pe] → ofP t [pe] = off → szT a = m → (match nrm a w with | some w => (match qci c [pe] w with | some c => bif q2i c false t then qq4 t is ps ws c else none | none => none) | none => none) = some c' →
      ∃ cs', q7q cs (((off, m), x) :: ps.zip ys) = some cs' ∧ q31 h c' cs' ∧ okV n h c' ∧ q2i c' false t = true := by
     intro pe a h1 h2 h3 h4 hb
     split at hb
     ·rename_i w1 hw1'
      obtain ⟨cw, q1, q2⟩ := q94 (qa1 (qt7 hw1') hx1)
      split at hb
      ·rename_i c1 hc1
       cases hfc : q2i c1 false t with
       | false => rw [hfc] at hb; simp at hb
       | true =>
        rw [hfc, cond_true] at hb
        obtain ⟨k1, k2, k3, _⟩ := qgz hw1' q1 hw1
        have hl := q2a k1
        rw [q1o _ _ _ k2, h4] at hl
        have hsp := qek [pe] c t w1 c1 cs cw a hf hc h2 hc1 h1 k1 (by rw [hl, h4])
        rw [h3] at hsp
        have hle := qg0 [pe] t a h1 h2
        have hcl := q2a hc
        rw [q1o _ _ _ hf] at hcl
        obtain ⟨cs', e1, e2, e3, e4⟩ := ih ps ws c1 c' _ ys hb hfc hsp (qt5 _ _ _ _ hk k3 hc1) hx2 fun w hw' => hw w (by simp [hw'])
        refine ⟨cs', ?_, e2, e3, e4⟩
        simp only [q7q, q2]
        rw [if_pos ⟨hl, by omega⟩, e1]
      ·simp at hb
     ·simp at hb
    cases t with
    | st u =>
     simp only [qq4] at hb
     split at hb
     ·rename_i a ha
      cases hq : (foT u i == off) && (szT a == m) with
      | false => rw [hq] at hb; simp at hb
      | true =>
       rw [hq, cond_true] at hb
       simp only [Bool.and_eq_true, beq_iff_eq] at hq
       exact step (.fd i) a (by simp [tyP, ha]) ⟨a, ha, by cases a <;> trivial⟩ (by simp only [ofP, ha]; rw [hq.1]; cases a <;> rfl) hq.2 hb
     ·simp at hb
    | ar k u =>
     simp only [qq4] at hb
     cases hq : (i * szT u == off) && (szT u == m) && decide (i < k) with
     | false => rw [hq] at hb; simp at hb
     | true =>
      rw [hq, cond_true] at hb
      simp only [Bool.and_eq_true, beq_iff_eq, decide_eq_true_eq] at hq
      exact step (.ix i) u (by simp [tyP]) ⟨hq.2, by cases u <;> trivial⟩ (by simp only [ofP]; rw [hq.1.1]; cases u <;> rfl) hq.1.2 hb
    | _ => simp [qq4] at hb
end
end Go.Ev

/- Operations that do not fail, against the abstract machine's, third part. Conditions: as stated. -/
namespace Go.Ev
theorem q12n (a b : ByteArray) : (a == b) = decide (a = b) := by
 obtain ⟨x⟩ := a
 obtain ⟨y⟩ := b
 show ByteArray.beq ⟨x⟩ ⟨y⟩ = _
 unfold ByteArray.beq
 rw [Bool.eq_iff_iff]
 simp [ByteArray.ext_iff]
def vlE (t : Ty) (x : El t) : List Value := (q06 t x).map fun | .lit y => y | _ => .nilFunc
theorem qeo {k1 k2 : List Kd} {a1 a2 b1 b2 : List Value} {p q : Bool} (h1 : q4g k1 a1 b1 = some p) (h2 : q4g k2 a2 b2 = some q) : q4g (k1 ++ k2) (a1 ++ a2) (b1 ++ b2) = some (p && q) := by
 induction k1 generalizing a1 b1 p with
 | nil =>
  cases a1 <;> cases b1 <;> simp [q4g] at h1
  subst h1; simpa using h2
 | cons k k1 ih =>
  cases a1 <;> cases b1 <;> simp only [q4g] at h1 <;> first | cases h1; done | skip
  split at h1
  ·rename_i c d hc hd
   obtain rfl := Option.some.inj h1
   simp only [List.cons_append, q4g, hc, ih hd, Bool.and_assoc]
  ·simp at h1
theorem qfm {k1 k2 : List Kd} {a1 a2 : List Value} (h1 : kOk k1 a1 = true) (h2 : kOk k2 a2 = true) : kOk (k1 ++ k2) (a1 ++ a2) = true := by
 induction k1 generalizing a1 with
 | nil => cases a1 <;> simp [kOk] at h1; simpa using h2
 | cons k k1 ih =>
  cases a1 <;> simp only [kOk] at h1 <;> first | cases h1; done | skip
  simp only [Bool.and_eq_true] at h1
  simp [kOk, h1.1, ih h1.2]
theorem qh8 : ∀ (t : Ty) (ks : List Kd), kdT t = some ks → (∀ x, q06 t x = (vlE t x).map .lit) ∧ (∀ x, kOk ks (vlE t x) = true) ∧ (∀ a b : El t, q4g ks (vlE t a) (vlE t b) = some (decide (a = b))) ∧ ks.length = szT t := by
 intro t
 induction t with
 | pr a c iha ihc =>
  intro ks hk
  simp only [kdT] at hk
  split at hk
  ·rename_i x y hx hy
   obtain rfl := Option.some.inj hk
   obtain ⟨a1, a2, a3, a4⟩ := iha x hx
   obtain ⟨c1, c2, c3, c4⟩ := ihc y hy
   have e : ∀ v : El (.pr a c), vlE (.pr a c) v = vlE a v.1 ++ vlE c v.2 := fun v => by simp [vlE, q06]
   refine ⟨fun v => by rw [e, List.map_append, ← a1, ← c1]; rfl, fun v => by rw [e]; exact qfm (a2 _) (c2 _), fun u v => ?_, by simp [szT, a4, c4]⟩
   rw [e, e, qeo (a3 _ _) (c3 _ _)]
   congr 1
   rw [Bool.eq_iff_iff]
   simp [Prod.ext_iff]
  ·simp at hk
 | st t ih => intro ks hk; exact ih ks hk
 | ar m t ih =>
  intro ks hk
  simp only [kdT] at hk
  split at hk
  ·rename_i x hx
   obtain rfl := Option.some.inj hk
   obtain ⟨a1, a2, a3, a4⟩ := ih x hx
   have e : ∀ v : El (.ar m t), vlE (.ar m t) v = v.1.flatMap (vlE t) := fun v => by
    simp only [vlE, q06, List.map_flatMap]; rfl
   refine ⟨fun v => ?_, fun v => ?_, fun u v => ?_, ?_⟩
   ·rw [e]; simp only [q06, List.map_flatMap]; congr 1; funext y; exact a1 y
   ·rw [e]
    obtain ⟨l, hl⟩ := v
    clear e hk ih
    simp only
    induction l generalizing m with
    | nil => subst hl; rfl
    | cons y l ihl =>
     subst hl
     simp only [List.length_cons, List.replicate_succ, List.flatten_cons, List.flatMap_cons]
     exact qfm (a2 y) (ihl _ rfl)
   ·rw [e, e]
    obtain ⟨l, hl⟩ := u
    obtain ⟨r, hr⟩ := v
    have key : ∀ (m : Nat) (l r : List (El t)), l.length = m → r.length = m → q4g (List.replicate m x).flatten (l.flatMap (vlE t)) (r.flatMap (vlE t)) = some (decide (l = r)) := by
     intro m
     induction m with
     | zero =>
      intro l r h1 h2
      obtain rfl := List.length_eq_zero_iff.1 h1
      obtain rfl := List.length_eq_zero_iff.1 h2
      rfl
     | succ m ihm =>
      intro l r h1 h2
      cases l with
      | nil => simp at h1
      | cons y l =>
       cases r with
       | nil => simp at h2
       | cons z r =>
        simp only [List.replicate_succ, List.flatten_cons, List.flatMap_cons]
        rw [qeo (a3 y z) (ihm l r (by simpa using h1) (by simpa using h2))]
        congr 1
        rw [Bool.eq_iff_iff]
        simp
    rw [key m l r hl hr]
    congr 1
    rw [Bool.eq_iff_iff]
    simp only [decide_eq_true_eq]
    exact ⟨fun h => Subtype.ext h, fun h => congrArg Subtype.val h⟩
   ·simp [szT, a4]
  ·simp at hk
 | i k =>
  intro ks hk
  obtain rfl := Option.some.inj hk
  refine ⟨fun _ => rfl, fun x => by simp [vlE, q06, kOk, kOk1], fun a b => ?_, rfl⟩
  simp only [vlE, q06, List.map_cons, List.map_nil, q4g, eqK, and_self, if_true, Bool.and_true]
  congr 1
 | b =>
  intro ks hk
  obtain rfl := Option.some.inj hk
  refine ⟨fun _ => rfl, fun x => by simp [vlE, q06, kOk, kOk1], fun a b => ?_, rfl⟩
  simp only [vlE, q06, List.map_cons, List.map_nil, q4g, eqK, Bool.and_true]
  congr 1
 | s =>
  intro ks hk
  obtain rfl := Option.some.inj hk
  refine ⟨fun _ => rfl, fun x => by simp [vlE, q06, kOk, kOk1], fun a b => ?_, rfl⟩
  simp only [vlE, q06, List.map_cons, List.map_nil, q4g, eqK, Bool.and_true]
  rw [q12n]
 | _ => intro ks hk; simp [kdT] at hk
section
variable {h : H2} {n : Nat} {h1 : q0k}
theorem qtc {z : Bool} {op : BinOp} {k k' : IntKind} {a b : Int} {v : V} (hb : binI z op k k' a b = some v) (hz : z = true → 0 < b) : ∃ y, qmx op (.int k a) (.int k' b) = some y ∧ tvR h v (lv y) ∧ okV n h v := by
 have one : ∀ (q : IntKind) (c : Int), tvR h (.x (.i q) c) (lv (.int q c)) := fun q c => q0h (q16 rfl ⟨rfl, rfl⟩)
 have onb : ∀ (c : Bool), tvR h (.x .b c) (lv (.bool c)) := fun c => q0h (q16 rfl ⟨rfl, rfl⟩)
 cases op <;> simp only [binI] at hb
 all_goals first
  | (cases z <;> simp only [cond_true, cond_false] at hb <;> first | (cases hb; done) | skip
     have := hz rfl
     obtain rfl := Option.some.inj hb
     refine ⟨_, by simp only [qmx]; rw [if_neg (by omega)]; rfl, one _ _, trivial⟩)
  | skip
 all_goals
  by_cases hk : k = k'
  ·subst hk
   simp only [decide_true, cond_true] at hb
   first
    | (cases hb; done)
    | (obtain rfl := Option.some.inj hb
       refine ⟨_, by simp only [qmx, if_true]; rfl, ?_, trivial⟩
       first | exact one _ _ | exact onb _)
    | (cases z <;> simp only [cond_true, cond_false] at hb <;> first | (cases hb; done) | skip
       have := hz rfl
       obtain rfl := Option.some.inj hb
       refine ⟨_, by simp only [qmx, if_true]; rw [if_neg (by omega)], one _ _, trivial⟩)
  ·simp [hk] at hb
theorem qqm {op : BinOp} {a b : ByteArray} {v : V} (hb : binS op a b = some v) : ∃ y, qmx op (.string a) (.string b) = some y ∧ tvR h v (lv y) ∧ okV n h v := by
 have onb : ∀ (c : Bool), tvR h (.x .b c) (lv (.bool c)) := fun c => q0h (q16 rfl ⟨rfl, rfl⟩)
 cases op <;> simp only [binS] at hb <;> first | (cases hb; done) | skip
 all_goals (obtain rfl := Option.some.inj hb; exact ⟨_, rfl, onb _, trivial⟩)
theorem qwo {m : Bool} {k : IntKind} : ∀ {r : List V} {x y : Int} {xs : List TV}, mmI m k x r = some y → qas h r xs → mmL m (.int k x) (xs.map some) = some (.int k y) := by
 intro r
 induction r with
 | nil => intro x y xs hm hx; obtain rfl := q4x hx; obtain rfl := Option.some.inj hm; rfl
 | cons v r ih =>
  intro x y xs hm hx
  obtain ⟨x1, ys, rfl, h1, h2⟩ := q1p hx
  cases v with
  | x t c =>
   cases t with
   | i k' =>
    simp only [mmI] at hm
    by_cases hk : k' = k
    ·subst hk
     simp only [decide_true, cond_true] at hm
     obtain rfl := q68 h1
     have := ih hm h2
     cases m <;> simpa [mmL, mm2] using this
    ·simp [hk] at hm
   | _ => simp [mmI] at hm
  | _ => simp [mmI] at hm
theorem q59 {α : Type} : ∀ (l : List α), q11 (l.map some) = some l := by
 intro l
 induction l with
 | nil => rfl
 | cons a l ih => simp [q11, ih]
theorem qw9 {kind : Nat} {v w : V} {x : TV} {neg : Bool} {c : Call} {nx : Nat} (hx : tvR h v x) (ha : alv h v = true) (hn : qtq h kind v = some w) :
  ∃ y, ev1 c (.eqNil kind neg) [some x] h1 nx = some (y, [], [], nx) ∧ tvR h (bif neg then negV w else w) y ∧ okV n h (bif neg then negV w else w) := by
 have kb : ∀ b, tvR h (.kb b) (tB b) := fun b => q0h (q16 rfl rfl)
 have xb : ∀ b, tvR h (.x .b b) (tB b) := fun b => q0h (q16 rfl ⟨rfl, rfl⟩)
 have sl : ∀ q, slV h v = some q → (bif kind == 0 then (match slV h v with | some ⟨_, s, _⟩ => some (.x .b s.isNil) | none => none) else none) = some w →
   ∃ y, ev1 c (.eqNil kind neg) [some x] h1 nx = some (y, [], [], nx) ∧ tvR h (bif neg then negV w else w) y ∧ okV n h (bif neg then negV w else w) := by
  intro q hq hw
  cases hkk : kind == 0 with
  | false => rw [hkk] at hw; simp at hw
  | true =>
   obtain rfl : kind = 0 := by simpa using hkk
   rw [hq] at hw
   simp only [hkk, cond_true] at hw
   obtain rfl := Option.some.inj hw
   refine ⟨_, q11i hx ha hq, ?_⟩
   cases neg
   ·exact ⟨xb _, trivial⟩
   ·exact ⟨xb _, trivial⟩
 cases v with
 | nl k =>
  simp only [qtq] at hn
  cases hkk : (k == kind) && Nat.blt k 3 with
  | false => rw [hkk] at hn; simp at hn
  | true =>
   rw [hkk, cond_true] at hn
   obtain rfl := Option.some.inj hn
   simp only [Bool.and_eq_true, beq_iff_eq] at hkk
   obtain ⟨rfl, hlt⟩ := hkk
   have hlt : k < 3 := Nat.le_of_ble_eq_true hlt
   rw [qfn hx]
   match k, hlt with
   | 0, _ => cases neg <;> exact ⟨_, rfl, kb _, trivial⟩
   | 1, _ => cases neg <;> exact ⟨_, rfl, kb _, trivial⟩
   | 2, _ => cases neg <;> exact ⟨_, rfl, kb _, trivial⟩
 | pt t v =>
  simp only [qtq] at hn
  cases hkk : kind == 1 with
  | false => rw [hkk] at hn; simp at hn
  | true =>
   rw [hkk, cond_true] at hn
   obtain rfl := Option.some.inj hn
   obtain rfl : kind = 1 := by simpa using hkk
   rw [(qj5 hx).2]
   cases neg <;> exact ⟨_, rfl, kb _, trivial⟩
 | op id t p =>
  simp only [qtq] at hn
  cases hkk : kind == 1 with
  | false => rw [hkk] at hn; simp at hn
  | true =>
   rw [hkk, cond_true] at hn
   obtain rfl := Option.some.inj hn
   obtain rfl : kind = 1 := by simpa using hkk
   rw [qff hx]
   cases neg <;> exact ⟨_, rfl, kb _, trivial⟩
 | ep id m t p =>
  simp only [qtq] at hn
  cases hkk : kind == 1 with
  | false => rw [hkk] at hn; simp at hn
  | true =>
   rw [hkk, cond_true] at hn
   obtain rfl := Option.some.inj hn
   obtain rfl : kind = 1 := by simpa using hkk
   rw [qfh hx]
   cases neg <;> exact ⟨_, rfl, kb _, trivial⟩
 | fn z f l =>
  simp only [qtq] at hn
  cases hkk : kind == 2 with
  | false => rw [hkk] at hn; simp at hn
  | true =>
   rw [hkk, cond_true] at hn
   obtain rfl := Option.some.inj hn
   obtain rfl : kind = 2 := by simpa using hkk
   rcases qsk hx with ⟨_, ds, _, rfl⟩ | ⟨_, cs, _, rfl⟩ <;> (cases neg <;> exact ⟨_, rfl, kb _, trivial⟩)
 | x t v =>
  cases hq : slV h (.x t v) with
  | none => simp [qtq, hq] at hn
  | some q => exact sl q hq hn
 | so id =>
  cases hq : slV h (.so id) with
  | none => simp [qtq, hq] at hn
  | some q => exact sl q hq hn
 | sb id ver lo t r =>
  cases hq : slV h (.sb id ver lo t r) with
  | none => simp [qtq, hq] at hn
  | some q => exact sl q hq hn
 | _ => simp [qtq, slV] at hn
theorem qub {off m i : Nat} {v w : V} {x : TV} {c : Call} {nx : Nat} (hx : tvR h v x) (hk : okV n h v) (hw : fldA off m i v = some w) :
  ∃ y, ev1 c (.fieldAddr off m) [some x] h1 nx = some (y, [], [], nx) ∧ tvR h w y ∧ okV n h w := by
 have path : ∀ (t u a : Ty) (p : qey), tyP t p = some (.st u) → fdT u i = some a → okP t p → okP t (p ++ [.fd i]) ∧ ofP t (p ++ [.fd i]) = ofP t p + foT u i := by
  intro t u a p
  induction p generalizing t with
  | nil =>
   intro h1 h2 _
   have e : tyP t [] = some t := by cases t <;> rfl
   obtain rfl : t = .st u := by rw [e] at h1; exact Option.some.inj h1
   refine ⟨⟨a, h2, by cases a <;> trivial⟩, ?_⟩
   simp only [List.nil_append, ofP, h2]
   cases a <;> simp [ofP]
  | cons q p ih =>
   intro h1 h2 h3
   cases q with
   | fd j =>
    cases t with
    | st t =>
     obtain ⟨b2, hb, h3⟩ := h3
     simp only [tyP, hb] at h1
     obtain ⟨q1, q2⟩ := ih b2 h1 h2 h3
     refine ⟨⟨b2, hb, q1⟩, ?_⟩
     simp only [List.cons_append, ofP, hb, q2]; exact (Nat.add_assoc _ _ _).symm
    | _ => exact h3.elim
   | ix k =>
    cases t with
    | ar l t =>
     obtain ⟨hk, h3⟩ := h3
     obtain ⟨q1, q2⟩ := ih t h1 h2 h3
     refine ⟨⟨hk, q1⟩, ?_⟩
     simp only [List.cons_append, ofP, q2]; exact (Nat.add_assoc _ _ _).symm
    | _ => exact h3.elim
 cases v with
 | op id t p =>
  simp only [fldA] at hw
  split at hw
  ·rename_i u hu
   split at hw
   ·rename_i a hf
    cases hq : (foT u i == off) && (szT a == m) with
    | false => rw [hq] at hw; simp at hw
    | true =>
     rw [hq, cond_true] at hw
     obtain rfl := Option.some.inj hw
     simp only [Bool.and_eq_true, beq_iff_eq] at hq
     obtain ⟨q1, q2⟩ := path t u a p hu hf hk.2
     rw [qff hx]
     refine ⟨_, rfl, q0h (q16 rfl ?_), hk.1, q1⟩
     show [_] = [_]
     rw [q2, hq.1]
   ·simp at hw
  ·simp at hw
 | ep id k t p =>
  simp only [fldA] at hw
  split at hw
  ·rename_i u hu
   split at hw
   ·rename_i a hf
    cases hq : (foT u i == off) && (szT a == m) with
    | false => rw [hq] at hw; simp at hw
    | true =>
     rw [hq, cond_true] at hw
     obtain rfl := Option.some.inj hw
     simp only [Bool.and_eq_true, beq_iff_eq] at hq
     obtain ⟨q1, q2⟩ := path t u a p hu hf hk.2.1
     rw [qfh hx]
     refine ⟨_, rfl, q0h (q16 rfl ?_), hk.1, q1, hk.2.2⟩
     show [_] = [_]
     rw [q2, hq.1]
   ·simp at hw
  ·simp at hw
 | pt t v =>
  cases t with
  | st u =>
   simp only [fldA] at hw
   split at hw
   ·rename_i a y hy
    cases hq : (foT u i == off) && (szT a == m) with
    | false => rw [hq] at hw; simp at hw
    | true =>
     rw [hq, cond_true] at hw
     obtain rfl := Option.some.inj hw
     simp only [Bool.and_eq_true, beq_iff_eq] at hq
     obtain ⟨a', y', e, f1, f2, f3⟩ := q96 _ _ _ _ hy
     cases e
     obtain ⟨hd, rfl⟩ := qj5 hx
     refine ⟨_, ?_, q0h (q16 (c := .d (.pt (q06 a y))) rfl ⟨qi2 u _ _ hd f1, rfl⟩), trivial⟩
     have hle : off + m ≤ (q06 (.st u) v).length := by rw [q09]; show _ ≤ szT u; omega
     have e2 : ((q06 (.st u) v).drop off).take m = q06 a y := by rw [← hq.1, ← hq.2]; exact f3
     simp only [ev1, q3a]
     rw [if_pos hle, e2]
   ·simp at hw
  | _ => simp [fldA] at hw
 | _ => simp [fldA] at hw
theorem qrr : ∀ (l : V) (i : Nat) (w : V) (cs : List C), q31 h l cs → qhu l i = some w → ∃ cw, q31 h w cw ∧ foV l i + szV w ≤ cs.length ∧ (cs.drop (foV l i)).take (szV w) = cw := by
 intro l
 induction l with
 | co a r iha ihr =>
  intro i w cs hv hw
  obtain ⟨x, y, rfl, k1, k2⟩ := hv
  have hl := q2a k1
  cases i with
  | zero =>
   obtain rfl := Option.some.inj hw
   refine ⟨x, k1, by simp [foV]; omega, ?_⟩
   simp only [foV, List.drop_zero]
   rw [← hl, List.take_left]
  | succ i =>
   obtain ⟨cw, q1, q2, q3⟩ := ihr i w y k2 hw
   refine ⟨cw, q1, by simp only [foV, List.length_append]; omega, ?_⟩
   simp only [foV]
   rw [← List.drop_drop, ← hl, List.drop_left, q3]
 | _ => intro i w cs hv hw; simp [qhu] at hw
theorem qyb : ∀ (l : V) (i : Nat) (w : V) (xs : List TV), qup h l xs → qhu l i = some w → ∃ x, xs[i]? = some x ∧ qin h w x := by
 intro l
 induction l with
 | co a r iha ihr =>
  intro i w xs hv hw
  obtain ⟨x, ys, rfl, k1, k2⟩ := hv
  cases i with
  | zero => obtain rfl := Option.some.inj hw; exact ⟨x, rfl, k1⟩
  | succ i => exact ihr i w ys k2 hw
 | _ => intro i w xs hv hw; simp [qhu] at hw
end
end Go.Ev

/- Operations that do not fail, against the abstract machine's, last part. Conditions: as stated. -/
namespace Go.Ev
section
variable {h : H2} {n : Nat} {h1 : q0k}
def TotR (h : H2) (n : Nat) (h1 : q0k) (k : K) (xs : List TV) (v : V) (l : List Nat) : Prop :=
 ∀ (c : Call) (nx : Nat), ∃ x ids, ev1 c k (xs.map some) h1 nx = some (x, [], ids, nx) ∧ tvR h v x ∧ okV n h v ∧ ∀ i ∈ ids, i ∈ l
theorem TotR.of {k : K} {xs : List TV} {v : V} {x : TV} (he : ∀ (c : Call) (nx : Nat), ev1 c k (xs.map some) h1 nx = some (x, [], [], nx)) (hx : tvR h v x) (hk : okV n h v) : TotR h n h1 k xs v [] :=
 fun c nx => ⟨x, [], he c nx, hx, hk, fun i hi => by simp at hi⟩
theorem xb (b : Bool) : tvR h (.x .b b) (tB b) := q0h (q16 rfl ⟨rfl, rfl⟩)
theorem xi (k : IntKind) (a : Int) : tvR h (.x (.i k) a) (tI k a) := q0h (q16 rfl ⟨rfl, rfl⟩)
theorem xs_ (a : ByteArray) : tvR h (.x .s a) (.c (.d (dS a))) := q0h (q16 rfl ⟨rfl, rfl⟩)
def tvx (t : Ty) (y : El t) : TV := if agT t = true then .agg ((q06 t y).map .d) else match q06 t y with | d :: _ => .c (.d d) | [] => .tup []
theorem qrt {t : Ty} (y : El t) {va : Bool} (hv : agT t = va) (h1 : (va || szT t == 1) = true) : qa6 va (q06 t y) = some (tvx t y) := by
 subst hv
 unfold qa6 tvx
 cases ha : agT t with
 | true => rfl
 | false =>
  rw [ha] at h1
  have := q09 t y
  rw [show szT t = 1 by simpa using h1] at this
  cases he : q06 t y with
  | nil => rw [he] at this; simp at this
  | cons d r =>
   rw [he] at this
   have : r = [] := by simpa using this
   subst this; rfl
theorem qyo {t : Ty} {y : El t} (hd : dat t = true) (h1 : (agT t || szT t == 1) = true) : qin h (.x t y) (tvx t y) := by
 unfold tvx
 cases ha : agT t with
 | true => exact qj2 ha ⟨hd, rfl⟩
 | false =>
  rw [ha] at h1
  have := q09 t y
  rw [show szT t = 1 by simpa using h1] at this
  cases he : q06 t y with
  | nil => rw [he] at this; simp at this
  | cons d r =>
   rw [he] at this
   have : r = [] := by simpa using this
   subst this
   exact q16 ha ⟨hd, by rw [he]; rfl⟩
theorem qsj (f : TV → Option C) (hf : ∀ c, f (.c c) = some c) : ∀ (cs : List C), q11 ((cs.map TV.c).map f) = some cs := by
 intro cs
 induction cs with
 | nil => rfl
 | cons c cs ih => simp only [List.map_cons, hf, q11, ih]
theorem qg5 : ∀ (l : List Value), q5e (l.map fun v => C.d (.lit v)) = some l := by
 intro l
 induction l with
 | nil => rfl
 | cons v l ih => simp [q5e, ih]
theorem qmf {kt : Ty} {ks : List Kd} {v : V} {x : TV} {y : El kt} {ka : Bool} (hx : tvR h v x) (hc : cst kt v = some y) (hk : kdT kt = some ks) (ha : agT kt = ka) : q9z ka ks x = some (vlE kt y) := by
 obtain ⟨h1, h2, _, h4⟩ := qh8 kt ks hk
 obtain ⟨g1, g2⟩ := qdx hx hc
 cases ka with
 | true =>
  rw [g1 ha]
  have e : (q06 kt y).map C.d = (vlE kt y).map fun v => C.d (.lit v) := by rw [h1 y, List.map_map]; rfl
  simp only [q9z]
  rw [if_pos ⟨trivial, by rw [List.length_map, q09, h4]⟩, e, qg5]
  simp only [h2 y, if_true]
 | false =>
  obtain ⟨d, hd, rfl⟩ := g2 ha
  have hl := q09 kt y
  rw [hd] at hl
  have h5 := h1 y
  rw [hd] at h5
  cases hv : vlE kt y with
  | nil => rw [hv] at h5; simp at h5
  | cons q r =>
   rw [hv] at h5
   simp only [List.map_cons, List.cons.injEq] at h5
   obtain ⟨rfl, h6⟩ := h5
   have : r = [] := by simpa using h6.symm
   subst this
   simp only [q9z]
   rw [if_pos ⟨trivial, by rw [h4, ← hl]; rfl⟩]
   have h7 := h2 y
   rw [hv] at h7
   simp only [q5e, h7, if_true]
theorem qvl {v : V} {q : (k : Ty) × (v : Ty) × Mp (El k) (El v) × List Nat} {x : TV} (hr : HR n h1 h) (hm : mapV h v = some q) (hx : tvR h v x) :
  ∃ id, v = .om id ∧ x = .c (.om id) ∧ q.2.2.2 = [id] ∧ fO h id = some (.mp q.1 q.2.1 q.2.2.1) ∧ q02 h1 id = mpO (agT q.1) (agT q.2.1) (vlE q.1) (q06 q.2.1) q.2.2.1 := by
 cases v with
 | om id =>
  simp only [mapV] at hm
  split at hm
  ·rename_i k v m ho
   obtain rfl := Option.some.inj hm
   exact ⟨id, rfl, qte hx, rfl, ho, (hr.ob id _ ho).2.1.2.2⟩
  ·simp at hm
 | _ => simp [mapV] at hm
theorem qqa {o : OP} {vs : List V} {v : V} {l : List Nat} {xs : List TV} (hr : HR n h1 h) (ht : tot o vs h = some (v, l)) (hx : qas h vs xs) (hk : ∀ w ∈ vs, okV n h w) (ha : ∀ w ∈ vs, alv h w = true)
  (hp : posC o.o.args = true → ∀ a k b, vs = [a, .x (.i k) b] → 0 < b) : TotR h n h1 o.o.k xs v l := by
 obtain ⟨⟨d, k, args, g⟩, t, fi⟩ := o
 simp only at hp ⊢
 unfold tot at ht
 simp only at ht
 split at ht
 ·-- mv
  obtain ⟨rfl, rfl⟩ := Prod.mk.inj (Option.some.inj ht)
  obtain ⟨x, rfl, h2⟩ := q3z hx
  exact .of (fun _ _ => rfl) h2 (hk _ (by simp))
 ·-- nilCheck
  obtain ⟨x, rfl, h2⟩ := q3z hx
  have hk1 := hk _ (List.mem_singleton.2 rfl)
  split at ht
  ·obtain ⟨rfl, rfl⟩ := Prod.mk.inj (Option.some.inj ht); exact .of (fun _ _ => by rw [(qj5 h2).2]; rfl) h2 hk1
  ·obtain ⟨rfl, rfl⟩ := Prod.mk.inj (Option.some.inj ht)
   refine .of (fun _ _ => ?_) h2 hk1
   rcases qsk h2 with ⟨_, ds, _, rfl⟩ | ⟨_, cs, _, rfl⟩ <;> rfl
  ·obtain ⟨rfl, rfl⟩ := Prod.mk.inj (Option.some.inj ht); exact .of (fun _ _ => by rw [qfh h2]; rfl) h2 hk1
  ·obtain ⟨rfl, rfl⟩ := Prod.mk.inj (Option.some.inj ht); exact .of (fun _ _ => by rw [qff h2]; rfl) h2 hk1
  ·simp at ht
 ·-- bin int
  rename_i op q a q' b
  obtain ⟨x, y, rfl, h2, h3⟩ := q3m hx
  obtain rfl := q68 h2
  obtain rfl := q68 h3
  split at ht
  ·rename_i w hw
   obtain ⟨rfl, rfl⟩ := Prod.mk.inj (Option.some.inj ht)
   obtain ⟨y, h4, h5, h6⟩ := qtc (h := h) (n := n) hw fun hz => hp hz _ _ _ rfl
   exact .of (fun _ _ => by simp only [List.map, ev1, h4]) h5 h6
  ·simp at ht
 ·-- bin string
  obtain ⟨x, y, rfl, h2, h3⟩ := q3m hx
  obtain rfl := qjv h2
  obtain rfl := qjv h3
  split at ht
  ·rename_i w hw
   obtain ⟨rfl, rfl⟩ := Prod.mk.inj (Option.some.inj ht)
   obtain ⟨y, h4, h5, h6⟩ := qqm (h := h) (n := n) hw
   exact .of (fun _ _ => by simp only [List.map, ev1, h4]) h5 h6
  ·simp at ht
 ·-- eqBool
  rename_i neg v1 v2
  obtain ⟨x, y, rfl, h2, h3⟩ := q3m hx
  split at ht
  ·rename_i a b ha' hb'
   obtain ⟨rfl, rfl⟩ := Prod.mk.inj (Option.some.inj ht)
   rw [q10q h2 ha', q10q h3 hb']
   refine .of (x := tB (bif neg then !(a == b) else a == b)) (fun _ _ => ?_) (xb _) trivial
   cases neg <;> rfl
  ·simp at ht
 ·-- eqNil
  obtain ⟨x, rfl, h2⟩ := q3z hx
  split at ht
  ·rename_i w hw
   obtain ⟨rfl, rfl⟩ := Prod.mk.inj (Option.some.inj ht)
   intro c nx
   obtain ⟨y, h4, h5, h6⟩ := qw9 (n := n) (h1 := h1) (c := c) (nx := nx) h2 (ha _ (by simp)) hw
   exact ⟨y, [], h4, h5, h6, fun i hi => by simp at hi⟩
  ·simp at ht
 ·-- eqAgg
  rename_i neg ks t1 a w
  obtain ⟨x, y, rfl, h2, h3⟩ := q3m hx
  split at ht
  ·rename_i b hb
   cases hq : agT t1 && decide (kdT t1 = some ks) with
   | false => rw [hq] at ht; simp at ht
   | true =>
    rw [hq, cond_true] at ht
    obtain ⟨rfl, rfl⟩ := Prod.mk.inj (Option.some.inj ht)
    simp only [Bool.and_eq_true, decide_eq_true_eq] at hq
    obtain ⟨k1, k2, k3, k4⟩ := qh8 t1 ks hq.2
    have e1 := (qdx (v := .x t1 a) (u := t1) (y := a) h2 (by simp [cst, q5l, q3d, q3s])).1 hq.1
    have e2 := (qdx h3 hb).1 hq.1
    have el : ∀ z : El t1, q5e ((q06 t1 z).map C.d) = some (vlE t1 z) := fun z => by
     rw [show (q06 t1 z).map C.d = (vlE t1 z).map fun v => C.d (.lit v) by rw [k1 z, List.map_map]; rfl, qg5]
    rw [e1, e2]
    refine .of (x := tB (bif neg then !(decide (a = b)) else decide (a = b))) (fun _ _ => ?_) (xb _) trivial
    simp only [List.map, ev1, el, k3]
    cases neg <;> rfl
  ·simp at ht
 ·obtain ⟨rfl, rfl⟩ := Prod.mk.inj (Option.some.inj ht)
  obtain ⟨x, rfl, h2⟩ := q3z hx
  rw [qfa h2]
  exact .of (fun _ _ => rfl) (q0h (q16 rfl rfl)) trivial
 ·obtain ⟨rfl, rfl⟩ := Prod.mk.inj (Option.some.inj ht)
  obtain ⟨x, rfl, h2⟩ := q3z hx
  rw [quz h2]
  exact .of (fun _ _ => rfl) (xb _) trivial
 ·obtain ⟨rfl, rfl⟩ := Prod.mk.inj (Option.some.inj ht)
  obtain ⟨x, rfl, h2⟩ := q3z hx
  rw [q68 h2]
  exact .of (fun _ _ => rfl) (xi _ _) trivial
 ·obtain ⟨rfl, rfl⟩ := Prod.mk.inj (Option.some.inj ht)
  obtain ⟨x, rfl, h2⟩ := q3z hx
  rw [q68 h2]
  exact .of (fun _ _ => rfl) (xi _ _) trivial
 ·obtain ⟨rfl, rfl⟩ := Prod.mk.inj (Option.some.inj ht)
  obtain ⟨x, rfl, h2⟩ := q3z hx
  rw [q68 h2]
  exact .of (fun _ _ => rfl) (xi _ _) trivial
 ·obtain ⟨rfl, rfl⟩ := Prod.mk.inj (Option.some.inj ht)
  obtain ⟨x, rfl, h2⟩ := q3z hx
  rw [qjv h2]
  exact .of (fun _ _ => rfl) (xs_ _) trivial
 ·-- mkFn
  rename_i f
  cases hc : vs.all capB with
  | false => rw [hc] at ht; simp at ht
  | true =>
   rw [hc, cond_true] at ht
   obtain ⟨rfl, rfl⟩ := Prod.mk.inj (Option.some.inj ht)
   obtain ⟨cs, h2, rfl⟩ := quj hx fun w hw => by
    have := List.all_eq_true.1 hc w hw
    cases w <;> first | exact ⟨trivial, by simp [capB] at this; exact this⟩ | simp [capB] at this
   refine .of (x := .c (.ofn f cs)) (fun _ _ => ?_) (q0h (q16 rfl ⟨cs, h2, rfl⟩)) ?_
   ·simp only [ev1, q59]
    rw [qsj _ fun _ => rfl]
   ·clear ht h2 hp ha hc hx
    induction vs with
    | nil => trivial
    | cons w vs ih => exact ⟨hk w (by simp), ih fun u hu => hk u (by simp [hu])⟩
 ·-- load
  rename_i g m p
  obtain ⟨x, rfl, h2⟩ := q3z hx
  split at ht
  ·rename_i w l' hl
   cases hc : chk h g m w with
   | false => rw [hc] at ht; simp at ht
   | true =>
    rw [hc, cond_true] at ht
    obtain ⟨rfl, rfl⟩ := Prod.mk.inj (Option.some.inj ht)
    intro c nx
    obtain ⟨y, h3, h4, h5⟩ := qhv (c := c) (nx := nx) hr hl hc h2 (hk _ (by simp))
    exact ⟨y, _, h3, h4, h5, fun i hi => hi⟩
  ·simp at ht
 ·-- fieldAddr
  obtain ⟨x, rfl, h2⟩ := q3z hx
  split at ht
  ·split at ht
   ·rename_i w hw
    obtain ⟨rfl, rfl⟩ := Prod.mk.inj (Option.some.inj ht)
    intro c nx
    obtain ⟨y, h3, h4, h5⟩ := qub (h1 := h1) (c := c) (nx := nx) h2 (hk _ (by simp)) hw
    exact ⟨y, [], h3, h4, h5, fun i hi => by simp at hi⟩
   ·simp at ht
  ·simp at ht
 ·-- field of data
  rename_i g off m u y
  obtain ⟨x, rfl, h2⟩ := q3z hx
  split at ht
  ·split at ht
   ·rename_i i _ w hw
    cases hc : (foT u i == off) && chk h g m w with
    | false => rw [hc] at ht; simp at ht
    | true =>
     rw [hc, cond_true] at ht
     obtain ⟨rfl, rfl⟩ := Prod.mk.inj (Option.some.inj ht)
     simp only [Bool.and_eq_true, beq_iff_eq] at hc
     obtain ⟨a, z, rfl, f1, f2, f3⟩ := q96 _ _ _ _ hw
     obtain ⟨cs, ⟨hd, rfl⟩, g1, _⟩ := qa1 (v := .x (.st u) y) trivial h2
     have hd' : dat u = true := hd
     obtain ⟨_, hs, _, _⟩ := q6r hc.2
     have hs : szT a = m := hs
     obtain ⟨q, h3, h4⟩ := q7x (cs := (q06 u y).map C.d) (off := off) hc.2 (show q31 h (.x a z) ((q06 a z).map .d) from ⟨qi2 u _ _ hd' f1, rfl⟩) (by simp [q09]; omega)
      (by rw [← hc.1, ← hs, ← f3, List.map_take, List.map_drop])
     rw [g1 rfl]
     exact .of (x := q) (fun _ _ => by
      show (match ldC g m (((q06 u y).map C.d).drop off) with | some v => some (v, ([] : Upd), ([] : List Nat), _) | none => none) = _
      rw [h3]) h4 trivial
   ·simp at ht
  ·simp at ht
 ·-- field of a row
  rename_i g off m u
  obtain ⟨x, rfl, h2⟩ := q3z hx
  split at ht
  ·split at ht
   ·rename_i i _ w hw
    cases hc : (foV u i == off) && chk h g m w with
    | false => rw [hc] at ht; simp at ht
    | true =>
     rw [hc, cond_true] at ht
     obtain ⟨rfl, rfl⟩ := Prod.mk.inj (Option.some.inj ht)
     simp only [Bool.and_eq_true, beq_iff_eq] at hc
     obtain ⟨cs, hcs, g1, _⟩ := qa1 (v := .rc u) trivial h2
     obtain ⟨cw, q1, q2, q3⟩ := qrr u i w cs hcs hw
     obtain ⟨_, hs, _, _⟩ := q6r hc.2
     obtain ⟨q, h3, h4⟩ := q7x (off := off) hc.2 q1 (by rw [← hc.1, ← hs]; exact q2) (by rw [← hc.1, ← hs]; exact q3)
     rw [g1 rfl]
     exact .of (x := q) (fun _ _ => by
      show (match ldC g m (cs.drop off) with | some v => some (v, ([] : Upd), ([] : List Nat), _) | none => none) = _
      rw [h3]) h4 (qgw u i w (hk (.rc u) (List.mem_singleton.2 rfl)) hw)
   ·simp at ht
  ·simp at ht
 ·-- extract
  rename_i i u
  obtain ⟨x, rfl, h2⟩ := q3z hx
  split at ht
  ·rename_i w hw
   obtain ⟨rfl, rfl⟩ := Prod.mk.inj (Option.some.inj ht)
   obtain ⟨ys, rfl, h3⟩ := q12b h2
   obtain ⟨y, h4, h5⟩ := qyb u i w ys h3 hw
   exact .of (x := y) (fun _ _ => by simp only [List.map, ev1, h4]) (q0h h5) (qgw u i w (hk (.tp u) (List.mem_singleton.2 rfl)) hw)
  ·simp at ht
 ·obtain ⟨rfl, rfl⟩ := Prod.mk.inj (Option.some.inj ht)
  obtain ⟨x, rfl, h2⟩ := q3z hx
  rw [qjv h2]
  exact .of (fun _ _ => rfl) (xi _ _) trivial
 ·obtain ⟨rfl, rfl⟩ := Prod.mk.inj (Option.some.inj ht)
  obtain ⟨x, rfl, h2⟩ := q3z hx
  rw [qfn h2]
  exact .of (fun _ _ => rfl) (xi _ _) trivial
 ·-- len
  obtain ⟨x, rfl, h2⟩ := q3z hx
  split at ht
  ·rename_i q t' s' l' hq
   obtain ⟨rfl, rfl⟩ := Prod.mk.inj (Option.some.inj ht)
   exact .of (fun _ _ => q112 h2 (ha _ (by simp)) hq) (xi _ _) trivial
  ·simp at ht
 ·-- minmax
  rename_i m k' x r
  obtain ⟨x1, ys, rfl, h2, h3⟩ := q1p hx
  split at ht
  ·rename_i y hy
   obtain ⟨rfl, rfl⟩ := Prod.mk.inj (Option.some.inj ht)
   obtain rfl := q68 h2
   exact .of (x := lv (.int k' y)) (fun _ _ => by simp only [List.map, ev1, qwo hy h3]) (xi _ _) trivial
  ·simp at ht
 ·-- build
  rename_i z ps
  cases hc : qk6 (zeL t) z && agT t && q2i (zeV t) false t with
  | false => rw [hc] at ht; simp at ht
  | true =>
   rw [hc, cond_true] at ht
   simp only [Bool.and_eq_true] at hc
   split at ht
   ·rename_i w hw
    obtain ⟨rfl, rfl⟩ := Prod.mk.inj (Option.some.inj ht)
    obtain ⟨z1, z2⟩ := (qha (h := h) (n := n) t).1 hc.2
    obtain ⟨cs, b1, b2, b3, b4⟩ := quf fi ps vs (zeV t) w _ xs hw hc.2 z1 z2 hx hk
    rw [qa5 hc.1.1] at b1
    exact .of (x := .agg cs) (fun _ _ => by simp only [ev1, q59, b1]) (q0h (qj2 (q11y b4 hc.1.2) b2)) b3
   ·simp at ht
 ·-- lookup
  rename_i ka ks va z ok m kv
  obtain ⟨x, y, rfl, h2, h3⟩ := q3m hx
  split at ht
  ·rename_i kt vt mp l' hq
   split at ht
   ·rename_i key hkey
    cases hc : (agT kt == ka) && (agT vt == va) && decide (kdT kt = some ks) && qk6 (zeL vt) z && dat vt && (va || szT vt == 1) with
    | false => rw [hc] at ht; simp at ht
    | true =>
     rw [hc, cond_true] at ht
     simp only [Bool.and_eq_true, beq_iff_eq, decide_eq_true_eq] at hc
     obtain ⟨⟨⟨⟨⟨c1, c2⟩, c3⟩, c4⟩, c5⟩, c6⟩ := hc
     obtain ⟨id, rfl, rfl, e1, e2, e3⟩ := qvl hr hq h2
     have e1 : l' = [id] := e1
     subst e1
     obtain ⟨_, _, k3, _⟩ := qh8 kt ks c3
     have hz : q0n z = q06 vt (zeE vt) := by rw [qac vt c5, qa5 c4]
     have hv : ∀ y, qa6 va (q06 vt y) = some (tvx vt y) := fun y => qrt y c2 c6
     have hkt := qmf h3 hkey c3 c1
     rw [c1, c2] at e3
     rw [← c2] at c6
     cases ok with
     | false =>
      simp only [cond_false] at ht
      obtain ⟨rfl, rfl⟩ := Prod.mk.inj (Option.some.inj ht)
      exact fun c nx => ⟨_, [id], q10r (z := zeE vt) e3 hkt k3 hz hv, q0h (qyo c5 c6), trivial, fun i hi => hi⟩
     | true =>
      simp only [cond_true] at ht
      obtain ⟨rfl, rfl⟩ := Prod.mk.inj (Option.some.inj ht)
      exact fun c nx => ⟨_, [id], q103 (z := zeE vt) e3 hkt k3 hz hv, ⟨_, rfl, _, _, rfl, qyo c5 c6, _, _, rfl, q16 rfl ⟨rfl, rfl⟩, rfl⟩, ⟨trivial, trivial, trivial⟩, fun i hi => hi⟩
   ·simp at ht
  ·simp at ht
 ·simp at ht
end
end Go.Ev

/- Operations that make something, against the abstract machine's: how a heap changes. Conditions: as stated. -/
namespace Go.Ev
section
variable {h : H2} {n : Nat} {h1 : q0k}
theorem q1j (id : Nat) (o : Option O) (h : H2) (i : Nat) : fO ((id, o) :: h) i = if id = i then o else fO h i := by
 simp only [fO, fnd]
 by_cases e : id = i
 ·subst e; simp
 ·have e' : (id == i) = false := by simpa using e
  simp [e, e']
theorem q12 (id : Nat) (o : Option Ob) (h : q0k) (i : Nat) : q02 ((id, o) :: h) i = if id = i then o else q02 h i := by
 simp only [q02, fnd]
 by_cases e : id = i
 ·subst e; simp
 ·have e' : (id == i) = false := by simpa using e
  simp [e, e']
theorem HSt.new (o : Option O) : HSt n h ((n, o) :: h) :=
 ⟨fun id o' hi ho => by rw [q1j, if_neg (by omega)] at ho; exact .inl ⟨o', ho, OSt.refl _⟩⟩
theorem HSt.upd {id : Nat} {o o' : O} (ho : fO h id = some o) (hs : OSt o o') : HSt n h ((id, some o') :: h) :=
 ⟨fun i o2 hi h2 => by
  rw [q1j] at h2
  split at h2
  ·rename_i e; subst e; obtain rfl := Option.some.inj h2; exact .inl ⟨o, ho, hs⟩
  ·exact .inl ⟨o2, h2, OSt.refl _⟩⟩
theorem HR.upd {n' id : Nat} {o : Option O} {u : Upd} (hr : HR n h1 h) (hn : n ≤ n') (hi : id < n') (hs : HSt n h ((id, o) :: h)) (hu : ∀ i, i ≠ id → q02 (u ++ h1) i = q02 h1 i)
  (ho : ∀ o', o = some o' → obR ((id, o) :: h) o' (q02 (u ++ h1) id) ∧ okO n' ((id, o) :: h) o') : HR n' (u ++ h1) ((id, o) :: h) := by
 refine ⟨fun i o' h2 => ?_⟩
 rw [q1j] at h2
 split at h2
 ·rename_i e; subst e; exact ⟨hi, ho o' h2⟩
 ·rename_i e
  obtain ⟨q1, q2, q3⟩ := hr.ob i o' h2
  refine ⟨by omega, ?_, q6t hn hs q3⟩
  rw [hu i fun e' => e e'.symm]
  exact q80 hs q3 q2
theorem HR.mono {n' : Nat} (hr : HR n h1 h) (hn : n ≤ n') : HR n' h1 h :=
 ⟨fun i o ho => let ⟨a, b, c⟩ := hr.ob i o ho; ⟨by omega, b, q6t hn (HSt.refl n h) c⟩⟩
theorem HR.ext {h1' : q0k} (hr : HR n h1 h) (he : ∀ i, q02 h1' i = q02 h1 i) : HR n h1' h := ⟨fun i o ho => by rw [he]; exact hr.ob i o ho⟩
structure Did (s s' : S2) (h1 : q0k) (x : TV) (u : Upd) (ids : List Nat) (m : Nat) (v : V) (l : List Nat) : Prop where
 val : tvR s'.heap v x
 okv : okV s'.next s'.heap v
 hr : HR s'.next (u ++ h1) s'.heap
 hst : HSt s.next s.heap s'.heap
 env : s'.env = s.env
 gh : s'.gh = s.gh
 m : m ≤ s'.next
 le : s.next ≤ s'.next
 ids : ∀ i ∈ ids, i ∈ l
 nb : ∀ i, i < s.next → fO s.heap i = none → fO s'.heap i = none
 wo : ∃ w, s'.wo = w ++ s.wo ∧ (∀ p ∈ u, p.1 ∈ w) ∧ ∀ id, id ∉ w → fO s'.heap id = fO s.heap id
theorem Did.pure {s : S2} {x : TV} {v : V} {ids l : List Nat} (hr : HR s.next h1 s.heap) (hx : tvR s.heap v x) (hk : okV s.next s.heap v) (hl : ∀ i ∈ ids, i ∈ l) : Did s s h1 x [] ids s.next v l :=
 ⟨hx, hk, hr, HSt.refl _ _, rfl, rfl, Nat.le_refl _, Nat.le_refl _, hl, fun _ _ h => h, [], rfl, fun p hp => by simp at hp, fun _ _ => rfl⟩
theorem Did.new {s : S2} {o : O} {b : Option Ob} {u : Upd} {x : TV} {v : V} {ids l : List Nat} {m : Nat} (hr : HR s.next h1 s.heap) (hu : u = [(s.next, b)] ∨ (u = [] ∧ ∀ b', obR ((s.next, some o) :: s.heap) o b')) (hb : u = [(s.next, b)] → obR ((s.next, some o) :: s.heap) o b)
  (hko : okO (s.next + 1) ((s.next, some o) :: s.heap) o) (hx : tvR ((s.next, some o) :: s.heap) v x) (hk : okV (s.next + 1) ((s.next, some o) :: s.heap) v) (hl : ∀ i ∈ ids, i ∈ l) (hm : m ≤ s.next + 1) : Did s (qaq s o) h1 x u ids m v l := by
 refine ⟨hx, hk, ?_, HSt.new _, rfl, rfl, hm, Nat.le_succ _, hl, fun i hi h => (by rw [show (qaq s o).heap = (s.next, some o) :: s.heap from rfl, q1j, if_neg (by omega)]; exact h), [s.next], rfl, ?_, fun id hid => ?_⟩
 ·refine HR.upd (n' := s.next + 1) hr (Nat.le_succ _) (Nat.lt_succ_self _) (HSt.new _) (fun i hi => ?_) fun o' ho' => ?_
  ·rcases hu with rfl | ⟨rfl, _⟩
   ·rw [List.singleton_append, q12, if_neg fun e => hi e.symm]
   ·rfl
  ·obtain rfl := Option.some.inj ho'
   refine ⟨?_, hko⟩
   rcases hu with rfl | ⟨rfl, hu⟩
   ·rw [List.singleton_append, q12, if_pos rfl]; exact hb rfl
   ·exact hu _
 ·intro p hp
  rcases hu with rfl | ⟨rfl, _⟩
  ·obtain rfl := List.mem_singleton.1 hp; simp
  ·simp at hp
 ·simp only [qaq]
  rw [q1j, if_neg fun e => hid (by simp [e])]
theorem Did.upd {s : S2} {id : Nat} {o o' : O} {b : Option Ob} {x : TV} {v : V} {ids l : List Nat} (hr : HR s.next h1 s.heap) (ho : fO s.heap id = some o) (hs : OSt o o') (hb : obR ((id, some o') :: s.heap) o' b) (hko : okO s.next ((id, some o') :: s.heap) o')
  (hx : tvR ((id, some o') :: s.heap) v x) (hk : okV s.next ((id, some o') :: s.heap) v) (hl : ∀ i ∈ ids, i ∈ l) : Did s (q4j s id (some o')) h1 x [(id, b)] ids s.next v l := by
 refine ⟨hx, hk, ?_, HSt.upd ho hs, rfl, rfl, Nat.le_refl _, Nat.le_refl _, hl, fun i _ h => (by rw [show (q4j s id (some o')).heap = (id, some o') :: s.heap from rfl, q1j, if_neg (fun e => by rw [e, h] at ho; cases ho)]; exact h), [id], rfl, fun p hp => ?_, fun i hi => ?_⟩
 ·refine HR.upd hr (Nat.le_refl _) (hr.ob id o ho).1 (HSt.upd ho hs) (fun i hi => ?_) fun o2 ho2 => ?_
  ·rw [List.singleton_append, q12, if_neg fun e => hi e.symm]
  ·obtain rfl := Option.some.inj ho2
   rw [List.singleton_append, q12, if_pos rfl]
   exact ⟨hb, hko⟩
 ·obtain rfl := List.mem_singleton.1 hp; simp
 ·simp only [q4j]
  rw [q1j, if_neg fun e => hi (by simp [e])]
def qc2 (h : H2) (id : Nat) : Prop := ∃ t v, fO h id = some (.ar t .nil v) ∨ fO h id = some (.im t .nil v)
theorem qia {id ver : Nat} {t : Ty} {l : List (El t)} (ho : fO h id = some (.ar t (.mk l) ver) ∨ fO h id = some (.im t (.mk l) ver)) : ¬ qc2 h id := by
 rintro ⟨u, v', e⟩
 rcases ho with ho | ho <;> rcases e with e | e <;> rw [ho] at e <;> simp at e
 all_goals
  obtain ⟨rfl, e, _⟩ := e
  cases eq_of_heq e
theorem qad (k : Nat) (x : D) : q1d h1 k (.d x) = some (x, []) := by cases k <;> rfl
theorem qgs : ∀ (ds : List D), q10 h1 (ds.map .d) = some (ds, []) := by
 intro ds
 induction ds with
 | nil => rfl
 | cons d ds ih => simp [q10, qad, ih]
theorem q8d {a b : List C} {x y : List D} {i j : List Nat} (ha : q10 h1 a = some (x, i)) (hb : q10 h1 b = some (y, j)) : q10 h1 (a ++ b) = some (x ++ y, i ++ j) := by
 induction a generalizing x i with
 | nil => obtain ⟨rfl, rfl⟩ : [] = x ∧ [] = i := by simpa [q10] using ha
          simpa using hb
 | cons c a ih =>
  simp only [q10] at ha
  split at ha
  ·rename_i p q r s hp hq
   obtain ⟨rfl, rfl⟩ := Prod.mk.inj (Option.some.inj ha)
   simp only [List.cons_append, q10, hp, ih hq, List.append_assoc]
  ·simp at ha
theorem qnl {id sz lo len : Nat} {rows : List (List D)} (k : Nat) (ho : q02 h1 id = some (.arr sz rows) ∨ q02 h1 id = some (.imm sz rows)) (hl : lo + len ≤ rows.length) (szo : Nat) :
  q1d h1 k (.osl szo id lo len) = some (.sl szo ((rows.drop lo).take len), [id]) := by
 rcases ho with ho | ho <;> (cases k <;> simp only [q1d, ho, if_pos hl])
theorem qz7 {id ver : Nat} {t : Ty} {s : Sl (El t)} (k : Nat) (hr : HR n h1 h) (ho : fO h id = some (.ar t s ver) ∨ fO h id = some (.im t s ver)) :
  ∃ ids, q1d h1 k (slC (szT t) (q06 t) id s) = some (slD (szT t) (q06 t) s, ids) ∧ (∀ i ∈ ids, i = id ∧ ¬ qc2 h i) ∧ (id ∈ ids ∨ qc2 h id) := by
 cases s with
 | nil => exact ⟨[], qad k _, fun i hi => by simp at hi, .inr ⟨t, ver, ho⟩⟩
 | mk l =>
  have hb : q02 h1 id = some (.arr (szT t) (l.map (q06 t))) ∨ q02 h1 id = some (.imm (szT t) (l.map (q06 t))) := by
   rcases ho with ho | ho
   ·exact .inl ((hr.ob id _ ho).2.1.2.2 l rfl)
   ·exact .inr ((hr.ob id _ ho).2.1.2.2 l rfl)
  refine ⟨[id], ?_, fun i hi => by obtain rfl := List.mem_singleton.1 hi; exact ⟨rfl, qia ho⟩, .inl (by simp)⟩
  have := qnl (lo := 0) (len := (l.map (q06 t)).length) k hb (by omega) (szT t)
  rw [qbz] at this
  exact this
theorem qzx {id ver lo : Nat} {t : Ty} {r : Sl (El t)} (k : Nat) (hr : HR n h1 h) (hk : okV n h (.sb id ver lo t r)) (ha : qve h id ver = true) :
  ∃ ids, q1d h1 k (sbC id lo t r) = some (slD (szT t) (q06 t) r, ids) ∧ (∀ i ∈ ids, i = id ∧ ¬ qc2 h i) ∧ (id ∈ ids ∨ qc2 h id) := by
 obtain ⟨u, s, ho⟩ := q58 ha
 obtain ⟨_, hc⟩ := hk.2 u s ver ho
 obtain ⟨hz, hc⟩ := hc rfl
 cases r with
 | nil =>
  cases s with
  | nil => exact ⟨[], qad k _, fun i hi => by simp at hi, .inr ⟨u, ver, ho⟩⟩
  | mk l => exact hc.elim
 | mk m =>
  cases s with
  | nil => exact hc.elim
  | mk l =>
   obtain ⟨hl, he⟩ := hc
   have hb : q02 h1 id = some (.arr (szT u) (l.map (q06 u))) ∨ q02 h1 id = some (.imm (szT u) (l.map (q06 u))) := by
    rcases ho with ho | ho
    ·exact .inl ((hr.ob id _ ho).2.1.2.2 l rfl)
    ·exact .inr ((hr.ob id _ ho).2.1.2.2 l rfl)
   refine ⟨[id], ?_, fun i hi => by obtain rfl := List.mem_singleton.1 hi; exact ⟨rfl, qia ho⟩, .inl (by simp)⟩
   have := qnl (lo := lo) (len := (m.map (q06 t)).length) k hb (by simpa using hl) (szT t)
   rw [show (m.map (q06 t)).length = m.length by simp, he] at this
   simpa [sbC, slD] using this
theorem qb1 (hr : HR n h1 h) : ∀ (v w : V) (l : List Nat) (cs : List C), q78 h v = some (w, l) → q31 h v cs → okV n h v → alv h v = true →
  ∃ ds ids, q10 h1 cs = some (ds, ids) ∧ q31 h w (ds.map .d) ∧ (∀ i ∈ ids, i ∈ l ∧ ¬ qc2 h i) ∧ (∀ i ∈ l, i ∈ ids ∨ qc2 h i) ∧ (∀ i ∈ l, i < n ∧ ∃ t s v, fO h i = some (.ar t s v) ∨ fO h i = some (.im t s v)) := by
 have done : ∀ (v : V) (ds : List D), q31 h v (ds.map .d) → ∃ ds' ids, q10 h1 (ds.map .d) = some (ds', ids) ∧ q31 h v (ds'.map .d) ∧ (∀ i ∈ ids, i ∈ ([] : List Nat) ∧ ¬ qc2 h i) ∧ (∀ i ∈ ([] : List Nat), i ∈ ids ∨ qc2 h i) ∧ (∀ i ∈ ([] : List Nat), i < n ∧ ∃ t s v, fO h i = some (.ar t s v) ∨ fO h i = some (.im t s v)) := fun v ds hv =>
  ⟨ds, [], qgs ds, hv, fun i hi => by simp at hi, fun i hi => by simp at hi, fun i hi => by simp at hi⟩
 intro v
 induction v with
 | so id =>
  intro w l cs hf hv hk ha
  simp only [q78] at hf
  split at hf
  ·rename_i t s l' hs
   obtain ⟨rfl, rfl⟩ := Prod.mk.inj (Option.some.inj hf)
   obtain ⟨ver, ho, e⟩ := qej hs
   have e : l' = [id] := e
   subst e
   obtain ⟨c, rfl, hc, _⟩ := hv
   rw [hc _ (q6q ho)]
   obtain ⟨ids, q1, q2, q3⟩ := qz7 300 hr ho
   have hd : dat t = true := by rcases ho with ho | ho <;> exact (hr.ob id _ ho).2.1.1
   refine ⟨[slD (szT t) (q06 t) s], ids, by simp [q10, q1], ⟨hd, rfl⟩, fun i hi => ⟨by simpa using (q2 i hi).1, (q2 i hi).1 ▸ (q2 i hi).2⟩, fun i hi => ?_, fun i hi => ?_⟩
   ·obtain rfl := List.mem_singleton.1 hi; exact q3
   ·obtain rfl := List.mem_singleton.1 hi
    exact ⟨hk, t, s, ver, ho⟩
  ·simp at hf
 | sb id ver lo t r =>
  intro w l cs hf hv hk ha
  simp only [q78, slV] at hf
  obtain ⟨rfl, rfl⟩ := Prod.mk.inj (Option.some.inj hf)
  obtain ⟨hd, ha⟩ := Bool.and_eq_true_iff.1 ha
  have ha : qve h id ver = true := ha
  obtain ⟨c, rfl, hc, _⟩ := hv
  rw [hc ha]
  obtain ⟨ids, q1, q2, q3⟩ := qzx 300 hr hk ha
  obtain ⟨u, s, ho⟩ := q58 ha
  refine ⟨[slD (szT t) (q06 t) r], ids, by simp [q10, q1], ⟨?_, rfl⟩, fun i hi => ⟨by simpa using (q2 i hi).1, (q2 i hi).1 ▸ (q2 i hi).2⟩, fun i hi => ?_, fun i hi => ?_⟩
  ·exact hd
  ·obtain rfl := List.mem_singleton.1 hi; exact q3
  ·obtain rfl := List.mem_singleton.1 hi
   exact ⟨hk.1, u, s, ver, ho⟩
 | rc r ih =>
  intro w l cs hf hv hk ha
  simp only [q78] at hf
  split at hf
  ·rename_i w' l' hw
   obtain ⟨rfl, rfl⟩ := Prod.mk.inj (Option.some.inj hf)
   exact ih w' l' cs hw hv hk ha
  ·simp at hf
 | co a r iha ihr =>
  intro w l cs hf hv hk ha
  simp only [q78] at hf
  split at hf
  ·rename_i x l1 y l2 hx hy
   obtain ⟨rfl, rfl⟩ := Prod.mk.inj (Option.some.inj hf)
   obtain ⟨ca, cr, rfl, h2, h3⟩ := hv
   simp only [alv, Bool.and_eq_true] at ha
   obtain ⟨ds, ids, a1, a2, a3, a4, a5⟩ := iha x l1 ca hx h2 hk.1 ha.1
   obtain ⟨es, jds, b1, b2, b3, b4, b5⟩ := ihr y l2 cr hy h3 hk.2 ha.2
   refine ⟨ds ++ es, ids ++ jds, q8d a1 b1, ⟨_, _, by simp, a2, b2⟩, fun i hi => ?_, fun i hi => ?_, fun i hi => ?_⟩
   ·rcases List.mem_append.1 hi with hi | hi
    ·exact ⟨List.mem_append_left _ (a3 i hi).1, (a3 i hi).2⟩
    ·exact ⟨List.mem_append_right _ (b3 i hi).1, (b3 i hi).2⟩
   ·rcases List.mem_append.1 hi with hi | hi
    ·exact (a4 i hi).imp (List.mem_append_left _) id
    ·exact (b4 i hi).imp (List.mem_append_right _) id
   ·rcases List.mem_append.1 hi with hi | hi
    ·exact a5 i hi
    ·exact b5 i hi
  ·simp at hf
 | x t v =>
  intro w l cs hf hv hk ha
  obtain ⟨rfl, rfl⟩ := Prod.mk.inj (Option.some.inj hf)
  obtain ⟨hd, rfl⟩ := hv
  exact done _ _ ⟨hd, rfl⟩
 | kb c =>
  intro w l cs hf hv hk ha
  obtain ⟨rfl, rfl⟩ := Prod.mk.inj (Option.some.inj hf)
  obtain rfl := hv
  exact done (.kb c) [_] rfl
 | nl k =>
  intro w l cs hf hv hk ha
  obtain ⟨rfl, rfl⟩ := Prod.mk.inj (Option.some.inj hf)
  obtain rfl := hv
  exact done (.nl k) [_] rfl
 | fl q =>
  intro w l cs hf hv hk ha
  obtain ⟨rfl, rfl⟩ := Prod.mk.inj (Option.some.inj hf)
  obtain ⟨hp, rfl⟩ := hv
  have e : lits q = (q.map D.lit).map C.d := by simp [lits]
  rw [e]
  exact done (.fl q) (q.map D.lit) ⟨hp, e.symm⟩
 | ni =>
  intro w l cs hf hv hk ha
  obtain ⟨rfl, rfl⟩ := Prod.mk.inj (Option.some.inj hf)
  obtain rfl := hv
  exact done .ni [] rfl
 | pt t v =>
  intro w l cs hf hv hk ha
  obtain ⟨rfl, rfl⟩ := Prod.mk.inj (Option.some.inj hf)
  obtain ⟨hd, rfl⟩ := hv
  exact done (.pt t v) [_] ⟨hd, rfl⟩
 | fn z f q ih =>
  intro w l cs hf hv hk ha
  cases z with
  | true =>
   obtain ⟨rfl, rfl⟩ := Prod.mk.inj (Option.some.inj hf)
   obtain ⟨ds, hd, rfl⟩ := hv
   exact done (.fn true f q) [_] ⟨ds, hd, rfl⟩
  | false => simp [q78] at hf
 | _ => intro w l cs hf hv hk ha; simp [q78] at hf
theorem qgm : ∀ (ds : List D) (k : Nat), ds.length < k → q28 h1 k (ds.map .d) = some (ds, []) := by
 intro ds
 induction ds with
 | nil => intro k hk; cases k <;> rfl
 | cons d ds ih =>
  intro k hk
  cases k with
  | zero => simp at hk
  | succ k =>
   simp only [List.map_cons, q28, qad]
   rw [ih k (by simpa using hk)]; rfl
theorem qds {H : q0k} {h0 : H2} {k : Nat} (hr : HR k H h0) (all : List Nat) {id : Nat} {o' : O} (hf : frzO h0 id = some o') :
  ∃ o, fO h0 id = some o ∧ OSt o o' ∧ (∀ m g, okO m g o') ∧ ((qc2 h0 id ∧ ∀ g b, obR g o' b) ∨ (¬ qc2 h0 id ∧ ∃ b, q3q H all id = some b ∧ ∀ g, obR g o' (some b))) := by
 unfold frzO at hf
 split at hf
 ·rename_i t s v ho
  obtain rfl := Option.some.inj hf
  refine ⟨_, ho, ⟨Nat.le_refl _, rfl, rfl, rfl, fun _ => rfl⟩, fun _ _ => trivial, ?_⟩
  obtain ⟨h1, h2, h3⟩ := (hr.ob id _ ho).2.1
  cases s with
  | nil => exact .inl ⟨⟨t, v, .inl ho⟩, fun g b => ⟨h1, h2, fun l e => by cases e⟩⟩
  | mk l =>
   refine .inr ⟨qia (.inl ho), .imm (szT t) (l.map (q06 t)), ?_, fun g => ⟨h1, h2, fun l' e => by cases e; rfl⟩⟩
   simp only [q3q, h3 l rfl]
 ·rename_i t s v ho
  obtain rfl := Option.some.inj hf
  refine ⟨_, ho, ⟨rfl, rfl⟩, fun _ _ => trivial, ?_⟩
  obtain ⟨h1, h2, h3⟩ := (hr.ob id _ ho).2.1
  cases s with
  | nil => exact .inl ⟨⟨t, v, .inr ho⟩, fun g b => ⟨h1, h2, fun l e => by cases e⟩⟩
  | mk l =>
   refine .inr ⟨qia (.inr ho), .imm (szT t) (l.map (q06 t)), ?_, fun g => ⟨h1, h2, fun l' e => by cases e; rfl⟩⟩
   simp only [q3q, h3 l rfl]
 ·rename_i t v ho
  obtain rfl := Option.some.inj hf
  obtain ⟨h1, h2⟩ := (hr.ob id _ ho).2.1
  refine ⟨_, ho, rfl, fun _ _ => trivial, .inr ⟨fun ⟨u, v', e⟩ => ?_, .ibox (q06 t v), ?_, fun g => ⟨h1, rfl⟩⟩⟩
  ·rcases e with e | e <;> rw [ho] at e <;> simp at e
  ·simp only [q3q, h2]
 ·rename_i t c ho
  cases hd : (dat t && Nat.blt (szT t) 300) with
  | false => rw [hd] at hf; simp at hf
  | true =>
   rw [hd, cond_true] at hf
   simp only [Bool.and_eq_true] at hd
   split at hf
   ·rename_i w hw
    split at hf
    ·rename_i y hy
     obtain rfl := Option.some.inj hf
     obtain ⟨cs, h1, h2, h3⟩ := (hr.ob id _ ho).2.1
     have e := q2b c false t y cs hy h2
     subst e
     refine ⟨_, ho, trivial, fun _ _ => trivial, .inr ⟨fun ⟨u, v', e⟩ => ?_, .ibox (q06 t y), ?_, fun g => ⟨hd.1, rfl⟩⟩⟩
     ·rcases e with e | e <;> rw [ho] at e <;> simp at e
     ·have hl : (q06 t y).length < 300 := by rw [q09]; simpa using hd.2
      simp only [q3q, h1, qgm _ _ hl]
      rfl
    ·simp at hf
   ·simp at hf
 ·simp at hf
theorem qer {h0 : H2} {s0 : S2} (hs0 : s0.heap = h0) : ∀ (ids : List Nat) (s' : S2), qba h0 ids s0 = some s' →
  s'.env = s0.env ∧ s'.gh = s0.gh ∧ s'.next = s0.next ∧ s'.wo = ids ++ s0.wo ∧ (∀ i ∈ ids, ∃ o, frzO h0 i = some o) ∧ ∀ i, fO s'.heap i = if i ∈ ids then frzO h0 i else fO h0 i := by
 intro ids
 induction ids with
 | nil =>
  intro s' hf
  obtain rfl := Option.some.inj hf
  exact ⟨rfl, rfl, rfl, rfl, fun i hi => by simp at hi, fun i => by simp [hs0]⟩
 | cons id r ih =>
  intro s' hf
  simp only [qba] at hf
  split at hf
  ·rename_i o s1 ho h1
   obtain rfl := Option.some.inj hf
   obtain ⟨a1, a2, a3, a4, a5, a6⟩ := ih s1 h1
   refine ⟨a1, a2, a3, by simp [q4j, a4], fun i hi => ?_, fun i => ?_⟩
   ·rcases List.mem_cons.1 hi with rfl | hi
    ·exact ⟨o, ho⟩
    ·exact a5 i hi
   ·simp only [q4j, q1j, a6]
    by_cases e : id = i
    ·subst e; simp [ho]
    ·simp [e, Ne.symm e]
  ·simp at hf
theorem qs0 {H : q0k} {all : List Nat} : ∀ (l : List Nat), (∀ i ∈ l, ∃ b, q3q H all i = some b) → ∃ u, q0q H all l = some u ∧ ∀ p ∈ u, p.1 ∈ l := by
 intro l
 induction l with
 | nil => intro _; exact ⟨[], rfl, fun p hp => by simp at hp⟩
 | cons a l ih =>
  intro h
  obtain ⟨b, hb⟩ := h a (by simp)
  obtain ⟨u, hu, hp⟩ := ih fun i hi => h i (by simp [hi])
  refine ⟨(a, some b) :: u, by simp only [q0q, hb, hu], fun p hp' => ?_⟩
  rcases List.mem_cons.1 hp' with rfl | hp'
  ·simp
  ·exact List.mem_cons_of_mem _ (hp p hp')
theorem qlj {h0 : H2} {s0 : S2} (hs0 : s0.heap = h0) {H : q0k} (hr : HR s0.next H h0) (ids : List Nat) (s' : S2) (ids1 all : List Nat) (hf : qba h0 ids s0 = some s') (hi1 : ∀ i ∈ ids1, i ∈ ids ∧ ¬ qc2 h0 i) (hi2 : ∀ i ∈ ids, i ∈ ids1 ∨ qc2 h0 i) :
  ∃ fu, q0q H all ids1 = some fu ∧ HR s0.next (fu ++ H) s'.heap ∧ HSt s0.next h0 s'.heap ∧ s'.env = s0.env ∧ s'.gh = s0.gh ∧ s'.next = s0.next ∧
   s'.wo = ids ++ s0.wo ∧ (∀ p ∈ fu, p.1 ∈ ids) ∧ ∀ id, id ∉ ids → fO s'.heap id = fO s0.heap id := by
 obtain ⟨a1, a2, a3, a4, a5, a6⟩ := qer hs0 ids s' hf
 obtain ⟨fu, hfu, hp⟩ := qs0 (H := H) (all := all) ids1 fun i hi => by
  obtain ⟨o, ho⟩ := a5 i (hi1 i hi).1
  obtain ⟨_, _, _, _, h⟩ := qds hr all ho
  rcases h with h | ⟨_, b, hb, _⟩
  ·exact absurd h.1 (hi1 i hi).2
  ·exact ⟨b, hb⟩
 have hst : HSt s0.next h0 s'.heap := ⟨fun i o' hi ho => by
  rw [a6] at ho
  split at ho
  ·obtain ⟨o, h1, h2, _⟩ := qds hr all ho
   exact .inl ⟨o, h1, h2⟩
  ·exact .inl ⟨o', ho, OSt.refl _⟩⟩
 refine ⟨fu, hfu, ⟨fun i o' ho => ?_⟩, hst, a1, a2, a3, a4, fun p hp' => (hi1 _ (hp p hp')).1, fun i hi => by rw [a6, if_neg hi, hs0]⟩
 rw [a6] at ho
 split at ho
 ·rename_i hi
  obtain ⟨o, h1, _, h3, h4⟩ := qds hr all ho
  refine ⟨(hr.ob i o h1).1, ?_, h3 _ _⟩
  rcases h4 with h4 | ⟨h5, b, hb, hR⟩
  ·exact h4.2 _ _
  ·have hm : i ∈ ids1 := (hi2 i hi).resolve_right h5
   obtain ⟨b', hb', hl⟩ := (q3y ids1 fu hfu i).1 hm
   rw [hb] at hb'
   obtain rfl := Option.some.inj hb'
   rw [show q02 (fu ++ H) i = some b by simp only [q02, q1w, hl]; rfl]
   exact hR _
 ·rename_i hi
  obtain ⟨h1, h2, h3⟩ := hr.ob i o' ho
  have hn : i ∉ ids1 := fun hm => hi (hi1 i hm).1
  refine ⟨h1, ?_, q6t (Nat.le_refl _) hst h3⟩
  rw [show q02 (fu ++ H) i = q02 H i by simp only [q02, q1w, (q3y ids1 fu hfu i).2 hn]]
  exact q80 hst h3 h2
theorem qr3 {h0 : H2} {s0 : S2} {ids : List Nat} {s' : S2} (hs0 : s0.heap = h0) (hf : qba h0 ids s0 = some s') : ∀ i ∈ ids, fO h0 i ≠ none := by
 intro i hi e
 obtain ⟨_, _, _, _, a5, _⟩ := qer hs0 ids s' hf
 obtain ⟨o, ho⟩ := a5 i hi
 simp [frzO, e] at ho
end
end Go.Ev

/- Operations that may fail, or that make something, against the abstract machine's. Conditions: as stated. -/
namespace Go.Ev
section
variable {h : H2} {n : Nat} {h1 : q0k} {β : Type}
theorem q01 {α : Type} {c : Bool} {a : Option α} {r : α} (h : (bif c then a else none) = some r) : c = true ∧ a = some r := by
 cases c with
 | true => exact ⟨rfl, h⟩
 | false => simp at h
theorem qeb {u : Upd} {i : Nat} (hu : ∀ p ∈ u, p.1 ≠ i) : q02 (u ++ h1) i = q02 h1 i := by
 induction u with
 | nil => rfl
 | cons p u ih =>
  obtain ⟨a, b⟩ := p
  rw [List.cons_append, q12, if_neg (hu _ (List.mem_cons_self ..)), ih fun p hp => hu p (List.mem_cons_of_mem _ hp)]
theorem Did.gen {s s' : S2} {x : TV} {u : Upd} {ids l : List Nat} {m : Nat} {v : V} (W : List Nat) (hr : HR s.next h1 s.heap) (hst : HSt s.next s.heap s'.heap) (he : s'.env = s.env) (hg : s'.gh = s.gh) (hm : m ≤ s'.next) (hle : s.next ≤ s'.next) (hl : ∀ i ∈ ids, i ∈ l)
  (hwo : s'.wo = W ++ s.wo) (hu : ∀ p ∈ u, p.1 ∈ W) (hW : ∀ id, id ∉ W → fO s'.heap id = fO s.heap id) (hob : ∀ i ∈ W, ∀ o, fO s'.heap i = some o → i < s'.next ∧ obR s'.heap o (q02 (u ++ h1) i) ∧ okO s'.next s'.heap o)
  (hx : tvR s'.heap v x) (hk : okV s'.next s'.heap v) (hnb : ∀ i, i < s.next → fO s.heap i = none → fO s'.heap i = none) : Did s s' h1 x u ids m v l := by
 refine ⟨hx, hk, ⟨fun i o ho => ?_⟩, hst, he, hg, hm, hle, hl, hnb, W, hwo, hu, hW⟩
 by_cases hi : i ∈ W
 ·exact hob i hi o ho
 ·rw [hW i hi] at ho
  obtain ⟨a, b, c⟩ := hr.ob i o ho
  refine ⟨by omega, ?_, q6t hle hst c⟩
  rw [qeb (u := u) (i := i) fun p hp e => hi (e ▸ hu p hp)]
  exact q80 hst c b
def Prt (h1 : q0k) (kk : K) (xs : List TV) (s : S2) (k : V → S2 → List Nat → Option β) (z : β) : Prop :=
 ∃ v s' l, k v s' l = some z ∧ ∀ c : Call, ∃ x u ids m, ev1 c kk (xs.map some) h1 s.next = some (x, u, ids, m) ∧ Did s s' h1 x u ids m v l
variable {s : S2} {k : V → S2 → List Nat → Option β} {z : β}
theorem Prt.pure {kk : K} {xs : List TV} {v : V} {x : TV} (hr : HR s.next h1 s.heap) (hz : k v s [] = some z) (he : ∀ c : Call, ev1 c kk (xs.map some) h1 s.next = some (x, [], [], s.next)) (hx : tvR s.heap v x) (hk : okV s.next s.heap v) : Prt h1 kk xs s k z :=
 ⟨v, s, [], hz, fun c => ⟨x, [], [], s.next, he c, Did.pure hr hx hk fun i hi => by simp at hi⟩⟩
theorem qbk {t : Ty} (h : okT t = true) : dat t = true ∧ 0 < szT t := by
 simpa [okT] using h
theorem Prt.new {kk : K} {xs : List TV} {v : V} {x : TV} {o : O} {b : Option Ob} {l ids : List Nat} (hr : HR s.next h1 s.heap) (hz : k v (qaq s o) l = some z) (he : ∀ c : Call, ev1 c kk (xs.map some) h1 s.next = some (x, [(s.next, b)], ids, s.next + 1))
  (hb : obR ((s.next, some o) :: s.heap) o b) (hko : okO (s.next + 1) ((s.next, some o) :: s.heap) o) (hx : tvR ((s.next, some o) :: s.heap) v x) (hk : okV (s.next + 1) ((s.next, some o) :: s.heap) v) (hl : ∀ i ∈ ids, i ∈ l) : Prt h1 kk xs s k z :=
 ⟨v, _, l, hz, fun c => ⟨x, _, ids, _, he c, Did.new hr (.inl rfl) (fun _ => hb) hko hx hk hl (Nat.le_refl _)⟩⟩
theorem Prt.upd {kk : K} {xs : List TV} {v : V} {x : TV} {id : Nat} {o o' : O} {b : Option Ob} {l ids : List Nat} (hr : HR s.next h1 s.heap) (ho : fO s.heap id = some o) (hs : OSt o o') (hz : k v (q4j s id (some o')) l = some z) (he : ∀ c : Call, ev1 c kk (xs.map some) h1 s.next = some (x, [(id, b)], ids, s.next))
  (hb : obR ((id, some o') :: s.heap) o' b) (hko : okO s.next ((id, some o') :: s.heap) o') (hx : tvR ((id, some o') :: s.heap) v x) (hk : okV s.next ((id, some o') :: s.heap) v) (hl : ∀ i ∈ ids, i ∈ l) : Prt h1 kk xs s k z :=
 ⟨v, _, l, hz, fun c => ⟨x, _, ids, _, he c, Did.upd hr ho hs hb hko hx hk hl⟩⟩
theorem qkn (id : Nat) (o : Option O) (h : H2) : fO ((id, o) :: h) id = o := by rw [q1j, if_pos rfl]
theorem qmu {t : Ty} {s : Sl (El t)} {v nx : Nat} : tvR ((nx, some (.ar t s v)) :: h) (.so nx) (.c (slC (szT t) (q06 t) nx s)) :=
 q0h (q16 rfl ⟨_, rfl, fun c' hc' => by rw [qkn] at hc'; exact Option.some.inj hc', qxj⟩)
theorem qmi {x : V} {y : TV} {sz : Nat} {lo hi : Option Int} {m : Int} {q : V → Option β} (hr : HR n h1 h) (hx : tvR h x y) (hk : okV n h x) (ha : alv h x = true) (hm : qz9 h x = some m) (hz : qk3 sz h x (lo.getD 0) (hi.getD m) q = some z) :
  ∃ v c c', y = .c c ∧ q v = some z ∧ q1b false sz c lo hi = some c' ∧ tvR h v (.c c') ∧ okV n h v := by
 have obj : ∀ (id : Nat) (t : Ty) (w : Sl (El t)) (ver : Nat), x = .so id → (fO h id = some (.ar t w ver) ∨ fO h id = some (.im t w ver)) → (bif szT t == sz then (qk2 w.l (lo.getD 0) (hi.getD m)).bind fun y => q (.sb id ver (lo.getD 0).toNat t (w.to y)) else none) = some z →
   ∃ v c c', y = .c c ∧ q v = some z ∧ q1b false sz c lo hi = some c' ∧ tvR h v (.c c') ∧ okV n h v := by
  rintro id t w ver rfl ho hz
  obtain ⟨h2, hz2⟩ := q01 hz
  obtain rfl : szT t = sz := by simpa using h2
  obtain ⟨r, hr', hz3⟩ := bnd hz2
  have e := qdv hx (q6q ho)
  have hm' : m = w.l.length := by
   simp only [qz9, slV] at hm
   rcases ho with ho | ho <;> (rw [ho] at hm; exact (Option.some.inj hm).symm)
  subst hm'
  refine ⟨_, _, sbC id (lo.getD 0).toNat t (w.to r), e, hz3, ?_, ?_, hk, ?_⟩
  ·cases w with
   | nil => exact qym hr'
   | mk l => exact q14d (enc := q06 t) hr'
  ·exact q0h (q16 rfl ⟨_, rfl, fun _ => rfl, qwy⟩)
  ·intro u s' v' ho'
   have e2 : SgS u s' = SgS t w ∧ v' = ver := by
    rcases ho with ho | ho <;> rcases ho' with ho' | ho' <;> (rw [ho] at ho'; simp at ho')
    all_goals
     obtain ⟨rfl, e, rfl⟩ := ho'
     cases eq_of_heq e
     exact ⟨rfl, rfl⟩
   obtain ⟨e2, rfl⟩ := e2
   obtain ⟨rfl, e2⟩ := Sigma.mk.inj e2
   cases e2
   refine ⟨Nat.le_refl _, fun _ => ⟨rfl, ?_⟩⟩
   cases s' with
   | nil => trivial
   | mk l =>
    obtain ⟨h3, h4⟩ := q12f (enc := q06 u) hr'
    simp only [List.length_map] at h3
    refine ⟨h3, ?_⟩
    simpa using h4
 cases x with
 | x t v =>
  cases t with
  | sl t =>
   simp only [qk3] at hz
   obtain ⟨h2, hz2⟩ := q01 hz
   obtain rfl : szT t = sz := by simpa using h2
   obtain ⟨r, hr', hz3⟩ := bnd hz2
   have hm' : m = v.l.length := by simpa [qz9, slV] using hm.symm
   subst hm'
   refine ⟨_, _, _, qi0 hx, hz3, q11g hr', q0h (q16 rfl ⟨?_, rfl⟩), trivial⟩
   obtain ⟨_, ⟨hd, _⟩, _⟩ := qa1 (v := .x (.sl t) v) trivial hx
   exact hd
  | _ => simp [qk3] at hz
 | so id =>
  simp only [qk3] at hz
  split at hz
  ·rename_i ho; exact obj id _ _ _ rfl (.inl ho) hz
  ·rename_i ho; exact obj id _ _ _ rfl (.inr ho) hz
  ·simp at hz
 | sb id ver off t v =>
  simp only [qk3] at hz
  obtain ⟨h2, hz2⟩ := q01 hz
  obtain rfl : szT t = sz := by simpa using h2
  obtain ⟨r, hr', hz3⟩ := bnd hz2
  have hm' : m = v.l.length := by simpa [qz9, slV] using hm.symm
  subst hm'
  refine ⟨_, _, sbC id (off + (lo.getD 0).toNat) t (v.to r), qa2 hx ha, hz3, ?_, q0h (q16 rfl ⟨_, rfl, fun _ => rfl, qwy⟩), hk.1, ?_⟩
  ·cases v with
   | nil => exact qym hr'
   | mk l =>
    obtain ⟨h3, rfl⟩ := q7l.1 hr'
    simp only [Sl.l] at h3
    simp only [sbC, q1b, Bool.false_eq_true, if_false, Sl.to, Sl.l, List.length_map]
    rw [if_pos ⟨trivial, h3⟩]
    simp; omega
  ·intro u s' v' ho
   obtain ⟨h3, h4⟩ := hk.2 u s' v' ho
   refine ⟨h3, fun e => ?_⟩
   obtain ⟨h5, h6⟩ := h4 e
   refine ⟨h5, ?_⟩
   cases s' with
   | nil => cases v <;> first | trivial | exact h6.elim
   | mk l =>
    cases v with
    | nil => exact h6.elim
    | mk w =>
     obtain ⟨h7, h8⟩ := h6
     obtain ⟨h9, rfl⟩ := q7l.1 hr'
     simp only [Sl.l] at h9
     show off + (lo.getD 0).toNat + ((w.drop (lo.getD 0).toNat).take _).length ≤ l.length ∧ ((l.map (q06 u)).drop (off + (lo.getD 0).toNat)).take ((w.drop (lo.getD 0).toNat).take _).length = ((w.drop (lo.getD 0).toNat).take _).map (q06 t)
     generalize hA : (lo.getD 0).toNat = A
     generalize hB : ((hi.getD (Sl.l (Sl.mk w)).length).toNat - A) = B
     have hle : A + B ≤ w.length := by subst hA hB; simp only [Sl.l]; omega
     have hlen : ((w.drop A).take B).length = B := by simp; omega
     refine ⟨by omega, ?_⟩
     rw [hlen, List.map_take, List.map_drop, ← h8, List.drop_take, List.drop_drop, List.take_take]
     congr 1; omega
 | nl k =>
  cases k with
  | zero =>
   simp only [qk3] at hz
   obtain ⟨r, hr', hz3⟩ := bnd hz
   have hm' : m = 0 := by simpa [qz9] using hm.symm
   subst hm'
   exact ⟨_, _, _, qfn hx, hz3, qym (α := Unit) (by simpa [Sl.l] using hr'), q0h (q16 rfl rfl), trivial⟩
  | succ k => simp [qk3] at hz
 | _ => simp [qk3] at hz
theorem qsh : ∀ (p : qey) (t a : Ty) (l m : Nat), tyP t p = some (.ar l a) → m < l → okP t p → okP t (p ++ [.ix m]) ∧ ofP t (p ++ [.ix m]) = ofP t p + m * szT a := by
 intro p
 induction p with
 | nil =>
  intro t a l m h1 hm _
  have e : tyP t [] = some t := by cases t <;> rfl
  obtain rfl : t = .ar l a := by rw [e] at h1; exact Option.some.inj h1
  refine ⟨⟨hm, by cases a <;> trivial⟩, ?_⟩
  simp only [List.nil_append, ofP]
  cases a <;> simp [ofP]
 | cons q p ih =>
  intro t a l m h1 hm h3
  cases q with
  | fd j =>
   cases t with
   | st t =>
    obtain ⟨b2, hb, h3⟩ := h3
    simp only [tyP, hb] at h1
    obtain ⟨q1, q2⟩ := ih b2 a l m h1 hm h3
    refine ⟨⟨b2, hb, q1⟩, ?_⟩
    simp only [List.cons_append, ofP, hb, q2]; exact (Nat.add_assoc _ _ _).symm
   | _ => exact h3.elim
  | ix k =>
   cases t with
   | ar l' t =>
    obtain ⟨hk, h3⟩ := h3
    obtain ⟨q1, q2⟩ := ih t a l m h1 hm h3
    refine ⟨⟨hk, q1⟩, ?_⟩
    simp only [List.cons_append, ofP, q2]; exact (Nat.add_assoc _ _ _).symm
   | _ => exact h3.elim
theorem q11j {id : Nat} {t u : Ty} {w : Sl (El t)} {w' : Sl (El u)} {v v' : Nat} (ho : fO h id = some (.ar t w v) ∨ fO h id = some (.im t w v)) (ho' : fO h id = some (.ar u w' v') ∨ fO h id = some (.im u w' v')) : SgS u w' = SgS t w ∧ v' = v := by
 rcases ho with ho | ho <;> rcases ho' with ho' | ho' <;> (rw [ho] at ho'; simp at ho')
 all_goals
  obtain ⟨rfl, e, rfl⟩ := ho'
  cases eq_of_heq e
  exact ⟨rfl, rfl⟩
theorem qxm {id : Nat} {t u : Ty} {w : Sl (El t)} {w' : Sl (El u)} {v v' : Nat} (ho : fO h id = some (.ar t w v) ∨ fO h id = some (.im t w v)) (ho' : fO h id = some (.ar u w' v') ∨ fO h id = some (.im u w' v')) : w'.l.length = w.l.length := by
 obtain ⟨e, _⟩ := q11j ho ho'
 obtain ⟨rfl, e⟩ := Sigma.mk.inj e
 cases e; rfl
theorem q144 {c : C} {t : Ty} {id m sz : Nat} {w : Sl (El t)} {i : Int} {kd : IntKind} {cl : Call} {nx : Nat} (hc : c = slC (szT t) (q06 t) id w) (hsz : szT t = sz) (hi : ixI i w.l.length = some m) :
  ev1 cl (.indexAddr none sz) [some (.c c), some (tI kd i)] h1 nx = some (.c (.ep id m 0), [], [], nx) := by
 subst hc hsz
 cases w with
 | nil => exact qxh hi
 | mk l => exact ix_o hi
theorem q13r {t : Ty} {v : El t} {x : TV} (hx : tvR h (.x t v) x) : dat t = true := by
 obtain ⟨_, ⟨hd, _⟩, _⟩ := qa1 (v := .x t v) trivial hx
 exact hd
theorem ag_x {n' : Nat} {t : Ty} {v : El (.ar n' t)} {x : TV} (hx : tvR h (.x (.ar n' t) v) x) : x = .agg ((q06 (.ar n' t) v).map .d) := by
 obtain ⟨cs, ⟨_, rfl⟩, h2, _⟩ := qa1 (v := .x (.ar n' t) v) trivial hx
 exact h2 rfl
theorem qnp {n' m : Nat} {t : Ty} (v : El (.ar n' t)) (hm : m < n') : m * szT t + szT t ≤ (q06 (.ar n' t) v).length ∧ ((q06 (.ar n' t) v).drop (m * szT t)).take (szT t) = q06 t (gt v.1 m) := by
 have hl : v.1.length = n' := v.2
 refine ⟨?_, qgx (q09 t) v.1 m (by omega)⟩
 rw [q09]
 show _ ≤ n' * szT t
 have : (m + 1) * szT t ≤ n' * szT t := Nat.mul_le_mul_right _ hm
 rw [Nat.add_mul, Nat.one_mul] at this
 exact this
theorem qvu {x : V} {y : TV} {sz : Nat} {i : Int} {kd : IntKind} 
  (hz : (match x with
  | .x (.sl t) v => bif szT t == sz then (ixI i v.l.length).bind fun m => k (.pt t (gt v.l m)) s [] else none
  | .so id => (match slV s.heap (.so id) with | some ⟨t, v, _⟩ => bif szT t == sz then (ixI i v.l.length).bind fun m => k (.ep id m t []) s [] else none | none => none)
  | .sb id _ lo t v => bif szT t == sz then (ixI i v.l.length).bind fun m => k (.ep id (lo + m) t []) s [] else none
  | _ => none) = some z)
  (hr : HR s.next h1 s.heap) (hx : tvR s.heap x y) (hk : okV s.next s.heap x) (ha : alv s.heap x = true) : Prt h1 (.indexAddr none sz) [y, tI kd i] s k z := by
 cases x with
 | x t v =>
  cases t with
  | sl t =>
   simp only at hz
   obtain ⟨h2, hz2⟩ := q01 hz
   obtain ⟨m, hm, hz3⟩ := bnd hz2
   obtain rfl : szT t = sz := by simpa using h2
   rw [qi0 hx]
   exact .pure hr hz3 (x := .c (.d (.pt (q06 t (gt (Sl.l v) m))))) (fun _ => q141 hm) (q0h (q16 rfl ⟨q13r (t := .sl t) hx, rfl⟩)) trivial
  | _ => simp at hz
 | so id =>
  simp only at hz
  split at hz
  ·rename_i t v l hs
   obtain ⟨h2, hz2⟩ := q01 hz
   obtain ⟨m, hm, hz3⟩ := bnd hz2
   obtain ⟨ver, ho, _⟩ := qej hs
   simp only at ho
   rw [qdv hx (q6q ho)]
   refine .pure hr hz3 (x := .c (.ep id m 0)) (fun _ => q144 rfl (by simpa using h2) hm) (q0h (q16 rfl (by cases t <;> rfl))) ⟨hk, by cases t <;> trivial, fun u w' v' ho' => ?_⟩
   have := (q41.1 hm).2
   rw [qxm ho ho']; exact this
  ·simp at hz
 | sb id ver lo t v =>
  simp only at hz
  obtain ⟨h2, hz2⟩ := q01 hz
  obtain ⟨m, hm, hz3⟩ := bnd hz2
  obtain rfl : szT t = sz := by simpa using h2
  rw [qa2 hx ha]
  have hm2 := (q41.1 hm).2
  cases v with
  | nil => exact qxh hm
  | mk w =>
   refine .pure hr hz3 (x := .c (.ep id (lo + m) 0)) (fun _ => q13g (l := w) hm) (q0h (q16 rfl (by cases t <;> rfl))) ⟨hk.1, by cases t <;> trivial, fun u w' v' ho' => ?_⟩
   obtain ⟨u0, s0, ho⟩ := q58 (h := s.heap) (id := id) (ver := ver) (Bool.and_eq_true_iff.1 ha).2
   obtain ⟨_, h4⟩ := hk.2 u0 s0 ver ho
   obtain ⟨_, h6⟩ := h4 rfl
   rw [qxm ho ho']
   cases s0 with
   | nil => exact h6.elim
   | mk l => have := h6.1; simp only [Sl.l] at hm2 ⊢; omega
 | _ => simp at hz
theorem quv {x : V} {y : TV} {n0 sz : Nat} {i : Int} {kd : IntKind} 
  (hz : (match x with
  | .op id t p => (match tyP t p with | some (.ar n' u) => bif (n' == n0) && (szT u == sz) then (ixI i n0).bind fun m => k (.op id t (p ++ [.ix m])) s [] else none | _ => none)
  | .ep id q t p => (match tyP t p with | some (.ar n' u) => bif (n' == n0) && (szT u == sz) then (ixI i n0).bind fun m => k (.ep id q t (p ++ [.ix m])) s [] else none | _ => none)
  | .pt (.ar n' u) v => bif (n' == n0) && (szT u == sz) then (ixI i n0).bind fun m => k (.pt u (gt v.1 m)) s [] else none
  | _ => none) = some z)
  (hr : HR s.next h1 s.heap) (hx : tvR s.heap x y) (hk : okV s.next s.heap x) : Prt h1 (.indexAddr (some n0) sz) [y, tI kd i] s k z := by
 cases x with
 | op id t p =>
  simp only at hz
  split at hz
  ·rename_i n' u hu
   obtain ⟨h2, hz2⟩ := q01 hz
   obtain ⟨m, hm, hz3⟩ := bnd hz2
   simp only [Bool.and_eq_true, beq_iff_eq] at h2
   obtain ⟨rfl, rfl⟩ := h2
   obtain ⟨rfl, hm2⟩ := q41.1 hm
   obtain ⟨q1, q2⟩ := qsh p t u n' m hu hm2 hk.2
   rw [qff hx]
   refine .pure hr hz3 (x := .c (.op id (ofP t p + m * szT u))) (fun _ => ?_) (q0h (q16 rfl ?_)) ⟨hk.1, q1⟩
   ·simp only [List.map, ev1, intOf?, q26]
    rw [if_pos ⟨by omega, by omega⟩]; simp
   ·show [_] = [_]; rw [q2]
  ·simp at hz
 | ep id q t p =>
  simp only at hz
  split at hz
  ·rename_i n' u hu
   obtain ⟨h2, hz2⟩ := q01 hz
   obtain ⟨m, hm, hz3⟩ := bnd hz2
   simp only [Bool.and_eq_true, beq_iff_eq] at h2
   obtain ⟨rfl, rfl⟩ := h2
   obtain ⟨rfl, hm2⟩ := q41.1 hm
   obtain ⟨q1, q2⟩ := qsh p t u n' m hu hm2 hk.2.1
   rw [qfh hx]
   refine .pure hr hz3 (x := .c (.ep id q (ofP t p + m * szT u))) (fun _ => ?_) (q0h (q16 rfl ?_)) ⟨hk.1, q1, hk.2.2⟩
   ·simp only [List.map, ev1, intOf?, q26]
    rw [if_pos ⟨by omega, by omega⟩]; simp
   ·show [_] = [_]; rw [q2]
  ·simp at hz
 | pt t v =>
  cases t with
  | ar n' u =>
   simp only at hz
   obtain ⟨h2, hz2⟩ := q01 hz
   obtain ⟨m, hm, hz3⟩ := bnd hz2
   simp only [Bool.and_eq_true, beq_iff_eq] at h2
   obtain ⟨rfl, rfl⟩ := h2
   obtain ⟨rfl, hm2⟩ := q41.1 hm
   obtain ⟨hd, rfl⟩ := qj5 hx
   obtain ⟨a1, a2⟩ := qnp v hm2
   refine .pure hr hz3 (x := .c (.d (.pt (q06 u (gt v.1 m))))) (fun _ => ?_) (q0h (q16 rfl ⟨hd, rfl⟩)) trivial
   simp only [List.map, ev1, intOf?, q26]
   rw [if_pos ⟨by omega, by omega⟩]
   simp only [Int.toNat_natCast]
   rw [if_pos a1, a2]
  | _ => simp at hz
 | _ => simp at hz
end
end Go.Ev

/- Operations that may fail, or that make something, against the abstract machine's: append, copy, store, composites, maps. Conditions: as stated. -/
namespace Go.Ev
section
variable {h : H2} {n : Nat} {h1 : q0k} {β : Type} {s : S2} {k : V → S2 → List Nat → Option β} {z : β}
theorem qn9 {t u : Ty} {m : Sl (El t)} {m' : Sl (El u)} (hc : q3s (.sl t) (.sl u) m = some m') : t = u ∧ m'.l.map (q06 u) = m.l.map (q06 t) := by
 obtain ⟨e, rfl⟩ := q15 hc
 cases e
 exact ⟨rfl, rfl⟩
theorem q12s {c : C} {t : Ty} {id sz : Nat} {w : Sl (El t)} {ver : Nat} (hr : HR n h1 h) (hc : c = slC (szT t) (q06 t) id w) (hsz : szT t = sz) (ho : fO h id = some (.ar t w ver) ∨ fO h id = some (.im t w ver)) :
  ∃ ids, q3h sz h1 c = some (w.l.map (q06 t), ids) ∧ ∀ i ∈ ids, i = id := by
 subst hc hsz
 cases w with
 | nil => exact ⟨[], rfl, fun i hi => by simp at hi⟩
 | mk l =>
  refine ⟨[id], ?_, fun i hi => by simpa using hi⟩
  rcases ho with ho | ho
  ·have hb := (hr.ob id _ ho).2.1.2.2 l rfl
   simp only [slC, q3h, hb]
   rw [if_pos ⟨trivial, by simp⟩, qbz]; rfl
  ·have hb := (hr.ob id _ ho).2.1.2.2 l rfl
   simp only [slC, q3h, hb]
   rw [if_pos ⟨trivial, by simp⟩, qbz]; rfl
theorem qxv {id lo ver sz : Nat} {t : Ty} {r : Sl (El t)} (hr : HR n h1 h) (hk : okV n h (.sb id ver lo t r)) (ha : alv h (.sb id ver lo t r) = true) (hsz : szT t = sz) :
  ∃ ids, q3h sz h1 (sbC id lo t r) = some (r.l.map (q06 t), ids) ∧ ∀ i ∈ ids, i = id := by
 subst hsz
 obtain ⟨u, s0, ho⟩ := q58 (h := h) (id := id) (ver := ver) (Bool.and_eq_true_iff.1 ha).2
 obtain ⟨_, h4⟩ := hk.2 u s0 ver ho
 obtain ⟨h5, h6⟩ := h4 rfl
 cases r with
 | nil => exact ⟨[], rfl, fun i hi => by simp at hi⟩
 | mk w =>
  cases s0 with
  | nil => exact h6.elim
  | mk l =>
   refine ⟨[id], ?_, fun i hi => by simpa using hi⟩
   have hb : q02 h1 id = some (.arr (szT u) (l.map (q06 u))) ∨ q02 h1 id = some (.imm (szT u) (l.map (q06 u))) := by
    rcases ho with ho | ho
    ·exact .inl ((hr.ob id _ ho).2.1.2.2 l rfl)
    ·exact .inr ((hr.ob id _ ho).2.1.2.2 l rfl)
   rcases hb with hb | hb
   ·simp only [sbC, q3h, hb]
    rw [if_pos ⟨trivial, by simpa using h6.1⟩]
    rw [List.length_map, h6.2]; rfl
   ·simp only [sbC, q3h, hb]
    rw [if_pos ⟨trivial, by simpa using h6.1⟩]
    rw [List.length_map, h6.2]; rfl
theorem qs4 {x : V} {y : TV} {t0 t : Ty} {m : Sl (El t)} {l : List Nat} {sz : Nat} (hr : HR n h1 h) (hx : tvR h x y) (hk : okV n h x) (ha : alv h x = true) (hs : slX t0 h x = some ⟨t, m, l⟩) (hsz : szT t = sz) :
  ∃ c ids, y = .c c ∧ q3h sz h1 c = some (m.l.map (q06 t), ids) ∧ ∀ i ∈ ids, i ∈ l := by
 cases x with
 | nl j =>
  cases j with
  | zero =>
   simp only [slX] at hs
   obtain ⟨rfl, e⟩ := Sigma.mk.inj (Option.some.inj hs)
   obtain ⟨rfl, rfl⟩ := Prod.mk.inj (eq_of_heq e)
   exact ⟨_, [], qfn hx, rfl, fun i hi => by simp at hi⟩
  | succ j => simp [slX, slV] at hs
 | x u v =>
  cases u with
  | sl u =>
   simp only [slX, slV] at hs
   obtain ⟨rfl, e⟩ := Sigma.mk.inj (Option.some.inj hs)
   obtain ⟨rfl, rfl⟩ := Prod.mk.inj (eq_of_heq e)
   subst hsz
   exact ⟨_, [], qi0 hx, qxx, fun i hi => by simp at hi⟩
  | _ => simp [slX, slV] at hs
 | so id =>
  obtain ⟨ver, ho, e⟩ := qej (h := h) (id := id) hs
  obtain rfl : l = [id] := e
  obtain ⟨ids, q1, q2⟩ := q12s hr rfl hsz ho
  exact ⟨_, ids, qdv hx (q6q ho), q1, fun i hi => by simpa using q2 i hi⟩
 | sb id ver lo u r =>
  simp only [slX, slV] at hs
  obtain ⟨rfl, e⟩ := Sigma.mk.inj (Option.some.inj hs)
  obtain ⟨rfl, rfl⟩ := Prod.mk.inj (eq_of_heq e)
  obtain ⟨ids, q1, q2⟩ := qxv hr hk ha hsz
  exact ⟨_, ids, qa2 hx ha, q1, fun i hi => by simpa using q2 i hi⟩
 | _ => simp [slX, slV] at hs
def qf5 (s : S2) : Option Nat → S2
 | none => s
 | some id => q4j s id none
theorem ql3 {kill : Option Nat} {t : Ty} {w : Sl (El t)} {u : Upd} {ids l : List Nat} {m : Nat} (hr : HR s.next h1 s.heap) (hkl : ∀ id, kill = some id → id < s.next) (hd : okT t = true) (hu : ∀ p ∈ u, p.1 = s.next ∨ kill = some p.1) (hl : ∀ i ∈ ids, i ∈ l) (hm : m ≤ s.next + 1)
  (hb : ∀ l, w = .mk l → q02 (u ++ h1) s.next = some (.arr (szT t) (l.map (q06 t)))) {x : TV} (hx : x = .c (slC (szT t) (q06 t) s.next w)) : Did s (qaq (qf5 s kill) (.ar t w 0)) h1 x u ids m (.so s.next) l := by
 have hnx : (qf5 s kill).next = s.next := by cases kill <;> rfl
 have hh : (qaq (qf5 s kill) (.ar t w 0)).heap = (s.next, some (.ar t w 0)) :: (qf5 s kill).heap := by simp only [qaq, hnx]
 have hfo : ∀ i, fO (qaq (qf5 s kill) (.ar t w 0)).heap i = if s.next = i then some (.ar t w 0) else if kill = some i then none else fO s.heap i := by
  intro i
  rw [hh, q1j]
  cases kill with
  | none => simp [qf5]
  | some id => simp only [qf5, q4j, q1j, Option.some.injEq]
 have hnn : (qaq (qf5 s kill) (.ar t w 0)).next = s.next + 1 := by simp only [qaq, hnx]
 refine Did.gen (s.next :: kill.toList) hr ⟨fun i o' hi ho => ?_⟩ ?_ ?_ ?_ ?_ hl ?_ ?_ ?_ ?_ ?_ ?_ (fun i hi h => by rw [hfo, if_neg (by omega)]; split <;> first | rfl | exact h)
 ·rw [hfo, if_neg (by omega)] at ho
  split at ho
  ·simp at ho
  ·exact .inl ⟨o', ho, OSt.refl _⟩
 ·cases kill <;> rfl
 ·cases kill <;> rfl
 ·rw [hnn]; exact hm
 ·rw [hnn]; omega
 ·cases kill <;> simp [qaq, qf5, q4j]
 ·intro p hp
  rcases hu p hp with e | e
  ·simp [e]
  ·simp [e]
 ·intro i hi
  rw [hfo, if_neg (fun e => hi (by simp [e])), if_neg (fun e => hi (by simp [e]))]
 ·intro i hi o ho
  rw [hfo] at ho
  split at ho
  ·rename_i e
   subst e
   obtain rfl := Option.some.inj ho
   obtain ⟨h3, h4⟩ := qbk hd
   exact ⟨by rw [hnn]; omega, ⟨h3, h4, hb⟩, trivial⟩
  ·rename_i e
   split at ho
   ·simp at ho
   ·rename_i e2
    rcases List.mem_cons.1 hi with hi | hi
    ·exact absurd hi.symm e
    ·exact absurd (by simpa using hi) e2
 ·rw [hx, hh, show s.next = s.next from rfl]
  exact qmu
 ·rw [hnn]; exact Nat.lt_succ_self _
theorem qt0 {sz : Nat} {c : C} {new : List (List D)} {ids : List Nat} (hx : q3h sz h1 c = some (new, ids)) (hl : new.length ≤ 2147483648) {nx : Nat} {cl : Call} :
  ev1 cl (.append sz) [some (.c (.d (.lit (.slice none 0 0)))), some (.c c)] h1 nx = if new = [] then some (.c (.d (.lit (.slice none 0 0))), [], ids, nx) else some (.c (.osl sz nx 0 new.length), [(nx, some (.arr sz new))], ids, nx + 1) := by
 simp only [ev1, q6s, hx]
 rw [if_pos (by simpa [lim] using hl)]
 cases new <;> simp
theorem qgg {kill : Option Nat} {t : Ty} {xs r : List (El t)} {sz : Nat} {c : C} {ids l : List Nat} (hr : HR s.next h1 s.heap) (hkl : ∀ id, kill = some id → id < s.next) (hd : okT t = true) (hsz : szT t = sz) (hx : q3h sz h1 c = some (xs.map (q06 t), ids)) (hc : q8m ([] ++ xs) = some r)
  (hl : ∀ i ∈ ids, i ∈ l) (hz : k (.so s.next) (qaq (qf5 s kill) (.ar t (qtz Sl.nil xs r) 0)) l = some z) : Prt h1 (.append sz) [.c (.d (.lit (.slice none 0 0))), .c c] s k z := by
 subst hsz
 obtain ⟨rfl, hlen⟩ := qe8.1 hc
 refine ⟨_, _, _, hz, fun cl => ?_⟩
 simp only [List.map_cons, List.map_nil]
 rw [qt0 hx (by simpa using hlen)]
 cases xs with
 | nil => exact ⟨_, _, _, _, rfl, ql3 hr hkl hd (fun p hp => by simp at hp) hl (Nat.le_succ _) (fun l e => by cases e) rfl⟩
 | cons y ys =>
  refine ⟨_, _, _, _, if_neg (by simp), ql3 hr hkl hd (fun p hp => by simp at hp; simp [hp]) hl (Nat.le_refl _) (fun l e => ?_) rfl⟩
  simp only [qtz, List.nil_append] at e
  cases e
  rw [List.singleton_append, q12, if_pos rfl]
theorem qr8 {t : Ty} {w xs r : List (El t)} {sz id off : Nat} {rows : List (List D)} {c : C} {ids l : List Nat} (hr : HR s.next h1 s.heap) (hid : id < s.next) (hd : okT t = true) (hsz : szT t = sz) (hl1 : q02 h1 id = some (.arr sz rows)) (hle : off + w.length ≤ rows.length) (hro : rows.length ≤ off + (w.length + xs.length)) (he : (rows.drop off).take w.length = w.map (q06 t))
  (hx : q3h sz h1 c = some (xs.map (q06 t), ids)) (hc : q8m (w ++ xs) = some r) (hl : ∀ i ∈ id :: ids, i ∈ l) (hz : k (.so s.next) (qaq (q4j s id none) (.ar t (qtz (.mk w) xs r) 0)) l = some z) :
  Prt h1 (.append sz) [.c (.osl sz id off (w.map (q06 t)).length), .c c] s k z := by
 subst hsz
 obtain ⟨rfl, hlen⟩ := qe8.1 hc
 have ea : qtz (.mk w) xs (w ++ xs) = .mk (w ++ xs) := by cases xs <;> rfl
 rw [ea] at hz
 refine ⟨_, _, _, hz, fun cl => ⟨.c (.osl (szT t) s.next 0 ((w ++ xs).map (q06 t)).length), [(id, none), (s.next, some (.arr (szT t) ((w ++ xs).map (q06 t))))], id :: ids, s.next + 1, ?_, ?_⟩⟩
 ·simp only [List.map_cons, List.map_nil, ev1, q6s, hx, hl1]
  simp only [List.length_map, List.length_append] at hlen ⊢
  rw [if_pos ⟨trivial, by omega, by simpa [lim] using hlen⟩, he, ← List.map_append, List.drop_eq_nil_of_le (by omega), List.append_nil]
 ·refine ql3 (kill := some id) hr (fun i e => by cases e; exact hid) hd (fun p hp => ?_) hl (Nat.le_refl _) (fun l e => ?_) rfl
  ·simp only [List.mem_cons, List.not_mem_nil, or_false] at hp
   rcases hp with rfl | rfl <;> simp
  ·cases e
   rw [List.cons_append, q12, if_neg (by omega), List.singleton_append, q12, if_pos rfl]
theorem qm3 {a x : V} {ya yx : TV} {t0 : Ty} {sz : Nat} 
  (hz : (match slX t0 s.heap x with
  | some ⟨t, m, ids⟩ => bif (szT t == sz) && okT t then (match a with
   | .nl 0 => (q8m ([] ++ m.l)).bind fun r => k (.so s.next) (qaq s (.ar t (qtz Sl.nil m.l r) 0)) ids
   | .so id => (match fO s.heap id with
    | some (.ar u v _) => (match q3s (.sl t) (.sl u) m with
     | some m => (q8m (v.l ++ m.l)).bind fun r => k (.so s.next) (qaq (q4j s id none) (.ar u (qtz v m.l r) 0)) (id :: ids)
     | none => none)
    | _ => none)
   | .sb id _ lo u v => (match fO s.heap id, q3s (.sl t) (.sl u) m with
    | some (.ar _ s0 _), some m => bif Nat.ble s0.l.length (lo + (v.l.length + m.l.length)) then ((q8m (v.l ++ m.l)).bind fun r => k (.so s.next) (qaq (q4j s id none) (.ar u (qtz v m.l r) 0)) (id :: ids)) else none
    | _, _ => none)
   | _ => none) else none
  | none => none) = some z)
  (hr : HR s.next h1 s.heap) (ha1 : tvR s.heap a ya) (ha2 : okV s.next s.heap a) (ha3 : alv s.heap a = true) (hx : tvR s.heap x yx) (hk : okV s.next s.heap x) (ha : alv s.heap x = true) : Prt h1 (.append sz) [ya, yx] s k z := by
 split at hz
 ·rename_i t m l hs
  obtain ⟨h2, hz2⟩ := q01 hz
  simp only [Bool.and_eq_true, beq_iff_eq] at h2
  obtain ⟨hsz, hd⟩ := h2
  obtain ⟨c, ids, rfl, q1, q2⟩ := qs4 hr hx hk ha hs hsz
  clear hz
  cases a with
  | nl j =>
   cases j with
   | zero =>
    obtain ⟨r, hc, hz3⟩ := bnd hz2
    rw [qfn ha1]
    exact qgg (kill := none) hr (fun _ e => by cases e) hd hsz q1 hc q2 hz3
   | succ j => simp at hz2
  | so id =>
   simp only at hz2
   split at hz2
   ·rename_i u v ver ho
    split at hz2
    ·rename_i m' hm
     obtain ⟨rfl, e⟩ := qn9 hm
     obtain ⟨r, hc, hz3⟩ := bnd hz2
     rw [qdv ha1 (q6q (.inl ho))]
     rw [← e] at q1
     cases v with
     | nil => exact qgg (kill := some id) hr (fun _ e => by cases e; exact ha2) hd hsz q1 hc (fun i hi => List.mem_cons_of_mem _ (q2 i hi)) hz3
     | mk w =>
      have hb := (hr.ob id _ ho).2.1.2.2 w rfl
      subst hsz
      refine qr8 (w := w) hr ha2 hd rfl hb (by simp) (by simp only [List.length_map]; omega) (by rw [← List.length_map (f := q06 t)]; exact qbz) q1 hc (fun i hi => ?_) hz3
      rcases List.mem_cons.1 hi with rfl | hi
      ·exact List.mem_cons_self ..
      ·exact List.mem_cons_of_mem _ (q2 i hi)
    ·simp at hz2
   ·simp at hz2
  | sb id ver lo u v =>
   simp only at hz2
   split at hz2
   ·rename_i u0 s0 v0 m' ho hm
    obtain ⟨rfl, e⟩ := qn9 hm
    obtain ⟨hgd, hz2b⟩ := q01 hz2
    obtain ⟨r, hc, hz3⟩ := bnd hz2b
    rw [qa2 ha1 ha3]
    rw [← e] at q1
    cases v with
    | nil => exact qgg (kill := some id) hr (fun _ e => by cases e; exact ha2.1) hd hsz q1 hc (fun i hi => List.mem_cons_of_mem _ (q2 i hi)) hz3
    | mk w =>
     obtain ⟨u1, s1, ho1⟩ := q58 (h := s.heap) (id := id) (ver := ver) (Bool.and_eq_true_iff.1 ha3).2
     obtain ⟨_, h4⟩ := ha2.2 u1 s1 ver ho1
     obtain ⟨h5, h6⟩ := h4 rfl
     have ho2 : fO s.heap id = some (.ar u1 s1 ver) := by
      rcases ho1 with ho1 | ho1
      ·exact ho1
      ·rw [ho] at ho1; simp at ho1
     cases s1 with
     | nil => exact h6.elim
     | mk l1 =>
      have hb := (hr.ob id _ ho2).2.1.2.2 l1 rfl
      subst hsz
      rw [h5] at hb
      refine qr8 (w := w) hr ha2.1 hd rfl hb (by simpa using h6.1) (by
       rw [ho2] at ho
       obtain ⟨rfl, e2, _⟩ : u1 = u0 ∧ _ := by simpa using ho
       cases eq_of_heq e2
       have := Nat.le_of_ble_eq_true hgd
       simpa [Sl.l] using this) h6.2 q1 hc (fun i hi => ?_) hz3
      rcases List.mem_cons.1 hi with rfl | hi
      ·exact List.mem_cons_self ..
      ·exact List.mem_cons_of_mem _ (q2 i hi)
   ·simp at hz2
  | _ => simp at hz2
 ·simp at hz
end
end Go.Ev

/- Operations that may fail, or that make something, against the abstract machine's: copy, store, composites, maps; all of them. Conditions: as stated. -/
namespace Go.Ev
section
variable {h : H2} {n : Nat} {h1 : q0k} {β : Type} {s : S2} {k : V → S2 → List Nat → Option β} {z : β}
theorem qyt {id : Nat} {o o' : O} {u : Upd} {x : TV} {v : V} {ids l : List Nat} (hr : HR s.next h1 s.heap) (ho : fO s.heap id = some o) (hs : OSt o o') (hu : ∀ p ∈ u, p.1 = id) (hb : obR ((id, some o') :: s.heap) o' (q02 (u ++ h1) id)) (hko : okO s.next ((id, some o') :: s.heap) o')
  (hx : tvR ((id, some o') :: s.heap) v x) (hk : okV s.next ((id, some o') :: s.heap) v) (hl : ∀ i ∈ ids, i ∈ l) : Did s (q4j s id (some o')) h1 x u ids s.next v l := by
 refine Did.gen [id] hr (HSt.upd ho hs) rfl rfl (Nat.le_refl _) (Nat.le_refl _) hl rfl (fun p hp => by simp [hu p hp]) (fun i hi => ?_) (fun i hi o2 ho2 => ?_) hx hk (fun i _ h => by simp only [q4j]; rw [q1j, if_neg (fun e => by rw [e, h] at ho; cases ho)]; exact h)
 ·simp only [q4j]; rw [q1j, if_neg fun e => hi (by simp [e])]
 ·obtain rfl := List.mem_singleton.1 hi
  simp only [q4j, qkn] at ho2
  obtain rfl := Option.some.inj ho2
  exact ⟨(hr.ob _ _ ho).1, hb, hko⟩
theorem qab {id ver : Nat} {t : Ty} {w w' : Sl (El t)} {u : Upd} {x : TV} {v : V} {ids l : List Nat} (hr : HR s.next h1 s.heap) (ho : fO s.heap id = some (.ar t w ver)) (hn : w.isNil = w'.isNil) (hlen : w.l.length = w'.l.length) (hu : ∀ p ∈ u, p.1 = id)
  (hb : ∀ l, w' = .mk l → q02 (u ++ h1) id = some (.arr (szT t) (l.map (q06 t)))) (hx : ∀ g, tvR g v x) (hk : ∀ n g, okV n g v) (hl : ∀ i ∈ ids, i ∈ l) : Did s (q4j s id (some (.ar t w' (ver + 1)))) h1 x u ids s.next v l := by
 obtain ⟨h2, h3, _⟩ := (hr.ob id _ ho).2.1
 exact qyt hr ho ⟨Nat.le_succ _, rfl, hn, hlen, fun e => by omega⟩ hu ⟨h2, h3, hb⟩ trivial (hx _) (hk _ _) hl
theorem qqv {a x : V} {ya yx : TV} {t0 : Ty} {sz : Nat} 
  (hz : (match slX t0 s.heap x with
  | some ⟨t, m, ids⟩ => bif szT t == sz then (match a with
   | .nl 0 => k (.x (.i .i64) (0 : Int)) s ids
   | .so id => (match fO s.heap id with
    | some (.ar u v ver) => (match q3s (.sl t) (.sl u) m with
     | some m => k (.x (.i .i64) ((min m.l.length v.l.length : Nat) : Int)) (q4j s id (some (.ar u (v.to (cpL v.l 0 v.l.length m.l)) (ver + 1)))) (id :: ids)
     | none => none)
    | _ => none)
   | .sb id ver lo _ v => (match fO s.heap id with
    | some (.ar u w ver') => (match q3s (.sl t) (.sl u) m with
     | some m => bif ver' == ver then k (.x (.i .i64) ((min m.l.length v.l.length : Nat) : Int)) (q4j s id (some (.ar u (w.to (cpL w.l lo v.l.length m.l)) (ver + 1)))) (id :: ids) else none
     | none => none)
    | _ => none)
   | _ => none) else none
  | none => none) = some z)
  (hr : HR s.next h1 s.heap) (ha1 : tvR s.heap a ya) (ha2 : okV s.next s.heap a) (ha3 : alv s.heap a = true) (hx : tvR s.heap x yx) (hk : okV s.next s.heap x) (ha : alv s.heap x = true) : Prt h1 (.copy sz) [ya, yx] s k z := by
 have hmem : ∀ {id : Nat} {ids l : List Nat}, (∀ i ∈ ids, i ∈ l) → ∀ i ∈ id :: ids, i ∈ id :: l := fun q i hi => by
  rcases List.mem_cons.1 hi with rfl | hi
  ·exact List.mem_cons_self ..
  ·exact List.mem_cons_of_mem _ (q i hi)
 split at hz
 ·rename_i t m l hs
  obtain ⟨h2, hz2⟩ := q01 hz
  obtain rfl : szT t = sz := by simpa using h2
  obtain ⟨c, ids, rfl, q1, q2⟩ := qs4 hr hx hk ha hs rfl
  clear hz
  cases a with
  | nl j =>
   cases j with
   | zero =>
    rw [qfn ha1]
    exact ⟨_, _, _, hz2, fun cl => ⟨tI .i64 0, [], ids, s.next, by simp only [List.map_cons, List.map_nil, ev1, q5v, nlC, q1]; rfl, Did.pure hr (xi _ _) trivial q2⟩⟩
   | succ j => simp at hz2
  | so id =>
   simp only at hz2
   split at hz2
   ·rename_i u v ver ho
    split at hz2
    ·rename_i m' hm
     obtain ⟨rfl, e⟩ := qn9 hm
     rw [qdv ha1 (q6q (.inl ho))]
     rw [← e] at q1
     cases v with
     | nil =>
      refine ⟨_, _, _, hz2, fun cl => ⟨tI .i64 0, [], ids, s.next, by simp only [List.map_cons, List.map_nil, ev1, q5v, slC, q1]; rfl, ?_⟩⟩
      exact qab hr ho rfl rfl (fun p hp => by simp at hp) (fun l e => by cases e) (fun g => by simpa [Sl.l] using xi .i64 0) (fun _ _ => trivial) fun i hi => List.mem_cons_of_mem _ (q2 i hi)
     | mk w =>
      have hb := (hr.ob id _ ho).2.1.2.2 w rfl
      refine ⟨_, _, _, hz2, fun cl => ⟨_, _, _, _, q12j hb q1, ?_⟩⟩
      refine qab hr ho rfl ?_ (fun p hp => by simp at hp; simp [hp]) (fun l e => ?_) (fun g => xi _ _) (fun _ _ => trivial) (hmem q2)
      ·simp only [Sl.to, Sl.l]; rw [qbw (by omega)]
      ·simp only [Sl.to, Sl.l] at e
       cases e
       rw [List.singleton_append, q12, if_pos rfl]; rfl
    ·simp at hz2
   ·simp at hz2
  | sb id ver lo u0 v =>
   simp only at hz2
   split at hz2
   ·rename_i u w ver' ho
    split at hz2
    ·rename_i m' hm
     obtain ⟨rfl, e⟩ := qn9 hm
     obtain ⟨h3, hz3⟩ := q01 hz2
     obtain rfl : ver' = ver := by simpa using h3
     rw [qa2 ha1 ha3]
     rw [← e] at q1
     obtain ⟨_, h4⟩ := ha2.2 t w ver' (.inl ho)
     obtain ⟨h5, h6⟩ := h4 rfl
     cases v with
     | nil =>
      cases w with
      | mk w => exact h6.elim
      | nil =>
       refine ⟨_, _, _, hz3, fun cl => ⟨tI .i64 0, [], ids, s.next, by simp only [List.map_cons, List.map_nil, ev1, q5v, sbC, q1]; rfl, ?_⟩⟩
       exact qab hr ho rfl rfl (fun p hp => by simp at hp) (fun l e => by cases e) (fun g => by simpa [Sl.l] using xi .i64 0) (fun _ _ => trivial) fun i hi => List.mem_cons_of_mem _ (q2 i hi)
     | mk v =>
      cases w with
      | nil => exact h6.elim
      | mk w =>
       have hb := (hr.ob id _ ho).2.1.2.2 w rfl
       refine ⟨_, _, _, hz3, fun cl => ⟨tI .i64 (min m'.l.length v.length : Nat), [(id, some (.arr (szT t) ((cpL w lo v.length m'.l).map (q06 t))))], id :: ids, s.next, ?_, ?_⟩⟩
       ·simp only [List.map_cons, List.map_nil, ev1, q5v, sbC, q1, hb, ← h5]
        rw [if_pos ⟨trivial, by simpa using h6.1⟩]
        simp only [qsg, List.length_map]; rfl
       ·refine qab hr ho rfl ?_ (fun p hp => by simp at hp; simp [hp]) (fun l e => ?_) (fun g => xi _ _) (fun _ _ => trivial) (hmem q2)
        ·simp only [Sl.to, Sl.l]; rw [qbw h6.1]
        ·simp only [Sl.to, Sl.l] at e
         cases e
         rw [List.singleton_append, q12, if_pos rfl]; rfl
    ·simp at hz2
   ·simp at hz2
  | _ => simp at hz2
 ·simp at hz
theorem qul {g : H2} : tvR g (.tp .ni) (.tup []) := ⟨[], rfl, rfl⟩
theorem qq0 {a : V} {ya : TV} {zz : List Value}
  (hz : (match a with
  | .sb id ver lo _ v => (match fO s.heap id with
   | some (.ar u w ver') => bif (ver' == ver) && qk6 (zeL u) zz && okT u then (clrS w lo v.l.length (zeE u)).bind fun w => k (.tp .ni) (q4j s id (some (.ar u w (ver + 1)))) [id] else none
   | _ => none)
  | _ => none) = some z)
  (hr : HR s.next h1 s.heap) (ha1 : tvR s.heap a ya) (ha2 : okV s.next s.heap a) (ha3 : alv s.heap a = true) : Prt h1 (.clear zz) [ya] s k z := by
 cases a with
 | sb id ver lo u0 v =>
  simp only at hz
  split at hz
  ·rename_i u w ver' ho
   obtain ⟨h3, hz2⟩ := q01 hz
   simp only [Bool.and_eq_true, beq_iff_eq] at h3
   obtain ⟨⟨rfl, q1⟩, q2⟩ := h3
   have q1 := qa5 q1
   subst q1
   obtain ⟨hd, _⟩ := qbk q2
   obtain ⟨w', hw, hz3⟩ := bnd hz2
   rw [qa2 ha1 ha3]
   obtain ⟨_, h4⟩ := ha2.2 u w ver' (.inl ho)
   obtain ⟨h5, h6⟩ := h4 rfl
   have hzl : q0n (zeL u) = q06 u (zeE u) := (qac u hd).symm
   have hlen : szT u = (zeL u).length := by
    have := congrArg List.length hzl
    rw [q09, q0n, List.length_map] at this
    exact this.symm
   cases w with
   | nil => simp [clrS] at hw
   | mk w =>
    cases v with
    | nil => exact h6.elim
    | mk v =>
     simp only [clrS, Option.some.injEq] at hw
     subst hw
     have hb := (hr.ob id _ ho).2.1.2.2 w rfl
     refine ⟨_, _, _, hz3, fun cl => ⟨.tup [], [(id, some (.arr (szT u) ((cpL w lo v.length (List.replicate v.length (zeE u))).map (q06 u))))], [id], s.next, ?_, ?_⟩⟩
     ·simp only [List.map_cons, List.map_nil, ev1, q89, sbC, hb, ← h5]
      rw [if_pos ⟨hlen, by simpa using h6.1⟩, hzl, ← qsg]
      simp [List.length_map, List.map_replicate, List.take_of_length_le]
     ·refine qab hr ho rfl ?_ (fun p hp => by simp at hp; simp [hp]) (fun l e => ?_) (fun g => qul) (fun _ _ => trivial) (fun i hi => hi)
      ·simp only [Sl.l]; rw [qbw (by simpa using h6.1)]
      ·cases e
       rw [List.singleton_append, q12, if_pos rfl]; rfl
  ·simp at hz
 | _ => simp at hz
theorem qko {id m : Nat} {t : Ty} {p : qey} {w : V} {ya yw : TV} (hr : HR s.next h1 s.heap) (ha1 : tvR s.heap (.op id t p) ya) (ha2 : okV s.next s.heap (.op id t p)) (hx : tvR s.heap w yw) (hk : okV s.next s.heap w)
  (hz : (bif (szV w == m) then (match fO s.heap id with
  | some (.bx u c) => bif decide (u = t) then (match tyP t p with
   | some a => (match nrm a w with
    | some w => (match qci c p w with | some c => bif q2i c false t then k (.tp .ni) (q4j s id (some (.bx t c))) [id] else none | none => none)
    | none => none)
   | none => none) else none
  | _ => none) else none) = some z) : Prt h1 (.store m) [ya, yw] s k z := by
 obtain ⟨h2, hz2⟩ := q01 hz
 simp only [beq_iff_eq] at h2
 clear hz
 split at hz2
 ·rename_i u c ho
  obtain ⟨h3, hz3⟩ := q01 hz2
  simp only [decide_eq_true_eq] at h3
  subst h3
  clear hz2
  split at hz3
  ·rename_i a ha
   split at hz3
   ·rename_i w' hw
    split at hz3
    ·rename_i c' hc
     obtain ⟨h4, hz4⟩ := q01 hz3
     obtain ⟨cw, e1, e2⟩ := q94 (qa1 (qt7 hw) hx)
     obtain ⟨q1, q2, q3, q4⟩ := qgz hw e1 hk
     obtain ⟨_, ⟨cs, e3, e4, e5⟩, e6⟩ := hr.ob id _ ho
     have l1 : cw.length = szV w := q2a e1
     have l2 : cw.length = szT a := by rw [q2a q1, q1o _ _ _ q2]
     have l3 : cs.length = szT u := by rw [q2a e4, q1o _ _ _ e5]
     have l4 := qg0 p u a ha ha2.2
     have q5 := qek p c u w' c' cs cw a e5 e4 ha2.2 hc ha q1 l2
     have q6 := qt5 p c w' c' e6 q3 hc
     rw [qff ha1]
     have hos : OSt (.bx u c) (.bx u c') := rfl
     refine .upd hr ho hos hz4 (fun cl => ?_) (b := some (.box (splice cs (ofP u p) cw))) ?_ ?_ qul trivial (ids := [id]) fun i hi => hi
     ·simp only [List.map_cons, List.map_nil, ev1, q75, e2]
      rw [if_pos (l1.trans h2)]
      simp only [e3]
      rw [if_pos (by omega)]
     ·exact ⟨_, rfl, q4b (HSt.upd ho hos) q6 q5, h4⟩
     ·exact q1q (Nat.le_refl _) (HSt.upd ho hos) q6
    ·simp at hz3
   ·simp at hz3
  ·simp at hz3
 ·simp at hz2
theorem Did.seq {s1 s' : S2} {fu u : Upd} {x : TV} {ids a l : List Nat} {m : Nat} {v : V} (hst : HSt s.next s.heap s1.heap) (he : s1.env = s.env) (hg : s1.gh = s.gh) (hn : s1.next = s.next) (hwo : s1.wo = a ++ s.wo) (hu : ∀ p ∈ fu, p.1 ∈ a) (hf : ∀ id, id ∉ a → fO s1.heap id = fO s.heap id)
  (hna : ∀ i ∈ a, fO s.heap i ≠ none) (hd : Did s1 s' (fu ++ h1) x u ids m v l) : Did s s' h1 x (u ++ fu) ids m v l := by
 obtain ⟨d1, d2, d3, d4, d5, d6, d7, d8, d9, d10, W, w1, w2, w3⟩ := hd
 refine ⟨d1, d2, by rw [List.append_assoc]; exact d3, HSt.trans (Nat.le_of_eq hn.symm) hst d4, d5.trans he, d6.trans hg, d7, by omega, d9, fun i hi h => d10 i (by omega) ((hf i fun q => hna i q h).trans h), W ++ a, by rw [w1, hwo, List.append_assoc], fun p hp => ?_, fun i hi => ?_⟩
 ·rcases List.mem_append.1 hp with hp | hp
  ·exact List.mem_append_left _ (w2 p hp)
  ·exact List.mem_append_right _ (hu p hp)
 ·rw [w3 i fun q => hi (List.mem_append_left _ q), hf i fun q => hi (List.mem_append_right _ q)]
theorem qxr {v w : V} {l : List Nat} (hf : q78 h v = some (w, l)) : plV v := by
 cases v <;> first | trivial | (simp [q78] at hf)
theorem q8j {a b : List D} (e : a.map C.d = b.map C.d) : a = b := by
 induction a generalizing b with
 | nil => cases b with
  | nil => rfl
  | cons y b => simp at e
 | cons x a ih => cases b with
  | nil => simp at e
  | cons y b =>
   simp only [List.map_cons, List.cons.injEq, C.d.injEq] at e
   rw [e.1, ih e.2]
theorem q10v : ∀ (p : qey) (t u : Ty), dat t = true → tyP t p = some u → dat u = true := by
 intro p
 induction p with
 | nil =>
  intro t u hd h
  have e : tyP t [] = some t := by cases t <;> rfl
  rw [e] at h
  exact Option.some.inj h ▸ hd
 | cons q p ih =>
  intro t u hd h
  cases q with
  | fd i =>
   cases t with
   | st t =>
    simp only [tyP] at h
    split at h
    ·rename_i w hw
     exact ih w u (qi2 t i w hd hw) h
    ·simp at h
   | _ => simp [tyP] at h
  | ix i =>
   cases t with
   | ar l t => exact ih t u hd h
   | _ => simp [tyP] at h
theorem qlu {id m q : Nat} {t : Ty} {p : qey} {w : V} {ya yw : TV} (hr : HR s.next h1 s.heap) (ha1 : tvR s.heap (.ep id m t p) ya) (ha2 : okV s.next s.heap (.ep id m t p)) (hx : tvR s.heap w yw) (hk : okV s.next s.heap w) (ha : alv s.heap w = true)
  (hz : (bif (szV w == q) then (match fO s.heap id, q78 s.heap w with
  | some (.ar u l ver), some (w, a) => bif decide (u = t) then (match tyP u p with
   | some q => (match cst q w with
    | some y => (match qci (.x u (gt l.l m)) p (.x q y) with
     | some c => (match q3d u c with
      | some y => (match qba s.heap a s with | some s => bif !a.contains id then k (.tp .ni) (q4j s id (some (.ar u (.mk (l.l.set m y)) (ver + 1)))) (id :: a) else none | none => none)
      | none => none)
     | none => none)
    | none => none)
   | none => none) else none
  | _, _ => none) else none) = some z) : Prt h1 (.store q) [ya, yw] s k z := by
 obtain ⟨h2, hz2⟩ := q01 hz
 simp only [beq_iff_eq] at h2
 clear hz
 split at hz2
 ·rename_i u l ver w' a ho hw
  obtain ⟨h3, hz3⟩ := q01 hz2
  simp only [decide_eq_true_eq] at h3
  subst h3
  clear hz2
  split at hz3
  ·rename_i b2 hb
   split at hz3
   ·rename_i y hy
    split at hz3
    ·rename_i c hc
     split at hz3
     ·rename_i y2 hy2
      split at hz3
      ·rename_i s1 hs1
       obtain ⟨h4, hz4⟩ := q01 hz3
       obtain ⟨cw, e1, e2⟩ := q94 (qa1 (qxr hw) hx)
       obtain ⟨ds, ids, f1, f2, f3, f4, f5⟩ := qb1 hr w w' a cw hw e1 hk ha
       have e3 := q8j (q2b w' false b2 y _ hy f2)
       have hlen := ha2.2.2 u l ver (.inl ho)
       have hnm : ∀ (ds : List D) (cs : List C) (ids : List Nat), q10 h1 cs = some (ds, ids) → ds.length = cs.length := by
        intro ds cs
        induction cs generalizing ds with
        | nil => intro ids h; obtain ⟨rfl, _⟩ : [] = ds ∧ [] = ids := by simpa [q10] using h
                 rfl
        | cons c cs ih =>
         intro ids h
         simp only [q10] at h
         split at h
         ·rename_i p1 p2 p3 p4 hp hq
          obtain ⟨rfl, rfl⟩ := Prod.mk.inj (Option.some.inj h)
          simp [ih _ _ hq]
         ·simp at h
       have l1 : cw.length = szV w := q2a e1
       have l2 : ds.length = szT b2 := by rw [e3, q09]
       have l3 := hnm _ _ _ f1
       have l4 := qg0 p u b2 hb ha2.2.1
       cases l with
       | nil => simp [Sl.l] at hlen
       | mk l =>
        obtain ⟨_, ⟨d1, d2, d3⟩, _⟩ := hr.ob id _ ho
        have d3 := d3 l rfl
        have q5 := qek (h := s.heap) p (.x u (gt l m)) u (.x b2 y) c ((q06 u (gt l m)).map .d) ((q06 b2 y).map .d) b2 (by simp [q2i]) ⟨d1, rfl⟩ ha2.2.1 hc hb ⟨q10v p u b2 d1 hb, rfl⟩ (by simp [q09])
        have q6 := q7h hy2 q5
        rw [← qbi] at q6
        have q7 := q8j q6
        obtain ⟨fu, g1, g2, g3, g4, g5, g6, g7, g8, g9⟩ := qlj (s0 := s) rfl hr a s1 ids ids hs1 f3 f4
        have hid : id ∉ a := by simpa using h4
        have hid2 : ids.contains id = false := by
         cases hq : ids.contains id with
         | false => rfl
         | true => exact absurd ((f3 id (by simpa using hq)).1) hid
        rw [qfh ha1]
        refine ⟨_, _, _, hz4, fun cl => ⟨.tup [], (id, some (.arr (szT u) ((l.set m y2).map (q06 u)))) :: fu, id :: ids, s.next, ?_, ?_⟩⟩
        ·simp only [List.map_cons, List.map_nil]
         exact qyg d3 hlen e2 (l1.trans h2) f1 g1 hid2 (by rw [q09]; omega) (by rw [e3]; exact q7)
        ·have ho1 : fO s1.heap id = some (.ar u (.mk l) ver) := by rw [g9 id hid]; exact ho
         rw [← g6] at g2
         have := qab (v := .tp .ni) (x := .tup []) (ids := id :: ids) (l := id :: a) (u := [(id, some (.arr (szT u) ((l.set m y2).map (q06 u))))]) g2 ho1 (w' := .mk (l.set m y2)) rfl (by simp [Sl.l]) (fun p hp => by simp at hp; simp [hp]) (fun l' e => by cases e; rw [List.singleton_append, q12, if_pos rfl]) (fun _ => qul) (fun _ _ => trivial) (fun i hi => by
          rcases List.mem_cons.1 hi with rfl | hi
          ·exact List.mem_cons_self ..
          ·exact List.mem_cons_of_mem _ (f3 i hi).1)
         rw [g6] at this
         exact Did.seq g3 g4 g5 g6 g7 g8 g9 (qr3 rfl hs1) this
      ·simp at hz3
     ·simp at hz3
    ·simp at hz3
   ·simp at hz3
  ·simp at hz3
 ·simp at hz2
end
end Go.Ev

/- Operations that may fail, or that make something, against the abstract machine's: composites, maps; all of them. Conditions: as stated. -/
namespace Go.Ev
section
variable {h : H2} {n : Nat} {h1 : q0k} {β : Type} {s : S2} {k : V → S2 → List Nat → Option β} {z : β}
theorem qc6 : ∀ {cs : List C} {ds : List D} {ids : List Nat}, q10 h1 cs = some (ds, ids) → ds.length = cs.length := by
 intro cs
 induction cs with
 | nil => intro ds ids h; obtain ⟨rfl, _⟩ : [] = ds ∧ [] = ids := by simpa [q10] using h
          rfl
 | cons c cs ih =>
  intro ds ids h
  simp only [q10] at h
  split at h
  ·rename_i p1 p2 p3 p4 hp hq
   obtain ⟨rfl, rfl⟩ := Prod.mk.inj (Option.some.inj h)
   simp [ih hq]
  ·simp at h
theorem zrow {t : Ty} (hd : dat t = true) (m : Nat) : (List.replicate m (zeE t)).flatMap (q06 t) = q0n ((List.replicate m (zeL t)).flatten) := by
 induction m with
 | zero => rfl
 | succ m ih => simp only [List.replicate_succ, List.flatMap_cons, List.flatten_cons, ih, qac t hd, q0n, List.map_append]
theorem qn6 (l : List Value) : lits l = (q0n l).map .d := by simp [lits, q0n]
theorem qv6 {t : Ty} (hd : dat t = true) (m : Nat) : ((List.replicate m (zeL t)).flatten).length = m * szT t := by
 have := congrArg List.length (zrow hd m)
 rw [q2h (q09 t), List.length_replicate, q0n, List.length_map] at this
 exact this.symm
theorem qm9 {α : Type} {f : α → List D} {q : Nat} (hf : ∀ a, (f a).length = q) : ∀ (l : List α), q6c q l.length (l.flatMap f) = l.map f := by
 intro l
 induction l with
 | nil => rfl
 | cons a l ih =>
  simp only [List.length_cons, q6c, List.flatMap_cons, List.map_cons]
  rw [List.take_left' (hf a), List.drop_left' (hf a), ih]
theorem qpl {t : Ty} {len : Nat} (hr : HR n h1 h) (hd : dat t = true) : ∀ (is : List Nat) (vs : List V) (m : Nat) (l : List (El t)) (a : List Nat) (pre : List C) (xs : List TV), qky h t len m is vs = some (l, a) → m ≤ len → pre.length = m * szT t →
  qas h vs xs → (∀ w ∈ vs, okV n h w) → (∀ w ∈ vs, alv h w = true) →
  ∃ cs ids, q7q (pre ++ lits ((List.replicate (len - m) (zeL t)).flatten)) ((is.map fun i => (i * szT t, szT t)).zip xs) = some (pre ++ cs) ∧ q10 h1 cs = some (l.flatMap (q06 t), ids) ∧ (∀ i ∈ ids, i ∈ a ∧ ¬ qc2 h i) ∧ (∀ i ∈ a, i ∈ ids ∨ qc2 h i) ∧ l.length = len - m := by
 intro is
 induction is with
 | nil =>
  intro vs m l a pre xs hf hm hpre hx hk ha
  cases vs with
  | cons v vs => simp [qky] at hf
  | nil =>
   simp only [qky, Option.some.injEq, Prod.mk.injEq] at hf
   obtain ⟨rfl, rfl⟩ := hf
   obtain rfl := q4x hx
   refine ⟨_, [], rfl, ?_, fun i hi => by simp at hi, fun i hi => by simp at hi, by simp⟩
   rw [qn6, zrow hd]
   exact qgs _
 | cons i is ih =>
  intro vs m l a pre xs hf hm hpre hx hk ha
  cases vs with
  | nil => simp [qky] at hf
  | cons v vs =>
   simp only [qky] at hf
   split at hf
   ·rename_i w a1 hw
    split at hf
    ·rename_i y hy
     obtain ⟨hc, hf⟩ := q01 hf
     simp only [Bool.and_eq_true, Nat.ble_eq, Nat.blt_eq] at hc
     obtain ⟨hmi, hil⟩ := hc
     split at hf
     ·rename_i l1 b hl1
      obtain ⟨rfl, rfl⟩ := Prod.mk.inj (Option.some.inj hf)
      obtain ⟨x, ys, rfl, hx1, hx2⟩ := q1p hx
      obtain ⟨cw, e1, e2⟩ := q94 (qa1 (qxr hw) hx1)
      obtain ⟨ds, ids, f1, f2, f3, f4, _⟩ := qb1 hr v w a1 cw hw e1 (hk _ (by simp)) (ha _ (by simp))
      have e3 := q8j (q2b w false t y _ hy f2)
      subst e3
      have l1' : cw.length = szT t := by rw [← qc6 f1, q09]
      have lz : (lits ((List.replicate (i - m) (zeL t)).flatten)).length = (i - m) * szT t := by simp only [lits, List.length_map]; exact qv6 hd _
      have lz1 : (lits (zeL t)).length = szT t := by
       rw [qn6, ← qac t hd, List.length_map, q09]
      have hpl : (pre ++ lits ((List.replicate (i - m) (zeL t)).flatten)).length = i * szT t := by
       rw [List.length_append, hpre, lz, ← Nat.add_mul, Nat.add_sub_cancel' hmi]
      obtain ⟨cs, jds, g1, g2, g3, g4, g5⟩ := ih vs (i + 1) l1 b (pre ++ lits ((List.replicate (i - m) (zeL t)).flatten) ++ cw) ys hl1 hil (by rw [List.length_append, hpl, l1', Nat.add_mul, Nat.one_mul]) hx2 (fun w hw => hk w (by simp [hw])) (fun w hw => ha w (by simp [hw]))
      have hsplit : List.replicate (len - m) (zeL t) = List.replicate (i - m) (zeL t) ++ (zeL t :: List.replicate (len - (i + 1)) (zeL t)) := by
       rw [← List.replicate_succ, List.replicate_append_replicate]; congr 1; omega
      have hcells : pre ++ lits ((List.replicate (len - m) (zeL t)).flatten) = (pre ++ lits ((List.replicate (i - m) (zeL t)).flatten)) ++ (lits (zeL t) ++ lits ((List.replicate (len - (i + 1)) (zeL t)).flatten)) := by
       rw [hsplit, List.flatten_append, List.flatten_cons, qan, qan, List.append_assoc]
      refine ⟨lits ((List.replicate (i - m) (zeL t)).flatten) ++ (cw ++ cs), ids ++ jds, ?_, ?_, fun j hj => ?_, fun j hj => ?_, by simp [g5]; omega⟩
      ·simp only [List.map_cons, List.zip_cons_cons, q7q, e2]
       rw [if_pos ⟨l1', by rw [hcells, List.length_append, hpl, List.length_append, lz1]; omega⟩, hcells]
       have : splice ((pre ++ lits ((List.replicate (i - m) (zeL t)).flatten)) ++ (lits (zeL t) ++ lits ((List.replicate (len - (i + 1)) (zeL t)).flatten))) (i * szT t) cw = (pre ++ lits ((List.replicate (i - m) (zeL t)).flatten) ++ cw) ++ lits ((List.replicate (len - (i + 1)) (zeL t)).flatten) := by
        have := qb3 (a := pre ++ lits ((List.replicate (i - m) (zeL t)).flatten)) (b := lits (zeL t) ++ lits ((List.replicate (len - (i + 1)) (zeL t)).flatten)) (p := cw) (off := 0)
        rw [hpl] at this
        refine Eq.trans this ?_
        rw [qaz (by omega), q4u (by omega)]
        simp only [List.append_assoc]
       rw [this, g1]
       simp only [List.append_assoc]
      ·rw [List.flatMap_append, List.flatMap_cons, zrow hd]
       have hz : q10 h1 (lits ((List.replicate (i - m) (zeL t)).flatten)) = some (q0n ((List.replicate (i - m) (zeL t)).flatten), []) := by rw [qn6]; exact qgs _
       exact (q8d hz (q8d f1 g2) : q10 h1 _ = some (_, [] ++ (ids ++ jds)))
      ·rcases List.mem_append.1 hj with hj | hj
       ·exact ⟨List.mem_append_left _ (f3 j hj).1, (f3 j hj).2⟩
       ·exact ⟨List.mem_append_right _ (g3 j hj).1, (g3 j hj).2⟩
      ·rcases List.mem_append.1 hj with hj | hj
       ·exact (f4 j hj).imp (List.mem_append_left _) id
       ·exact (g4 j hj).imp (List.mem_append_right _) id
     ·simp at hf
    ·simp at hf
   ·simp at hf
theorem qm6 {t : Ty} {len sz : Nat} {zl : List Value} {pl : List Nat} {vs : List V} {xs : List TV} 
  (hz : bldS t sz len zl pl vs s k = some z)
  (hr : HR s.next h1 s.heap) (hx : qas s.heap vs xs) (hk : ∀ w ∈ vs, okV s.next s.heap w) (ha : ∀ w ∈ vs, alv s.heap w = true) : Prt h1 (.buildSlice sz len zl pl) xs s k z := by
 unfold bldS at hz
 obtain ⟨h2, hz2⟩ := q01 hz
 simp only [Bool.and_eq_true, beq_iff_eq] at h2
 obtain ⟨⟨rfl, h3⟩, h4⟩ := h2
 have h3 := qa5 h3
 subst h3
 obtain ⟨hd, hs0⟩ := qbk h4
 clear hz
 split at hz2
 ·rename_i l a hl
  split at hz2
  ·rename_i s1 hs1
   obtain ⟨cs, ids, g1, g2, g3, g4, g5⟩ := qpl hr hd pl vs 0 l a [] xs hl (Nat.zero_le _) (by simp) hx hk ha
   obtain ⟨fu, f1, f2, f3, f4, f5, f6, f7, f8, f9⟩ := qlj (s0 := s) rfl hr a s1 ids ids hs1 g3 g4
   refine ⟨_, _, _, hz2, fun cl => ⟨.c (.osl (szT t) s.next 0 len), (s.next, some (.arr (szT t) (l.map (q06 t)))) :: fu, ids, s.next + 1, ?_, ?_⟩⟩
   ·have hc : q6c (szT t) len (l.flatMap (q06 t)) = l.map (q06 t) := by
     have := qm9 (q09 t) l
     rwa [show l.length = len by simpa using g5] at this
    simp only [ev1, q59]
    have g1 : q7q (lits ((List.replicate len (zeL t)).flatten)) ((pl.map fun i => (i * szT t, szT t)).zip xs) = some cs := by simpa using g1
    rw [g1]
    simp only [g2, f1, hc]
   ·have hr1 : HR s1.next (fu ++ h1) s1.heap := by rw [f6]; exact f2
    have hd1 : Did s1 (qaq s1 (.ar t (.mk l) 0)) (fu ++ h1) (.c (.osl (szT t) s.next 0 len)) [(s1.next, some (.arr (szT t) (l.map (q06 t))))] ids (s.next + 1) (.so s1.next) a := by
     refine Did.new hr1 (.inl rfl) (fun _ => ⟨hd, hs0, fun l' e => by cases e; rfl⟩) trivial ?_ (Nat.lt_succ_self _) (fun i hi => (g3 i hi).1) (by rw [f6]; exact Nat.le_refl _)
     have := qmu (h := s1.heap) (t := t) (s := .mk l) (v := 0) (nx := s1.next)
     rw [f6] at this ⊢
     simpa [slC, show l.length = len by simpa using g5] using this
    rw [f6] at hd1
    exact Did.seq f3 f4 f5 f6 f7 f8 f9 (qr3 rfl hs1) hd1
  ·simp at hz2
 ·simp at hz2
theorem qog {ka va : Bool} {ks : List Kd} {zl : List Value} {id : Nat} {kv : V} {ya yk : TV} (hr : HR s.next h1 s.heap) (ha1 : tvR s.heap (.om id) ya) (hx : tvR s.heap kv yk)
  (hz : (match fO s.heap id with
  | some (.mp kt vt m) => (match cst kt kv with
   | some q => bif (agT kt == ka) && (agT vt == va) && decide (kdT kt = some ks) && qk6 (zeL vt) zl && dat vt && (va || szT vt == 1) then
     k (.tp (.co (.x vt (q73 m (zeE vt) q).2.1) (.co (.x (.i .i64) (q73 m (zeE vt) q).2.2) .ni))) (q4j s id (some (.mp kt vt (q73 m (zeE vt) q).1))) [id] else none
   | none => none)
  | _ => none) = some z) : Prt h1 (.mapEntry ka ks va zl) [ya, yk] s k z := by
 split at hz
 ·rename_i kt vt m ho
  split at hz
  ·rename_i q hq
   obtain ⟨hc, hz2⟩ := q01 hz
   simp only [Bool.and_eq_true, beq_iff_eq, decide_eq_true_eq] at hc
   obtain ⟨⟨⟨⟨⟨c1, c2⟩, c3⟩, c4⟩, c5⟩, c6⟩ := hc
   rw [qte ha1]
   obtain ⟨_, _, k3, _⟩ := qh8 kt ks c3
   have hzz : q0n zl = q06 vt (zeE vt) := by rw [qac vt c5, qa5 c4]
   have hv : ∀ y, qa6 va (q06 vt y) = some (tvx vt y) := fun y => qrt y c2 c6
   have hkt := qmf hx hq c3 c1
   have e3 := (hr.ob id _ ho).2.1.2.2
   rw [← c2] at c6
   have e4 : q02 h1 id = mpO ka va (vlE kt) (q06 vt) m := by rw [← c1, ← c2]; exact e3
   have hos : OSt (.mp kt vt m) (.mp kt vt (q73 m (zeE vt) q).1) := trivial
   refine .upd hr ho hos hz2 (fun cl => q14r (z := zeE vt) e4 hkt k3 hzz hv) ⟨c5, ⟨ks, c3⟩, by rw [c1, c2]; rfl⟩ trivial ?_ ⟨trivial, trivial, trivial⟩ fun i hi => hi
   exact ⟨_, rfl, _, _, rfl, qyo c5 c6, _, _, rfl, q16 rfl ⟨rfl, rfl⟩, rfl⟩
  ·simp at hz
 ·simp at hz
theorem qv8 : ∀ (l : List D), qrk (l.map .d) = some l := by
 intro l
 induction l with
 | nil => rfl
 | cons d l ih => simp [qrk, ih]
theorem qlr {va : Bool} {m0 id : Nat} {kd : IntKind} {st : Int} {w : V} {ya yw : TV} (hr : HR s.next h1 s.heap) (ha1 : tvR s.heap (.om id) ya) (hx : tvR s.heap w yw)
  (hz : (match fO s.heap id with
  | some (.mp kt vt m) => (match cst vt w with
   | some y => bif (agT vt == va) && (szT vt == m0) && dat vt then (qhm m st y).bind fun m => k (.tp .ni) (q4j s id (some (.mp kt vt m))) [id] else none
   | none => none)
  | _ => none) = some z) : Prt h1 (.entryStore va m0) [ya, tI kd st, yw] s k z := by
 split at hz
 ·rename_i kt vt m ho
  split at hz
  ·rename_i y hy
   obtain ⟨hc, hz2⟩ := q01 hz
   simp only [Bool.and_eq_true, beq_iff_eq] at hc
   obtain ⟨⟨rfl, rfl⟩, c3⟩ := hc
   obtain ⟨m', hm, hz3⟩ := bnd hz2
   rw [qte ha1]
   obtain ⟨_, hks, e3⟩ := (hr.ob id _ ho).2.1
   obtain ⟨g1, g2⟩ := qdx hx hy
   have hos : OSt (.mp kt vt m) (.mp kt vt m') := trivial
   have hcs : (cellsOf yw).bind qrk = some (q06 vt y) ∧ qhn yw = agT vt := by
    cases hag : agT vt with
    | true => rw [g1 hag]; exact ⟨by simp [cellsOf, qv8], rfl⟩
    | false =>
     obtain ⟨d, e, rfl⟩ := g2 hag
     exact ⟨by simp [cellsOf, qrk, e], rfl⟩
   refine .upd hr ho hos hz3 (fun cl => q13m (va := agT vt) (ek := vlE kt) (ka := agT kt) hm e3 hcs.1 (q09 vt y) hcs.2) ⟨c3, hks, rfl⟩ trivial qul trivial fun i hi => hi
  ·simp at hz
 ·simp at hz
end
end Go.Ev

/- Operations that may fail, or that make something, against the abstract machine's: all of them. Conditions: as stated. -/
namespace Go.Ev
section
variable {h : H2} {n : Nat} {h1 : q0k} {β : Type} {s : S2} {k : V → S2 → List Nat → Option β} {z : β}
theorem qe4 : ∀ {r : List V} {l : List Int} {xs : List TV}, qph r = some l → qas h r xs → ∃ ks : List IntKind, ks.length = l.length ∧ xs = (ks.zip l).map fun p => tI p.1 p.2 := by
 intro r
 induction r with
 | nil =>
  intro l xs hl hx
  obtain rfl : [] = l := by simpa [qph] using hl
  exact ⟨[], rfl, q4x hx⟩
 | cons v r ih =>
  intro l xs hl hx
  cases v with
  | x t v =>
   cases t with
   | i q =>
    simp only [qph] at hl
    split at hl
    ·rename_i l' hl'
     obtain rfl := Option.some.inj hl
     obtain ⟨x, ys, rfl, h1, h2⟩ := q1p hx
     obtain ⟨ks, h3, rfl⟩ := ih hl' h2
     exact ⟨q :: ks, by simp [h3], by rw [q68 h1]; rfl⟩
    ·simp at hl
   | _ => simp [qph] at hl
  | _ => simp [qph] at hl
theorem qx8 {r : List V} {xs : List TV} (hl : qph r = some []) (hx : qas h r xs) : xs = [] := by
 obtain ⟨ks, h1, rfl⟩ := qe4 hl hx
 cases ks <;> simp_all
theorem qnn {r : List V} {a : Int} {xs : List TV} (hl : qph r = some [a]) (hx : qas h r xs) : ∃ q, xs = [tI q a] := by
 obtain ⟨ks, h1, rfl⟩ := qe4 hl hx
 cases ks with
 | nil => simp at h1
 | cons q ks => exact ⟨q, by cases ks <;> simp_all⟩
theorem qxf {r : List V} {a b : Int} {xs : List TV} (hl : qph r = some [a, b]) (hx : qas h r xs) : ∃ q q', xs = [tI q a, tI q' b] := by
 obtain ⟨ks, h1, rfl⟩ := qe4 hl hx
 cases ks with
 | nil => simp at h1
 | cons q ks =>
  cases ks with
  | nil => simp at h1
  | cons q' ks => exact ⟨q, q', by cases ks <;> simp_all⟩
theorem qmq {x y : ByteArray} {lo hi : Option Int} (hs : qtx x (lo.getD 0) (hi.getD x.size) = some y) (sz : Nat) : q1b true sz (.d (dS x)) lo hi = some (.d (dS y)) := by
 unfold qtx at hs
 split at hs
 ·rename_i hb
  obtain rfl := Option.some.inj hs
  simp only [q1b, if_true]
  rw [if_pos hb]
 ·simp at hs
theorem qku {x : ByteArray} {r : List V} {lo hi : Bool} {sz : Nat} {y : TV} {ys : List TV} (hr : HR s.next h1 s.heap) (hy : tvR s.heap (.x .s x) y) (hys : qas s.heap r ys)
  (hz : (match lo, hi, qph r with
  | false, false, some [] => (qtx x 0 x.size).bind fun y => k (.x .s y) s []
  | true, false, some [l] => (qtx x l x.size).bind fun y => k (.x .s y) s []
  | false, true, some [u] => (qtx x 0 u).bind fun y => k (.x .s y) s []
  | true, true, some [l, u] => (qtx x l u).bind fun y => k (.x .s y) s []
  | _, _, _ => none) = some z) : Prt h1 (.slice true sz lo hi) (y :: ys) s k z := by
 rw [qjv hy]
 split at hz
 ·rename_i hi
  obtain rfl := qx8 hi hys
  obtain ⟨w, hw, hz2⟩ := bnd hz
  exact .pure hr hz2 (fun _ => by simp only [List.map_cons, List.map_nil, ev1]; rw [qmq (lo := none) (hi := none) hw]) (xs_ w) trivial
 ·rename_i l hi
  obtain ⟨q, rfl⟩ := qnn hi hys
  obtain ⟨w, hw, hz2⟩ := bnd hz
  exact .pure hr hz2 (fun _ => by simp only [List.map_cons, List.map_nil, ev1, intOf?]; rw [qmq (lo := some l) (hi := none) hw]) (xs_ w) trivial
 ·rename_i l hi
  obtain ⟨q, rfl⟩ := qnn hi hys
  obtain ⟨w, hw, hz2⟩ := bnd hz
  exact .pure hr hz2 (fun _ => by simp only [List.map_cons, List.map_nil, ev1, intOf?]; rw [qmq (lo := none) (hi := some l) hw]) (xs_ w) trivial
 ·rename_i l u hi
  obtain ⟨q, q', rfl⟩ := qxf hi hys
  obtain ⟨w, hw, hz2⟩ := bnd hz
  exact .pure hr hz2 (fun _ => by simp only [List.map_cons, List.map_nil, ev1, intOf?]; rw [qmq (lo := some l) (hi := some u) hw]) (xs_ w) trivial
 ·simp at hz
theorem qla {x : V} {r : List V} {lo hi : Bool} {sz : Nat} {y : TV} {ys : List TV} (hr : HR s.next h1 s.heap) (hy : tvR s.heap x y) (hk : okV s.next s.heap x) (ha : alv s.heap x = true) (hys : qas s.heap r ys)
  (hz : (match lo, hi, qph r, qz9 s.heap x with
  | false, false, some [], some n => qk3 sz s.heap x 0 n fun v => k v s []
  | true, false, some [l], some n => qk3 sz s.heap x l n fun v => k v s []
  | false, true, some [u], some _ => qk3 sz s.heap x 0 u fun v => k v s []
  | true, true, some [l, u], some _ => qk3 sz s.heap x l u fun v => k v s []
  | _, _, _, _ => none) = some z) : Prt h1 (.slice false sz lo hi) (y :: ys) s k z := by
 split at hz
 ·rename_i m hi hm
  obtain rfl := qx8 hi hys
  obtain ⟨v, c, c', rfl, h3, h4, h5, h6⟩ := qmi (lo := none) (hi := none) hr hy hk ha hm hz
  exact .pure hr h3 (fun _ => by simp only [List.map_cons, List.map_nil, ev1]; rw [h4]) h5 h6
 ·rename_i l m hi hm
  obtain ⟨q, rfl⟩ := qnn hi hys
  obtain ⟨v, c, c', rfl, h3, h4, h5, h6⟩ := qmi (lo := some l) (hi := none) hr hy hk ha hm hz
  exact .pure hr h3 (fun _ => by simp only [List.map_cons, List.map_nil, ev1, intOf?]; rw [h4]) h5 h6
 ·rename_i u m hi hm
  obtain ⟨q, rfl⟩ := qnn hi hys
  obtain ⟨v, c, c', rfl, h3, h4, h5, h6⟩ := qmi (lo := none) (hi := some u) hr hy hk ha hm hz
  exact .pure hr h3 (fun _ => by simp only [List.map_cons, List.map_nil, ev1, intOf?]; rw [h4]) h5 h6
 ·rename_i l u m hi hm
  obtain ⟨q, q', rfl⟩ := qxf hi hys
  obtain ⟨v, c, c', rfl, h3, h4, h5, h6⟩ := qmi (lo := some l) (hi := some u) hr hy hk ha hm hz
  exact .pure hr h3 (fun _ => by simp only [List.map_cons, List.map_nil, ev1, intOf?]; rw [h4]) h5 h6
 ·simp at hz
theorem qoa {o : OP} {vs : List V} {xs : List TV} (hp : part o vs s k = some z) (hr : HR s.next h1 s.heap) (hx : qas s.heap vs xs) (hk : ∀ w ∈ vs, okV s.next s.heap w) (ha : ∀ w ∈ vs, alv s.heap w = true) : Prt h1 o.o.k xs s k z := by
 obtain ⟨⟨d, kk, args, g⟩, t, fi⟩ := o
 simp only
 unfold part at hp
 simp only at hp
 split at hp
 ·-- quo
  obtain ⟨x, y, rfl, h2, h3⟩ := q3m hx
  rw [q68 h2, q68 h3]
  obtain ⟨hq, hp2⟩ := q01 hp
  simp only [decide_eq_true_eq] at hq
  subst hq
  obtain ⟨r, hr2, hz⟩ := bnd hp2
  exact .pure hr hz (fun _ => q11h hr2) (xi _ _) trivial
 ·obtain ⟨x, y, rfl, h2, h3⟩ := q3m hx
  rw [q68 h2, q68 h3]
  obtain ⟨hq, hp2⟩ := q01 hp
  simp only [decide_eq_true_eq] at hq
  subst hq
  obtain ⟨r, hr2, hz⟩ := bnd hp2
  exact .pure hr hz (fun _ => q11u hr2) (xi _ _) trivial
 ·obtain ⟨x, y, rfl, h2, h3⟩ := q3m hx
  rw [q68 h2, q68 h3]
  obtain ⟨r, hr2, hz⟩ := bnd hp
  exact .pure hr hz (fun _ => q128 hr2) (xi _ _) trivial
 ·obtain ⟨x, y, rfl, h2, h3⟩ := q3m hx
  rw [q68 h2, q68 h3]
  obtain ⟨r, hr2, hz⟩ := bnd hp
  exact .pure hr hz (fun _ => q110 hr2) (xi _ _) trivial
 ·obtain ⟨x, y, rfl, h2, h3⟩ := q3m hx
  rw [qjv h2, qjv h3]
  obtain ⟨r, hr2, hz⟩ := bnd hp
  exact .pure hr hz (fun _ => q12r hr2) (xs_ _) trivial
 ·-- alloc
  rename_i zl
  obtain rfl := q4x hx
  obtain ⟨hq, hp2⟩ := q01 hp
  simp only [Bool.and_eq_true] at hq
  obtain ⟨q1, q2⟩ := hq
  have q1 := qa5 q1
  subst q1
  refine .new (ids := []) hr hp2 (x := .c (.op s.next 0)) (fun _ => rfl) ⟨_, rfl, ?_, q2⟩ ?_ (q0h (q16 rfl (by cases t <;> rfl))) ⟨Nat.lt_succ_self _, by cases t <;> trivial⟩ fun i hi => by simp at hi
  ·exact ((qha (h := (s.next, some (.bx t (zeV t))) :: s.heap) (n := s.next + 1) t).1 q2).1
  ·exact ((qha (h := (s.next, some (.bx t (zeV t))) :: s.heap) (n := s.next + 1) t).1 q2).2
 ·-- box
  obtain ⟨x, rfl, h2⟩ := q3z hx
  split at hp
  ·rename_i w hw
   obtain ⟨cw, e1, e2⟩ := q94 (qa1 (qt7 hw) h2)
   obtain ⟨q1, q2, q3, _⟩ := qgz hw e1 (hk _ (by simp))
   refine .new (ids := []) hr hp (x := .c (.op s.next 0)) (fun _ => by simp only [List.map_cons, List.map_nil, ev1, e2]) ⟨_, rfl, q4b (HSt.new _) q3 q1, q2⟩ (q1q (Nat.le_succ _) (HSt.new _) q3) (q0h (q16 rfl (by cases t <;> rfl))) ⟨Nat.lt_succ_self _, by cases t <;> trivial⟩ fun i hi => by simp at hi
  ·simp at hp
 ·exact qm6 hp hr hx hk ha
 ·-- store
  obtain ⟨x, y, rfl, h2, h3⟩ := q3m hx
  exact qko hr h2 (hk _ (by simp)) h3 (hk _ (by simp)) hp
 ·obtain ⟨x, y, rfl, h2, h3⟩ := q3m hx
  exact qlu hr h2 (hk _ (by simp)) h3 (hk _ (by simp)) (ha _ (by simp)) hp
 ·-- makeSlice
  rename_i zl _ l _ c
  obtain ⟨x, y, rfl, h2, h3⟩ := q3m hx
  rw [q68 h2, q68 h3]
  obtain ⟨hq, hp2⟩ := q01 hp
  simp only [Bool.and_eq_true] at hq
  obtain ⟨q1, q2⟩ := hq
  have q1 := qa5 q1
  subst q1
  obtain ⟨hd, hs0⟩ := qbk q2
  obtain ⟨r, hr2, hz⟩ := bnd hp2
  have hzl : q0n (zeL t) = q06 t (zeE t) := (qac t hd).symm
  have hlen : (zeL t).length = szT t := by
   have := congrArg List.length hzl
   rwa [q09, q0n, List.length_map] at this
  refine .new hr hz (fun _ => qxz hzl hr2) ⟨hd, hs0, fun l' e => by cases e; rw [hlen]⟩ trivial ?_ (Nat.lt_succ_self _) fun i hi => by simp at hi
  rw [hlen]
  exact qmu (s := .mk r)
 ·-- slice of a string
  obtain ⟨y, ys, rfl, h2, h3⟩ := q1p hx
  exact qku hr h2 h3 hp
 ·obtain ⟨y, ys, rfl, h2, h3⟩ := q1p hx
  exact qla hr h2 (hk _ (by simp)) (ha _ (by simp)) h3 hp
 ·obtain ⟨x, y, rfl, h2, h3⟩ := q3m hx
  rw [q68 h3]
  exact qvu hp hr h2 (hk _ (by simp)) (ha _ (by simp))
 ·obtain ⟨x, y, rfl, h2, h3⟩ := q3m hx
  rw [q68 h3]
  exact quv hp hr h2 (hk _ (by simp))
 ·-- indexStr
  obtain ⟨x, y, rfl, h2, h3⟩ := q3m hx
  rw [qjv h2, q68 h3]
  obtain ⟨r, hr2, hz⟩ := bnd hp
  exact .pure hr hz (fun _ => q14c hr2) (xi _ _) trivial
 ·-- index
  rename_i ag n0 sz0 n' u v _ i
  obtain ⟨x, y, rfl, h2, h3⟩ := q3m hx
  rw [q68 h3]
  obtain ⟨hq, hp2⟩ := q01 hp
  simp only [Bool.and_eq_true, beq_iff_eq] at hq
  obtain ⟨⟨⟨⟨rfl, rfl⟩, q3⟩, q4⟩, q5⟩ := hq
  obtain ⟨m, hm, hz⟩ := bnd hp2
  obtain ⟨rfl, hm2⟩ := q41.1 hm
  rw [ag_x h2]
  obtain ⟨a1, a2⟩ := qnp v hm2
  have hc : chk s.heap ag (szT u) (.x u (gt v.1 m)) = true := by simp [chk, agV, szV, alv, q3, q4, q5]
  obtain ⟨x, e1, e2⟩ := q7x (cs := (q06 (.ar n' u) v).map .d) (off := m * szT u) (cw := (q06 u (gt v.1 m)).map .d) hc ⟨q4, rfl⟩ (by simpa using a1) (by rw [← List.map_drop, ← List.map_take, a2])
  refine .pure hr hz (x := x) (fun _ => ?_) e2 trivial
  simp only [List.map_cons, List.map_nil, ev1, intOf?]
  rw [if_pos ⟨by omega, by omega⟩]
  simp only [Int.toNat_natCast, e1]
 ·-- append
  obtain ⟨x, y, rfl, h2, h3⟩ := q3m hx
  exact qm3 (t0 := t) hp hr h2 (hk _ (by simp)) (ha _ (by simp)) h3 (hk _ (by simp)) (ha _ (by simp))
 ·obtain ⟨x, y, rfl, h2, h3⟩ := q3m hx
  exact qqv (t0 := t) hp hr h2 (hk _ (by simp)) (ha _ (by simp)) h3 (hk _ (by simp)) (ha _ (by simp))
 ·-- clear
  obtain ⟨y, rfl, h2⟩ := q3z hx
  exact qq0 hp hr h2 (hk _ (by simp)) (ha _ (by simp))
 ·-- makeMap
  obtain rfl := q4x hx
  split at hp
  ·rename_i kt vt
   obtain ⟨hq, hp2⟩ := q01 hp
   simp only [Bool.and_eq_true, beq_iff_eq] at hq
   obtain ⟨⟨⟨rfl, rfl⟩, q3⟩, q4⟩ := hq
   obtain ⟨ks, hks⟩ := Option.isSome_iff_exists.1 q4
   exact .new hr hp2 (x := .c (.om s.next)) (fun _ => rfl) ⟨q3, ⟨ks, hks⟩, rfl⟩ trivial (q0h (q16 rfl rfl)) (Nat.lt_succ_self _) fun i hi => by simp at hi
  ·simp at hp
 ·obtain ⟨x, y, rfl, h2, h3⟩ := q3m hx
  exact qog hr h2 h3 hp
 ·obtain ⟨x, y, w, rfl, h2, h3, h4⟩ := q11o hx
  rw [q68 h3]
  exact qlr hr h2 h4 hp
 ·simp at hp
end
end Go.Ev
