/- The statement GraphTellsCardSaid: from the law's program to what is asked. Conditions: none. -/
import Derived.Test.YtjfhiochcdjkhaaDoorG5R
import Derived.Test.YtjfhiochcdjkhaaDoorEvY
import Derived.Test.YtjfhiochcdjkhaaDoorCards
import Derived.Test.YtjfhiochcdjkhaaDoorTie
import Derived.WalkKit
import Derived.ProofKit
import Derived.OpenShut
import Derived.Deep.DeepHandedRow
import Derived.Lib.LaidTab
open Go.Ev Go
open Go.ChangeShapes Go.WideShapes Go.ChangeAt Go.RowKit
namespace Go.Proofs.YtjfhiochcdjkhaaDoor.G
theorem opens_ref20_Edge : Opens prog 40 c_ref20_Edge (fun x => (IntKind.min .i64 ≤ x.From ∧ x.From ≤ IntKind.max .i64) ∧ (IntKind.min .i64 ≤ x.To ∧ x.To ≤ IntKind.max .i64)) := by
  intro H en w fuel cs x h
  have hl := struct_len Tryd.underlying40 h
  rw [show prog.cellsOf 40 = 2 by kernel_rfl] at hl
  obtain ⟨a0, f0, c0⟩ := opens_field Tryd.underlying40 h (i := 0) rfl (opens_int Tryd.underlying3)
  replace c0 : Cells w ((cs.drop 0).take (prog.cellsOf 3)) (cI_i64 a0) := c0
  rw [show prog.cellsOf 3 = 1 by kernel_rfl] at c0
  obtain ⟨a1, f1, c1⟩ := opens_field Tryd.underlying40 h (i := 1) rfl (opens_int Tryd.underlying3)
  replace c1 : Cells w ((cs.drop 1).take (prog.cellsOf 3)) (cI_i64 a1) := c1
  rw [show prog.cellsOf 3 = 1 by kernel_rfl] at c1
  have e0 : Cells w (cs.drop 2) [] := Cells.nil (by rw [List.length_drop, hl])
  exact ⟨⟨a0, a1⟩, ⟨f0, f1⟩, (Cells.field c0 (by rfl) (Cells.field c1 (by rfl) e0 (by rw [hl]; decide)) (by rw [hl]; decide))⟩

theorem gTab : Tryd.prog.globalNamed "math/bits.deBruijn32tab" = some 0 := by kernel_rfl
theorem gTabType : (Tryd.prog.globals[0]?).map (·.type) = some 52 := by kernel_rfl
theorem cellsA : Tryd.prog.cellsOf 52 = 32 := by kernel_rfl
theorem cellsE : Tryd.prog.cellsOf 5 = 1 := by kernel_rfl
theorem table {W : World} (h : laidMetH Tryd.prog Rows.graphTellsRow.laid W) : Lib.TabIs Tryd.prog W "math/bits.deBruijn32tab" .u8 [0, 1, 28, 2, 29, 14, 24, 3, 30, 22, 20, 15, 25, 17, 4, 8, 31, 27, 13, 23, 21, 19, 16, 7, 26, 12, 18, 6, 11, 5, 10, 9] :=
  Lib.tabIs_of_head (rest := []) gTab gTabType Tryd.underlying52 Tryd.underlying5 cellsE cellsA h
theorem glob_row {W : World} (h : laidMetH Tryd.prog Rows.graphTellsRow.laid W) : Glob (S0 W) W := by
  have hc := fun j hj => (table h).cell gTab j hj
  refine glob_tab (k := .u8) (l := [0, 1, 28, 2, 29, 14, 24, 3, 30, 22, 20, 15, 25, 17, 4, 8, 31, 27, 13, 23, 21, 19, 16, 7, 26, 12, 18, 6, 11, 5, 10, 9]) (fun g d hg => ?_) ?_ (fun j x hx => ?_)
  · unfold glb at hg
    split at hg
    · rename_i h0
      exact ⟨h0, (Option.some.inj hg).symm⟩
    · simp at hg
  · have h0 := hc 0 (by decide)
    cases hs : W.heap[0]? with
    | none => simp [World.cell?, hs] at h0
    | some o => exact (Array.getElem?_eq_some_iff.1 hs).1
  · obtain ⟨hj, e⟩ := List.getElem?_eq_some_iff.1 hx
    rw [hc j hj, List.getD_eq_getElem?_getD, hx]; rfl

set_option maxRecDepth 100000 in
theorem graphTells_contract (H : Type) (en : TypeId × Value → H) (W : World) (base : Nat) (args : Array Value) (ds gs : List (DataW H)) (before : List MemPlace)
    (hval : ∀ (j : Nat) t v, Tryd.f3.params[j]? = some t → args[j]? = some v → Value.okWide Tryd.prog W .any base t v)
    (hW : DataW.Whole en Tryd.prog Tryd.f3.params.toList Rows.graphTellsSpec.vars false W args.toList ds gs before) (hL : laidMetH Tryd.prog Rows.graphTellsRow.laid W) :
    Calls Tryd.prog 3 args W fun e W' => ∃ v, e = .returned v ∧ Rows.graphTellsSpec.post en Tryd.prog Tryd.f3 false true false false W args v W' := by
  have hW' := hW
  obtain ⟨p, q, hA0, hV, hpq, hfz, hnd⟩ := hW
  have hA : DataW.TrodAll en Tryd.prog W 0 (fun _ => true) true Tryd.f3.params.toList args.toList ds p := hA0
  rw [Tryd.params3] at hA hval
  obtain ⟨v0, vs0, d0, ds0, p0, q0, hargs, rfl, rfl, h0, r0⟩ := trodAll_cons hA
  obtain ⟨v1, vs1, d1, ds1, p1, q1, rfl, rfl, rfl, h1, r1⟩ := trodAll_cons r0
  obtain ⟨v2, vs2, d2, ds2, p2, q2, rfl, rfl, rfl, h2, r2⟩ := trodAll_cons r1
  obtain ⟨rfl, rfl, rfl⟩ := trodAll_nil r2
  obtain rfl : args = #[v0, v1, v2] := by cases args; simp_all
  obtain ⟨rfl, rfl⟩ := trodVars_none hV
  obtain ⟨a0, fit0, ra0⟩ := arg_d (opens_int Tryd.underlying3) (hval 0 3 v0 rfl rfl) (by rw [Tryd.underlying3]; trivial) h0
  obtain ⟨a1, fit1, ra1⟩ := arg_d (opens_slice (enc := c_ref20_Edge) Tryd.underlying22 (show prog.cellsOf 40 = 2 by kernel_rfl) (by decide) (fun _ => rfl) opens_ref20_Edge) (hval 1 22 v1 rfl rfl) (by rw [Tryd.underlying22]; trivial) h1
  obtain ⟨a2, fit2, ra2⟩ := arg_d (opens_int Tryd.underlying3) (hval 2 3 v2 rfl rfl) (by rw [Tryd.underlying3]; trivial) h2
  exact contract (by kernel_rfl) Tryd.func3 rfl (by kernel_rfl) (by kernel_rfl) rfl Tryd.underlying4 rfl hW' ⟨rfl, rfl, rfl⟩ (glob_row hL) ⟨_, (ras_cons ra0 (ras_cons ra1 (ras_cons ra2 ras_nil))), law20_GraphTells_ok (tells a0 a1 a2)⟩

theorem own : ownKnob Tryd.prog.godebug = none := by kernel_rfl
noncomputable def laidWorld (os : Os) : World :=
  { World.holding Tryd.prog os ⟨#[], #[], []⟩ with heap := (World.holding Tryd.prog os ⟨#[], #[], []⟩).heap.modify 0 fun
      | .cells _ t frozen => .cells #[.int .u8 0, .int .u8 1, .int .u8 28, .int .u8 2, .int .u8 29, .int .u8 14, .int .u8 24, .int .u8 3, .int .u8 30, .int .u8 22, .int .u8 20, .int .u8 15, .int .u8 25, .int .u8 17, .int .u8 4, .int .u8 8, .int .u8 31, .int .u8 27, .int .u8 13, .int .u8 23, .int .u8 21, .int .u8 19, .int .u8 16, .int .u8 7, .int .u8 26, .int .u8 12, .int .u8 18, .int .u8 6, .int .u8 11, .int .u8 5, .int .u8 10, .int .u8 9] t frozen
      | o => o }
theorem laid_met (os : Os) : laidMet Tryd.prog Rows.graphTellsRow.laid ((laidWorld os).forCall (fun _ _ => 0) ⟨#[], #[(.int .i64 0), (.slice none 0 0), (.int .i64 0)], []⟩).memory :=
  laidMet_of_run' 8 (by kernel_rfl) (by kernel_rfl)
theorem reads (os : Os) {H : Type} (enc : TypeId × Value → H) : ∃ places, DataW.whole enc Tryd.prog ((laidWorld os).forCall (fun _ _ => 0) ⟨#[], #[(.int .i64 0), (.slice none 0 0), (.int .i64 0)], []⟩).memory Tryd.f3.params.toList Rows.graphTellsSpec.vars false (#[(.int .i64 0), (.slice none 0 0), (.int .i64 0)] : Array Value).toList 8 = some ([.lit (.int .i64 0), .nil, .lit (.int .i64 0)], [], places) :=
  ⟨[], by kernel_rfl⟩
set_option maxRecDepth 100000 in
theorem lifted (os : Os) (started : os.Started) (H : Type) (enc : TypeId × Value → H) (F : Stop.Interp) :
    ReturnsInHanded {} Tryd.checked os 3 .any ((OpenSpec.ofChange Rows.graphTellsSpec).preRow enc Tryd.prog Tryd.f3 Rows.graphTellsRow.domain false Rows.graphTellsRow.laid) (((OpenSpec.ofChange Rows.graphTellsSpec).at F).post enc Tryd.prog Tryd.f3 false true false false) := by
  obtain ⟨places, hx⟩ := reads os enc
  refine returnsInHanded_of_row (C := Tryd.checked) (s := OpenSpec.ofChange Rows.graphTellsSpec) own started (by kernel_rfl) Tryd.func3
    (witness_row_at (enc := enc) (C := Tryd.checked) false (laidWorld os) #[(.int .i64 0), (.slice none 0 0), (.int .i64 0)] rfl (by kernel_rfl) (by kernel_rfl) (by kernel_rfl)
      (OpenSpec.preRow_of_cond 8 hx (by kernel_rfl) (fun k hk => by cases hk) (by kernel_rfl) (laid_met os))) ?_
  intro W base args ds gs before hval hW _ _ _ hL _ _
  exact graphTells_contract H enc W base args ds gs before hval hW hL
set_option maxRecDepth 100000 in
theorem said : Rows.GraphTellsSaid :=
  OpenClaim.holds_of_cond 3 Tryd.f3 rfl rfl rfl rfl rfl rfl rfl ⟨rfl, rfl, rfl, rfl, rfl⟩ rfl rfl rfl rfl rfl (by kernel_rfl) Tryd.func3 (by kernel_rfl)
    (of_decide_eq_true (by kernel_rfl)) (by unfold Func.isWrapper; first | (rw [if_pos (by decide +kernel)]; kernel_rfl) | (rw [if_neg (by decide +kernel)]; exact ⟨rfl, rfl⟩))
    (fun os started H enc _ F => by rw [OpenClaim.pre_eq_preRow]; exact lifted os started H enc F)
theorem plain (f : FuncId) (fn : Func) (hf : Tryd.pinned.checked.prog.funcNamed "turnout/turnoutlaw20.GraphTells" = some f) (hfn : Tryd.pinned.checked.prog.funcs[f]? = some fn) :
    false = Tryd.pinned.checked.prog.looks [] ∧ ∀ (j : Nat) t, fn.params[j]? = some t → Tryd.pinned.checked.prog.wantsStandIn t = false := by
  obtain rfl : f = 3 := Option.some.inj ((show Tryd.prog.funcNamed "turnout/turnoutlaw20.GraphTells" = some 3 by kernel_rfl).symm.trans hf) |>.symm
  obtain rfl : fn = Tryd.f3 := (Option.some.inj (Tryd.func3.symm.trans hfn)).symm
  refine ⟨by kernel_rfl, fun j t ht => ?_⟩
  rw [Tryd.params3] at ht
  have w3 : Tryd.prog.wantsStandIn 3 = false := by kernel_rfl
  have w22 : Tryd.prog.wantsStandIn 22 = false := by kernel_rfl
  have hm : t ∈ [3, 22, 3] := by have := Array.mem_of_getElem? ht; simpa using this
  simp only [List.mem_cons, List.not_mem_nil, or_false] at hm
  rcases hm with rfl | rfl | rfl
  · exact w3
  · exact w22
  · exact w3
theorem graphTells_holds : Rows.GraphTellsCardSaid :=
  Claim7.holds_tied_plain_at .later [] _ _ _ _ said (fun _ h => by cases h) (by kernel_rfl) (fun _ h => by cases h) graphTells_row_tie rfl ⟨rfl, rfl⟩ (by kernel_rfl) rfl plain (by kernel_rfl)
#print axioms graphTells_holds
end Go.Proofs.YtjfhiochcdjkhaaDoor.G
