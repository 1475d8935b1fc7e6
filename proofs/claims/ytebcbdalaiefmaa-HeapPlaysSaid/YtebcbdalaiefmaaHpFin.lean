/- The statement HeapPlaysSaid: from the law's program to what is asked. Conditions: none. -/
import Derived.Test.YtebcbdalaiefmaaHpPlays
import Derived.Test.YtebcbdalaiefmaaEvY
import Derived.Test.YtebcbdalaiefmaaRows
import Derived.JoinedOf
import Derived.Handed
open Go.Ev Go
open Go.ChangeShapes Go.WideShapes Go.ChangeAt Go.RowKit
namespace Go.Proofs.Ytebcbdalaiefmaa.H
theorem opens_law13_Deed : Opens prog 32 c_law13_Deed (fun x => (IntKind.min .i64 ≤ x.Kind ∧ x.Kind ≤ IntKind.max .i64) ∧ (IntKind.min .i64 ≤ x.N ∧ x.N ≤ IntKind.max .i64)) := by
  intro H en w fuel cs x h
  have hl := struct_len Try.underlying32 h
  rw [show prog.cellsOf 32 = 2 by kernel_rfl] at hl
  obtain ⟨a0, f0, c0⟩ := opens_field Try.underlying32 h (i := 0) rfl (opens_int Try.underlying3)
  replace c0 : Cells w ((cs.drop 0).take (prog.cellsOf 3)) (cI_i64 a0) := c0
  rw [show prog.cellsOf 3 = 1 by kernel_rfl] at c0
  obtain ⟨a1, f1, c1⟩ := opens_field Try.underlying32 h (i := 1) rfl (opens_int Try.underlying3)
  replace c1 : Cells w ((cs.drop 1).take (prog.cellsOf 3)) (cI_i64 a1) := c1
  rw [show prog.cellsOf 3 = 1 by kernel_rfl] at c1
  have e0 : Cells w (cs.drop 2) [] := Cells.nil (by rw [List.length_drop, hl])
  exact ⟨⟨a0, a1⟩, ⟨f0, f1⟩, (Cells.field c0 (by rfl) (Cells.field c1 (by rfl) e0 (by rw [hl]; decide)) (by rw [hl]; decide))⟩

theorem heapPlays_contract (H : Type) (en : TypeId × Value → H) (W : World) (base : Nat) (args : Array Value) (ds gs : List (DataW H)) (before : List MemPlace)
    (hval : ∀ (j : Nat) t v, Try.f4.params[j]? = some t → args[j]? = some v → Value.okWide Try.prog W .any base t v)
    (hW : DataW.Whole en Try.prog Try.f4.params.toList Rows.heapPlaysSpec.vars false W args.toList ds gs before) :
    Calls Try.prog 4 args W fun e W' => ∃ v, e = .returned v ∧ Rows.heapPlaysSpec.post en Try.prog Try.f4 false true false false W args v W' := by
  have hW' := hW
  obtain ⟨p, q, hA0, hV, hpq, hfz, hnd⟩ := hW
  have hA : DataW.TrodAll en Try.prog W 0 (fun _ => true) true Try.f4.params.toList args.toList ds p := hA0
  rw [Try.params4] at hA hval
  obtain ⟨v0, vs0, d0, ds0, p0, q0, hargs, rfl, rfl, h0, r0⟩ := trodAll_cons hA
  obtain ⟨rfl, rfl, rfl⟩ := trodAll_nil r0
  obtain rfl : args = #[v0] := by cases args; simp_all
  obtain ⟨rfl, rfl⟩ := trodVars_none hV
  obtain ⟨a0, fit0, ra0⟩ := arg_d (opens_slice (enc := c_law13_Deed) Try.underlying30 (show prog.cellsOf 32 = 2 by kernel_rfl) (by decide) (fun _ => rfl) opens_law13_Deed) (hval 0 30 v0 rfl rfl) (by rw [Try.underlying30]; trivial) h0
  exact contract (by kernel_rfl) Try.func4 rfl (by kernel_rfl) (by kernel_rfl) rfl Try.underlying4 rfl hW' ⟨rfl, rfl, rfl⟩ ⟨_, (ras_cons ra0 ras_nil), law13_HeapPlays_ok (plays a0)⟩

theorem heapPlays_own : ownKnob Try.prog.godebug = none := by kernel_rfl
set_option maxRecDepth 100000 in
theorem heapPlays_lifted (os : Os) (started : os.Started) (H : Type) (en : TypeId × Value → H) :
    ReturnsInHanded {} Try.checked os 4 .any (Rows.heapPlaysSpec.pre6 en Try.prog Try.f4 Rows.heapPlaysRow.domain false) (Rows.heapPlaysSpec.post en Try.prog Try.f4 false true false false) := by
  refine returnsInHanded_of_change (C := Try.checked) heapPlays_own started (by kernel_rfl) Try.func4
    (ChangeSpec.witness6 (enc := en) (C := Try.checked) false ⟨#[], #[(.slice none 0 0)], []⟩ 8 (by kernel_rfl) (by kernel_rfl) (by kernel_rfl) (by kernel_rfl)) ?_
  intro W base args ds gs before hval hW _ _
  exact heapPlays_contract H en W base args ds gs before hval hW
theorem heapPlays_holds : Rows.HeapPlaysSaid :=
  OpenClaim.holds_of_wide 4 Try.f4 rfl rfl rfl rfl rfl rfl rfl ⟨rfl, rfl, rfl, rfl, rfl⟩ rfl rfl rfl rfl rfl (by kernel_rfl) Try.func4 (by kernel_rfl)
    (of_decide_eq_true (by kernel_rfl)) (by unfold Func.isWrapper; first | (rw [if_pos (by decide +kernel)]; kernel_rfl) | (rw [if_neg (by decide +kernel)]; exact ⟨rfl, rfl⟩))
    (fun os started H en _ => heapPlays_lifted os started H en)
#print axioms heapPlays_holds
end Go.Proofs.Ytebcbdalaiefmaa.H
