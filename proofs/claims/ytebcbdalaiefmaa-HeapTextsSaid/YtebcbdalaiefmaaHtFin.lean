/- The statement HeapTextsSaid: from the law's program to what is asked. Conditions: none. -/
import Derived.Test.YtebcbdalaiefmaaHtTexts
import Derived.Test.YtebcbdalaiefmaaEvY
import Derived.Test.YtebcbdalaiefmaaRows
import Derived.JoinedOf
import Derived.Handed
open Go.Ev Go
open Go.ChangeShapes Go.WideShapes Go.ChangeAt Go.RowKit
namespace Go.Proofs.Ytebcbdalaiefmaa.H
theorem heapTexts_contract (H : Type) (en : TypeId × Value → H) (W : World) (base : Nat) (args : Array Value) (ds gs : List (DataW H)) (before : List MemPlace)
    (hval : ∀ (j : Nat) t v, Try.f5.params[j]? = some t → args[j]? = some v → Value.okWide Try.prog W .any base t v)
    (hW : DataW.Whole en Try.prog Try.f5.params.toList Rows.heapTextsSpec.vars false W args.toList ds gs before) :
    Calls Try.prog 5 args W fun e W' => ∃ v, e = .returned v ∧ Rows.heapTextsSpec.post en Try.prog Try.f5 false true false false W args v W' := by
  have hW' := hW
  obtain ⟨p, q, hA0, hV, hpq, hfz, hnd⟩ := hW
  have hA : DataW.TrodAll en Try.prog W 0 (fun _ => true) true Try.f5.params.toList args.toList ds p := hA0
  rw [Try.params5] at hA hval
  obtain ⟨v0, vs0, d0, ds0, p0, q0, hargs, rfl, rfl, h0, r0⟩ := trodAll_cons hA
  obtain ⟨v1, vs1, d1, ds1, p1, q1, rfl, rfl, rfl, h1, r1⟩ := trodAll_cons r0
  obtain ⟨rfl, rfl, rfl⟩ := trodAll_nil r1
  obtain rfl : args = #[v0, v1] := by cases args; simp_all
  obtain ⟨rfl, rfl⟩ := trodVars_none hV
  obtain ⟨a0, fit0, ra0⟩ := arg_d (opens_slice (enc := cS) Try.underlying45 (show prog.cellsOf 9 = 1 by kernel_rfl) (by decide) (fun _ => rfl) (opens_string Try.underlying9)) (hval 0 45 v0 rfl rfl) (by rw [Try.underlying45]; trivial) h0
  obtain ⟨a1, fit1, ra1⟩ := arg_d (opens_string Try.underlying9) (hval 1 9 v1 rfl rfl) (by rw [Try.underlying9]; trivial) h1
  exact contract (by kernel_rfl) Try.func5 rfl (by kernel_rfl) (by kernel_rfl) rfl Try.underlying4 rfl hW' ⟨rfl, rfl, rfl⟩ ⟨_, (ras_cons ra0 (ras_cons ra1 ras_nil)), law13_HeapTexts_ok (texts a0 a1)⟩

theorem heapTexts_own : ownKnob Try.prog.godebug = none := by kernel_rfl
set_option maxRecDepth 100000 in
theorem heapTexts_lifted (os : Os) (started : os.Started) (H : Type) (en : TypeId × Value → H) :
    ReturnsInHanded {} Try.checked os 5 .any (Rows.heapTextsSpec.pre6 en Try.prog Try.f5 Rows.heapTextsRow.domain false) (Rows.heapTextsSpec.post en Try.prog Try.f5 false true false false) := by
  refine returnsInHanded_of_change (C := Try.checked) heapTexts_own started (by kernel_rfl) Try.func5
    (ChangeSpec.witness6 (enc := en) (C := Try.checked) false ⟨#[], #[(.slice none 0 0), (.string ⟨#[]⟩)], []⟩ 8 (by kernel_rfl) (by kernel_rfl) (by kernel_rfl) (by kernel_rfl)) ?_
  intro W base args ds gs before hval hW _ _
  exact heapTexts_contract H en W base args ds gs before hval hW
theorem heapTexts_holds : Rows.HeapTextsSaid :=
  OpenClaim.holds_of_wide 5 Try.f5 rfl rfl rfl rfl rfl rfl rfl ⟨rfl, rfl, rfl, rfl, rfl⟩ rfl rfl rfl rfl rfl (by kernel_rfl) Try.func5 (by kernel_rfl)
    (of_decide_eq_true (by kernel_rfl)) (by unfold Func.isWrapper; first | (rw [if_pos (by decide +kernel)]; kernel_rfl) | (rw [if_neg (by decide +kernel)]; exact ⟨rfl, rfl⟩))
    (fun os started H en _ => heapTexts_lifted os started H en)
#print axioms heapTexts_holds
end Go.Proofs.Ytebcbdalaiefmaa.H
