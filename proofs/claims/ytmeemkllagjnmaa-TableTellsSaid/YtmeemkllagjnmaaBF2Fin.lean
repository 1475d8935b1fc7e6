/- The statement TableTellsSaid: from the law's program to what is asked. Conditions: none. -/
import Derived.Test.YtmeemkllagjnmaaBF2
import Derived.Test.YtmeemkllagjnmaaKm
import Derived.Test.YtmeemkllagjnmaaRows
import Derived.JoinedOf
import Derived.Handed
open Go.Ev Go
open Go.ChangeShapes Go.WideShapes Go.ChangeAt Go.RowKit
namespace Go.Proofs.Ytmeemkllagjnmaa.B
theorem tableTells_spec {H : Type} {en : TypeId × Value → H} {W : World} {args : Array Value} (ds gs : List (DataW H)) {before : List MemPlace} (hW : DataW.Whole en Try.prog Try.f7.params.toList Rows.tableTellsSpec.vars false W args.toList ds gs before) :
  (Rows.tableTellsSpec.fn H (ds ++ gs)).results = [.lit (.bool true)] ∧ (Rows.tableTellsSpec.fn H (ds ++ gs)).args = ds ∧ (Rows.tableTellsSpec.fn H (ds ++ gs)).vars = [] := by
 obtain ⟨p, q, hA0, hV, _⟩ := hW
 have hA : DataW.TrodAll en Try.prog W 0 (fun _ => true) true Try.f7.params.toList args.toList ds p := hA0
 rw [Try.params7] at hA
 obtain ⟨v0, vs0, d0, ds0, p0, q0, _, rfl, rfl, h0, r0⟩ := trodAll_cons hA
 obtain ⟨v1, vs1, d1, ds1, p1, q1, _, rfl, rfl, h1, r1⟩ := trodAll_cons r0
 obtain ⟨v2, vs2, d2, ds2, p2, q2, _, rfl, rfl, h2, r2⟩ := trodAll_cons r1
 obtain ⟨v3, vs3, d3, ds3, p3, q3, _, rfl, rfl, h3, r3⟩ := trodAll_cons r2
 obtain ⟨v4, vs4, d4, ds4, p4, q4, _, rfl, rfl, h4, r4⟩ := trodAll_cons r3
 obtain ⟨_, rfl, rfl⟩ := trodAll_nil r4
 obtain ⟨rfl, rfl⟩ := trodVars_none hV
 exact ⟨rfl, rfl, rfl⟩
set_option maxRecDepth 100000 in
theorem tableTells_contract (H : Type) (en : TypeId × Value → H) (W : World) (base : Nat) (args : Array Value) (ds gs : List (DataW H)) (before : List MemPlace)
  (hval : ∀ (j : Nat) t v, Try.f7.params[j]? = some t → args[j]? = some v → Value.okWide Try.prog W .any base t v)
  (hW : DataW.Whole en Try.prog Try.f7.params.toList Rows.tableTellsSpec.vars false W args.toList ds gs before) :
  Calls Try.prog 7 args W fun e W' => ∃ v, e = .returned v ∧ Rows.tableTellsSpec.post en Try.prog Try.f7 false true false false W args v W' :=
 contract2 (by kernel_rfl) Try.func7 rfl (by kernel_rfl) (by kernel_rfl) rfl Try.underlying4 rfl hW
  (tableTells_spec ds gs hW) (glob_none fun _ => rfl) hval (tys := [(.sl y0), (.i .i64), (.i .i64), (.i .i64), (.ar 4 (.i .i64))]) (by kernel_rfl) (by kernel_rfl) ok85 (fun p hfit => tells_law p.1 p.2.1 p.2.2.1 p.2.2.2.1 p.2.2.2.2 (fit_rules (fitc hfit rfl).1).1 (fit_rules (fitc hfit rfl).1).2.1 (fit_rules (fitc hfit rfl).1).2.2)
theorem tableTells_own : ownKnob Try.prog.godebug = none := by kernel_rfl
set_option maxRecDepth 100000 in
theorem tableTells_lifted (os : Os) (started : os.Started) (H : Type) (en : TypeId × Value → H) :
  ReturnsInHanded {} Try.checked os 7 .any (Rows.tableTellsSpec.pre6 en Try.prog Try.f7 Rows.tableTellsRow.domain false) (Rows.tableTellsSpec.post en Try.prog Try.f7 false true false false) := by
 refine returnsInHanded_of_change (C := Try.checked) tableTells_own started (by kernel_rfl) Try.func7
  (ChangeSpec.witness6 (enc := en) (C := Try.checked) false ⟨#[], #[(.slice none 0 0), (.int .i64 0), (.int .i64 0), (.int .i64 0), (.agg #[(.int .i64 0), (.int .i64 0), (.int .i64 0), (.int .i64 0)])], []⟩ 8 (by kernel_rfl) (by kernel_rfl) (by kernel_rfl) (by kernel_rfl)) ?_
 intro W base args ds gs before hval hW _ _
 exact tableTells_contract H en W base args ds gs before hval hW
theorem tableTells_holds : Rows.TableTellsSaid :=
 OpenClaim.holds_of_wide 7 Try.f7 rfl rfl rfl rfl rfl rfl rfl ⟨rfl, rfl, rfl, rfl, rfl⟩ rfl rfl rfl rfl rfl (by kernel_rfl) Try.func7 (by kernel_rfl)
  (of_decide_eq_true (by kernel_rfl)) (by unfold Func.isWrapper; first | (rw [if_pos (by decide +kernel)]; kernel_rfl) | (rw [if_neg (by decide +kernel)]; exact ⟨rfl, rfl⟩))
  (fun os started H en _ => tableTells_lifted os started H en)
#print axioms tableTells_holds
end Go.Proofs.Ytmeemkllagjnmaa.B
