/- The statement PlanShiftsSaid: from the law's program to what is asked. Conditions: none. -/
import Derived.Test.YtjdfgncibpbgdaaLZ
import Derived.Test.YtjdfgncibpbgdaaLG
import Derived.Test.YtjdfgncibpbgdaaKm
import Derived.Test.YtjdfgncibpbgdaaRows
import Derived.JoinedOf
import Derived.Handed
open Go.Ev Go
open Go.ChangeShapes Go.WideShapes Go.ChangeAt Go.RowKit
namespace Go.Proofs.Ytjdfgncibpbgdaa.L
theorem qar {H : Type} {en : TypeId × Value → H} {W : World} {args : Array Value} (ds gs : List (DataW H)) {before : List MemPlace} (hW : DataW.Whole en Try.prog Try.f8.params.toList Rows.planShiftsSpec.vars false W args.toList ds gs before) :
  (Rows.planShiftsSpec.fn H (ds ++ gs)).results = [.lit (.bool true)] ∧ (Rows.planShiftsSpec.fn H (ds ++ gs)).args = ds ∧ (Rows.planShiftsSpec.fn H (ds ++ gs)).vars = [] := by
 obtain ⟨p, q, hA0, hV, _⟩ := hW
 have hA : DataW.TrodAll en Try.prog W 0 (fun _ => true) true Try.f8.params.toList args.toList ds p := hA0
 rw [Try.params8] at hA
 obtain ⟨v0, vs0, d0, ds0, p0, q0, _, rfl, rfl, h0, r0⟩ := trodAll_cons hA
 obtain ⟨v1, vs1, d1, ds1, p1, q1, _, rfl, rfl, h1, r1⟩ := trodAll_cons r0
 obtain ⟨v2, vs2, d2, ds2, p2, q2, _, rfl, rfl, h2, r2⟩ := trodAll_cons r1
 obtain ⟨v3, vs3, d3, ds3, p3, q3, _, rfl, rfl, h3, r3⟩ := trodAll_cons r2
 obtain ⟨v4, vs4, d4, ds4, p4, q4, _, rfl, rfl, h4, r4⟩ := trodAll_cons r3
 obtain ⟨v5, vs5, d5, ds5, p5, q5, _, rfl, rfl, h5, r5⟩ := trodAll_cons r4
 obtain ⟨v6, vs6, d6, ds6, p6, q6, _, rfl, rfl, h6, r6⟩ := trodAll_cons r5
 obtain ⟨_, rfl, rfl⟩ := trodAll_nil r6
 obtain ⟨rfl, rfl⟩ := trodVars_none hV
 exact ⟨rfl, rfl, rfl⟩
set_option maxRecDepth 100000 in
theorem q7z (H : Type) (en : TypeId × Value → H) (W : World) (base : Nat) (args : Array Value) (ds gs : List (DataW H)) (before : List MemPlace)
  (hval : ∀ (j : Nat) t v, Try.f8.params[j]? = some t → args[j]? = some v → Value.okWide Try.prog W .any base t v)
  (hW : DataW.Whole en Try.prog Try.f8.params.toList Rows.planShiftsSpec.vars false W args.toList ds gs before) :
  Calls Try.prog 8 args W fun e W' => ∃ v, e = .returned v ∧ Rows.planShiftsSpec.post en Try.prog Try.f8 false true false false W args v W' :=
 qnt (by kernel_rfl) Try.func8 rfl (by kernel_rfl) (by kernel_rfl) rfl Try.underlying4 rfl hW
  (qar ds gs hW) (qer fun _ => rfl) hval (tys := [y0, (.sl (.sl (.i .i64))), (.sl (.sl (.i .i64))), (.i .i64), (.i .i64), (.i .i64), (.i .i64)]) (by kernel_rfl) (by kernel_rfl) ok68 (fun p hfit => qkn p.1 p.2.1 p.2.2.1 p.2.2.2.1 p.2.2.2.2.1 p.2.2.2.2.2.1 p.2.2.2.2.2.2 (qo1 (fitc (fitc hfit rfl).2 rfl).1) (qo1 (fitc (fitc (fitc hfit rfl).2 rfl).2 rfl).1))
theorem qc3 : ownKnob Try.prog.godebug = none := by kernel_rfl
set_option maxRecDepth 100000 in
theorem q9d (os : Os) (started : os.Started) (H : Type) (en : TypeId × Value → H) :
  ReturnsInHanded {} Try.checked os 8 .any (Rows.planShiftsSpec.pre6 en Try.prog Try.f8 Rows.planShiftsRow.domain false) (Rows.planShiftsSpec.post en Try.prog Try.f8 false true false false) := by
 refine returnsInHanded_of_change (C := Try.checked) qc3 started (by kernel_rfl) Try.func8
  (ChangeSpec.witness6 (enc := en) (C := Try.checked) false ⟨#[], #[(.agg #[(.int .i64 0), (.slice none 0 0), (.slice none 0 0)]), (.slice none 0 0), (.slice none 0 0), (.int .i64 0), (.int .i64 0), (.int .i64 0), (.int .i64 0)], []⟩ 8 (by kernel_rfl) (by kernel_rfl) (by kernel_rfl) (by kernel_rfl)) ?_
 intro W base args ds gs before hval hW _ _
 exact q7z H en W base args ds gs before hval hW
theorem planShifts_holds : Rows.PlanShiftsSaid :=
 OpenClaim.holds_of_wide 8 Try.f8 rfl rfl rfl rfl rfl rfl rfl ⟨rfl, rfl, rfl, rfl, rfl⟩ rfl rfl rfl rfl rfl (by kernel_rfl) Try.func8 (by kernel_rfl)
  (of_decide_eq_true (by kernel_rfl)) (by unfold Func.isWrapper; first | (rw [if_pos (by decide +kernel)]; kernel_rfl) | (rw [if_neg (by decide +kernel)]; exact ⟨rfl, rfl⟩))
  (fun os started H en _ => q9d os started H en)
#print axioms planShifts_holds
end Go.Proofs.Ytjdfgncibpbgdaa.L
