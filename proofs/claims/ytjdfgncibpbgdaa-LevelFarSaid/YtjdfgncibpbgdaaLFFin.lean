/- The statement LevelFarSaid: from the law's program to what is asked. Conditions: none. -/
import Derived.Test.YtjdfgncibpbgdaaLF
import Derived.Test.YtjdfgncibpbgdaaLG
import Derived.Test.YtjdfgncibpbgdaaKm
import Derived.Test.YtjdfgncibpbgdaaRows
import Derived.JoinedOf
import Derived.Handed
open Go.Ev Go
open Go.ChangeShapes Go.WideShapes Go.ChangeAt Go.RowKit
namespace Go.Proofs.Ytjdfgncibpbgdaa.L
theorem levelFar_spec {H : Type} {en : TypeId × Value → H} {W : World} {args : Array Value} (ds gs : List (DataW H)) {before : List MemPlace} (hW : DataW.Whole en Try.prog Try.f3.params.toList Rows.levelFarSpec.vars false W args.toList ds gs before) :
  (Rows.levelFarSpec.fn H (ds ++ gs)).results = [.lit (.bool true)] ∧ (Rows.levelFarSpec.fn H (ds ++ gs)).args = ds ∧ (Rows.levelFarSpec.fn H (ds ++ gs)).vars = [] := by
 obtain ⟨p, q, hA0, hV, _⟩ := hW
 have hA : DataW.TrodAll en Try.prog W 0 (fun _ => true) true Try.f3.params.toList args.toList ds p := hA0
 rw [Try.params3] at hA
 obtain ⟨v0, vs0, d0, ds0, p0, q0, _, rfl, rfl, h0, r0⟩ := trodAll_cons hA
 obtain ⟨v1, vs1, d1, ds1, p1, q1, _, rfl, rfl, h1, r1⟩ := trodAll_cons r0
 obtain ⟨v2, vs2, d2, ds2, p2, q2, _, rfl, rfl, h2, r2⟩ := trodAll_cons r1
 obtain ⟨_, rfl, rfl⟩ := trodAll_nil r2
 obtain ⟨rfl, rfl⟩ := trodVars_none hV
 exact ⟨rfl, rfl, rfl⟩
set_option maxRecDepth 100000 in
theorem levelFar_contract (H : Type) (en : TypeId × Value → H) (W : World) (base : Nat) (args : Array Value) (ds gs : List (DataW H)) (before : List MemPlace)
  (hval : ∀ (j : Nat) t v, Try.f3.params[j]? = some t → args[j]? = some v → Value.okWide Try.prog W .any base t v)
  (hW : DataW.Whole en Try.prog Try.f3.params.toList Rows.levelFarSpec.vars false W args.toList ds gs before) :
  Calls Try.prog 3 args W fun e W' => ∃ v, e = .returned v ∧ Rows.levelFarSpec.post en Try.prog Try.f3 false true false false W args v W' :=
 contract2 (by kernel_rfl) Try.func3 rfl (by kernel_rfl) (by kernel_rfl) rfl Try.underlying4 rfl hW
  (levelFar_spec ds gs hW) (glob_none fun _ => rfl) hval (tys := [y0, (.sl (.sl (.i .i64))), (.sl (.sl (.i .i64)))]) (by kernel_rfl) (by kernel_rfl) ok33 (fun p hfit => far_law p.1 p.2.1 p.2.2 (fit_len (fitc (fitc hfit rfl).2 rfl).1) (fit_len (fitc (fitc (fitc hfit rfl).2 rfl).2 rfl).1))
theorem levelFar_own : ownKnob Try.prog.godebug = none := by kernel_rfl
set_option maxRecDepth 100000 in
theorem levelFar_lifted (os : Os) (started : os.Started) (H : Type) (en : TypeId × Value → H) :
  ReturnsInHanded {} Try.checked os 3 .any (Rows.levelFarSpec.pre6 en Try.prog Try.f3 Rows.levelFarRow.domain false) (Rows.levelFarSpec.post en Try.prog Try.f3 false true false false) := by
 refine returnsInHanded_of_change (C := Try.checked) levelFar_own started (by kernel_rfl) Try.func3
  (ChangeSpec.witness6 (enc := en) (C := Try.checked) false ⟨#[], #[(.agg #[(.int .i64 0), (.slice none 0 0), (.slice none 0 0)]), (.slice none 0 0), (.slice none 0 0)], []⟩ 8 (by kernel_rfl) (by kernel_rfl) (by kernel_rfl) (by kernel_rfl)) ?_
 intro W base args ds gs before hval hW _ _
 exact levelFar_contract H en W base args ds gs before hval hW
theorem levelFar_holds : Rows.LevelFarSaid :=
 OpenClaim.holds_of_wide 3 Try.f3 rfl rfl rfl rfl rfl rfl rfl ⟨rfl, rfl, rfl, rfl, rfl⟩ rfl rfl rfl rfl rfl (by kernel_rfl) Try.func3 (by kernel_rfl)
  (of_decide_eq_true (by kernel_rfl)) (by unfold Func.isWrapper; first | (rw [if_pos (by decide +kernel)]; kernel_rfl) | (rw [if_neg (by decide +kernel)]; exact ⟨rfl, rfl⟩))
  (fun os started H en _ => levelFar_lifted os started H en)
#print axioms levelFar_holds
end Go.Proofs.Ytjdfgncibpbgdaa.L
