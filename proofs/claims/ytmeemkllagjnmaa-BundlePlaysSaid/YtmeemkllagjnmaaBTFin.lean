/- The statement BundlePlaysSaid: from the law's program to what is asked. Conditions: none. -/
import Derived.Test.YtmeemkllagjnmaaBT
import Derived.Test.YtmeemkllagjnmaaKm
import Derived.Test.YtmeemkllagjnmaaRows
import Derived.JoinedOf
import Derived.Handed
open Go.Ev Go
open Go.ChangeShapes Go.WideShapes Go.ChangeAt Go.RowKit
namespace Go.Proofs.Ytmeemkllagjnmaa.B
theorem qao {H : Type} {en : TypeId × Value → H} {W : World} {args : Array Value} (ds gs : List (DataW H)) {q22 : List MemPlace} (hW : DataW.Whole en Try.prog Try.f8.params.toList Rows.bundlePlaysSpec.vars false W args.toList ds gs q22) :
  (Rows.bundlePlaysSpec.fn H (ds ++ gs)).results = [.lit (.bool true)] ∧ (Rows.bundlePlaysSpec.fn H (ds ++ gs)).args = ds ∧ (Rows.bundlePlaysSpec.fn H (ds ++ gs)).vars = [] := by
 obtain ⟨p, q, hA0, hV, _⟩ := hW
 have hA : DataW.TrodAll en Try.prog W 0 (fun _ => true) true Try.f8.params.toList args.toList ds p := hA0
 rw [Try.params8] at hA
 obtain ⟨v0, vs0, d0, ds0, p0, q0, _, rfl, rfl, h0, r0⟩ := trodAll_cons hA
 obtain ⟨v1, vs1, d1, ds1, p1, q1, _, rfl, rfl, h1, r1⟩ := trodAll_cons r0
 obtain ⟨v2, vs2, d2, ds2, p2, q2, _, rfl, rfl, h2, r2⟩ := trodAll_cons r1
 obtain ⟨v3, vs3, d3, ds3, p3, q3, _, rfl, rfl, h3, r3⟩ := trodAll_cons r2
 obtain ⟨_, rfl, rfl⟩ := trodAll_nil r3
 obtain ⟨rfl, rfl⟩ := trodVars_none hV
 exact ⟨rfl, rfl, rfl⟩
set_option maxRecDepth 100000 in
theorem q87 (H : Type) (en : TypeId × Value → H) (W : World) (base : Nat) (args : Array Value) (ds gs : List (DataW H)) (q22 : List MemPlace)
  (hval : ∀ (j : Nat) t v, Try.f8.params[j]? = some t → args[j]? = some v → Value.okWide Try.prog W .any base t v)
  (hW : DataW.Whole en Try.prog Try.f8.params.toList Rows.bundlePlaysSpec.vars false W args.toList ds gs q22) :
  Calls Try.prog 8 args W fun e W' => ∃ v, e = .returned v ∧ Rows.bundlePlaysSpec.post en Try.prog Try.f8 false true false false W args v W' :=
 qm4 (by kernel_rfl) Try.func8 rfl (by kernel_rfl) (by kernel_rfl) rfl Try.underlying4 rfl hW
  (qao ds gs hW) (qni fun _ => rfl) hval (tys := [(.sl y8), (.sl y0), (.i .i64), (.i .i64)]) (by kernel_rfl) (by kernel_rfl) ok104 (fun p hfit => qks p.1 p.2.1 p.2.2.1 p.2.2.2 (qbr (fitc (fitc hfit rfl).2 rfl).1).1 (qbr (fitc (fitc hfit rfl).2 rfl).1).2.1 (qmm (fitc hfit rfl).1))
theorem qbv : ownKnob Try.prog.godebug = none := by kernel_rfl
set_option maxRecDepth 100000 in
theorem q9c (os : Os) (started : os.Started) (H : Type) (en : TypeId × Value → H) :
  ReturnsInHanded {} Try.checked os 8 .any (Rows.bundlePlaysSpec.pre6 en Try.prog Try.f8 Rows.bundlePlaysRow.domain false) (Rows.bundlePlaysSpec.post en Try.prog Try.f8 false true false false) := by
 refine returnsInHanded_of_change (C := Try.checked) qbv started (by kernel_rfl) Try.func8
  (ChangeSpec.witness6 (enc := en) (C := Try.checked) false ⟨#[], #[(.slice none 0 0), (.slice none 0 0), (.int .i64 0), (.int .i64 0)], []⟩ 8 (by kernel_rfl) (by kernel_rfl) (by kernel_rfl) (by kernel_rfl)) ?_
 intro W base args ds gs q22 hval hW _ _
 exact q87 H en W base args ds gs q22 hval hW
theorem bundlePlays_holds : Rows.BundlePlaysSaid :=
 OpenClaim.holds_of_wide 8 Try.f8 rfl rfl rfl rfl rfl rfl rfl ⟨rfl, rfl, rfl, rfl, rfl⟩ rfl rfl rfl rfl rfl (by kernel_rfl) Try.func8 (by kernel_rfl)
  (of_decide_eq_true (by kernel_rfl)) (by unfold Func.isWrapper; first | (rw [if_pos (by decide +kernel)]; kernel_rfl) | (rw [if_neg (by decide +kernel)]; exact ⟨rfl, rfl⟩))
  (fun os started H en _ => q9c os started H en)
#print axioms bundlePlays_holds
end Go.Proofs.Ytmeemkllagjnmaa.B
