/- The statement TopoTellsSaid: from the law's program to what is asked. Conditions: none. -/
import Derived.Test.YtjfhiochcdjkhaaTD
import Derived.Test.YtjfhiochcdjkhaaEvY
import Derived.Test.YtjfhiochcdjkhaaRows
import Derived.JoinedOf
import Derived.Handed
open Go.Ev Go
open Go.ChangeShapes Go.WideShapes Go.ChangeAt Go.RowKit
namespace Go.Proofs.Ytjfhiochcdjkhaa.T
theorem opens_api_Link : Opens prog 83 c_api_Link (fun x => (IntKind.min .i64 ≤ x.A ∧ x.A ≤ IntKind.max .i64) ∧ (IntKind.min .i64 ≤ x.PortA ∧ x.PortA ≤ IntKind.max .i64) ∧ (IntKind.min .i64 ≤ x.B ∧ x.B ≤ IntKind.max .i64) ∧ (IntKind.min .i64 ≤ x.PortB ∧ x.PortB ≤ IntKind.max .i64) ∧ (IntKind.min .i64 ≤ x.Least ∧ x.Least ≤ IntKind.max .i64) ∧ (IntKind.min .i64 ≤ x.Most ∧ x.Most ≤ IntKind.max .i64)) := by
  intro H en w fuel cs x h
  have hl := struct_len Try.underlying83 h
  rw [show prog.cellsOf 83 = 6 by kernel_rfl] at hl
  obtain ⟨a0, f0, c0⟩ := opens_field Try.underlying83 h (i := 0) rfl (opens_int Try.underlying3)
  replace c0 : Cells w ((cs.drop 0).take (prog.cellsOf 3)) (cI_i64 a0) := c0
  rw [show prog.cellsOf 3 = 1 by kernel_rfl] at c0
  obtain ⟨a1, f1, c1⟩ := opens_field Try.underlying83 h (i := 1) rfl (opens_int Try.underlying3)
  replace c1 : Cells w ((cs.drop 1).take (prog.cellsOf 3)) (cI_i64 a1) := c1
  rw [show prog.cellsOf 3 = 1 by kernel_rfl] at c1
  obtain ⟨a2, f2, c2⟩ := opens_field Try.underlying83 h (i := 2) rfl (opens_int Try.underlying3)
  replace c2 : Cells w ((cs.drop 2).take (prog.cellsOf 3)) (cI_i64 a2) := c2
  rw [show prog.cellsOf 3 = 1 by kernel_rfl] at c2
  obtain ⟨a3, f3, c3⟩ := opens_field Try.underlying83 h (i := 3) rfl (opens_int Try.underlying3)
  replace c3 : Cells w ((cs.drop 3).take (prog.cellsOf 3)) (cI_i64 a3) := c3
  rw [show prog.cellsOf 3 = 1 by kernel_rfl] at c3
  obtain ⟨a4, f4, c4⟩ := opens_field Try.underlying83 h (i := 4) rfl (opens_int Try.underlying3)
  replace c4 : Cells w ((cs.drop 4).take (prog.cellsOf 3)) (cI_i64 a4) := c4
  rw [show prog.cellsOf 3 = 1 by kernel_rfl] at c4
  obtain ⟨a5, f5, c5⟩ := opens_field Try.underlying83 h (i := 5) rfl (opens_int Try.underlying3)
  replace c5 : Cells w ((cs.drop 5).take (prog.cellsOf 3)) (cI_i64 a5) := c5
  rw [show prog.cellsOf 3 = 1 by kernel_rfl] at c5
  have e0 : Cells w (cs.drop 6) [] := Cells.nil (by rw [List.length_drop, hl])
  exact ⟨⟨a0, a1, a2, a3, a4, a5⟩, ⟨f0, f1, f2, f3, f4, f5⟩, (Cells.field c0 (by rfl) (Cells.field c1 (by rfl) (Cells.field c2 (by rfl) (Cells.field c3 (by rfl) (Cells.field c4 (by rfl) (Cells.field c5 (by rfl) e0 (by rw [hl]; decide)) (by rw [hl]; decide)) (by rw [hl]; decide)) (by rw [hl]; decide)) (by rw [hl]; decide)) (by rw [hl]; decide))⟩

theorem opens_api_Host : Opens prog 36 c_api_Host (fun x => (IntKind.min .i64 ≤ x.At ∧ x.At ≤ IntKind.max .i64) ∧ (IntKind.min .i64 ≤ x.Port ∧ x.Port ≤ IntKind.max .i64)) := by
  intro H en w fuel cs x h
  have hl := struct_len Try.underlying36 h
  rw [show prog.cellsOf 36 = 2 by kernel_rfl] at hl
  obtain ⟨a0, f0, c0⟩ := opens_field Try.underlying36 h (i := 0) rfl (opens_int Try.underlying3)
  replace c0 : Cells w ((cs.drop 0).take (prog.cellsOf 3)) (cI_i64 a0) := c0
  rw [show prog.cellsOf 3 = 1 by kernel_rfl] at c0
  obtain ⟨a1, f1, c1⟩ := opens_field Try.underlying36 h (i := 1) rfl (opens_int Try.underlying3)
  replace c1 : Cells w ((cs.drop 1).take (prog.cellsOf 3)) (cI_i64 a1) := c1
  rw [show prog.cellsOf 3 = 1 by kernel_rfl] at c1
  have e0 : Cells w (cs.drop 2) [] := Cells.nil (by rw [List.length_drop, hl])
  exact ⟨⟨a0, a1⟩, ⟨f0, f1⟩, (Cells.field c0 (by rfl) (Cells.field c1 (by rfl) e0 (by rw [hl]; decide)) (by rw [hl]; decide))⟩

theorem opens_api_Topo : Opens prog 25 c_api_Topo (fun x => (IntKind.min .i64 ≤ x.Switches ∧ x.Switches ≤ IntKind.max .i64) ∧ (x.Links.l.length ≤ maxLen ∧ ∀ y ∈ x.Links.l, (fun x => ((IntKind.min .i64 ≤ x.A ∧ x.A ≤ IntKind.max .i64) ∧ (IntKind.min .i64 ≤ x.PortA ∧ x.PortA ≤ IntKind.max .i64) ∧ (IntKind.min .i64 ≤ x.B ∧ x.B ≤ IntKind.max .i64) ∧ (IntKind.min .i64 ≤ x.PortB ∧ x.PortB ≤ IntKind.max .i64) ∧ (IntKind.min .i64 ≤ x.Least ∧ x.Least ≤ IntKind.max .i64) ∧ (IntKind.min .i64 ≤ x.Most ∧ x.Most ≤ IntKind.max .i64))) y) ∧ (x.Hosts.l.length ≤ maxLen ∧ ∀ y ∈ x.Hosts.l, (fun x => ((IntKind.min .i64 ≤ x.At ∧ x.At ≤ IntKind.max .i64) ∧ (IntKind.min .i64 ≤ x.Port ∧ x.Port ≤ IntKind.max .i64))) y)) := by
  intro H en w fuel cs x h
  have hl := struct_len Try.underlying25 h
  rw [show prog.cellsOf 25 = 3 by kernel_rfl] at hl
  obtain ⟨a0, f0, c0⟩ := opens_field Try.underlying25 h (i := 0) rfl (opens_int Try.underlying3)
  replace c0 : Cells w ((cs.drop 0).take (prog.cellsOf 3)) (cI_i64 a0) := c0
  rw [show prog.cellsOf 3 = 1 by kernel_rfl] at c0
  obtain ⟨a1, f1, c1⟩ := opens_field Try.underlying25 h (i := 1) rfl (opens_slice (enc := c_api_Link) Try.underlying22 (show prog.cellsOf 83 = 6 by kernel_rfl) (by decide) (fun _ => rfl) opens_api_Link)
  replace c1 : Cells w ((cs.drop 1).take (prog.cellsOf 22)) [slD 6 c_api_Link a1] := c1
  rw [show prog.cellsOf 22 = 1 by kernel_rfl] at c1
  obtain ⟨a2, f2, c2⟩ := opens_field Try.underlying25 h (i := 2) rfl (opens_slice (enc := c_api_Host) Try.underlying23 (show prog.cellsOf 36 = 2 by kernel_rfl) (by decide) (fun _ => rfl) opens_api_Host)
  replace c2 : Cells w ((cs.drop 2).take (prog.cellsOf 23)) [slD 2 c_api_Host a2] := c2
  rw [show prog.cellsOf 23 = 1 by kernel_rfl] at c2
  have e0 : Cells w (cs.drop 3) [] := Cells.nil (by rw [List.length_drop, hl])
  exact ⟨⟨a0, a1, a2⟩, ⟨f0, f1, f2⟩, (Cells.field c0 (by rfl) (Cells.field c1 (by rfl) (Cells.field c2 (by rfl) e0 (by rw [hl]; decide)) (by rw [hl]; decide)) (by rw [hl]; decide))⟩

set_option maxRecDepth 100000 in
theorem topoTells_contract (H : Type) (en : TypeId × Value → H) (W : World) (base : Nat) (args : Array Value) (ds gs : List (DataW H)) (before : List MemPlace)
    (hval : ∀ (j : Nat) t v, Try.f10.params[j]? = some t → args[j]? = some v → Value.okWide Try.prog W .any base t v)
    (hW : DataW.Whole en Try.prog Try.f10.params.toList Rows.topoTellsSpec.vars false W args.toList ds gs before) :
    Calls Try.prog 10 args W fun e W' => ∃ v, e = .returned v ∧ Rows.topoTellsSpec.post en Try.prog Try.f10 false true false false W args v W' := by
  have hW' := hW
  obtain ⟨p, q, hA0, hV, hpq, hfz, hnd⟩ := hW
  have hA : DataW.TrodAll en Try.prog W 0 (fun _ => true) true Try.f10.params.toList args.toList ds p := hA0
  rw [Try.params10] at hA hval
  obtain ⟨v0, vs0, d0, ds0, p0, q0, hargs, rfl, rfl, h0, r0⟩ := trodAll_cons hA
  obtain ⟨v1, vs1, d1, ds1, p1, q1, rfl, rfl, rfl, h1, r1⟩ := trodAll_cons r0
  obtain ⟨v2, vs2, d2, ds2, p2, q2, rfl, rfl, rfl, h2, r2⟩ := trodAll_cons r1
  obtain ⟨rfl, rfl, rfl⟩ := trodAll_nil r2
  obtain rfl : args = #[v0, v1, v2] := by cases args; simp_all
  obtain ⟨rfl, rfl⟩ := trodVars_none hV
  obtain ⟨a0, fit0, ra0⟩ := arg_agg opens_api_Topo (hval 0 25 v0 rfl rfl) Try.underlying25 h0
  obtain ⟨a1, fit1, ra1⟩ := arg_d (opens_int Try.underlying3) (hval 1 3 v1 rfl rfl) (by rw [Try.underlying3]; trivial) h1
  obtain ⟨a2, fit2, ra2⟩ := arg_d (opens_int Try.underlying3) (hval 2 3 v2 rfl rfl) (by rw [Try.underlying3]; trivial) h2
  exact contract (by kernel_rfl) Try.func10 rfl (by kernel_rfl) (by kernel_rfl) rfl Try.underlying4 rfl hW' ⟨rfl, rfl, rfl⟩ (glob_none fun _ => rfl) ⟨_, (ras_cons ra0 (ras_cons ra1 (ras_cons ra2 ras_nil))), law17_TopoTells_ok (topoTells_law a0 a1 a2)⟩

theorem topoTells_own : ownKnob Try.prog.godebug = none := by kernel_rfl
set_option maxRecDepth 100000 in
theorem topoTells_lifted (os : Os) (started : os.Started) (H : Type) (en : TypeId × Value → H) :
    ReturnsInHanded {} Try.checked os 10 .any (Rows.topoTellsSpec.pre6 en Try.prog Try.f10 Rows.topoTellsRow.domain false) (Rows.topoTellsSpec.post en Try.prog Try.f10 false true false false) := by
  refine returnsInHanded_of_change (C := Try.checked) topoTells_own started (by kernel_rfl) Try.func10
    (ChangeSpec.witness6 (enc := en) (C := Try.checked) false ⟨#[], #[(.agg #[(.int .i64 0), (.slice none 0 0), (.slice none 0 0)]), (.int .i64 0), (.int .i64 0)], []⟩ 8 (by kernel_rfl) (by kernel_rfl) (by kernel_rfl) (by kernel_rfl)) ?_
  intro W base args ds gs before hval hW _ _
  exact topoTells_contract H en W base args ds gs before hval hW
theorem topoTells_holds : Rows.TopoTellsSaid :=
  OpenClaim.holds_of_wide 10 Try.f10 rfl rfl rfl rfl rfl rfl rfl ⟨rfl, rfl, rfl, rfl, rfl⟩ rfl rfl rfl rfl rfl (by kernel_rfl) Try.func10 (by kernel_rfl)
    (of_decide_eq_true (by kernel_rfl)) (by unfold Func.isWrapper; first | (rw [if_pos (by decide +kernel)]; kernel_rfl) | (rw [if_neg (by decide +kernel)]; exact ⟨rfl, rfl⟩))
    (fun os started H en _ => topoTells_lifted os started H en)
#print axioms topoTells_holds
end Go.Proofs.Ytjfhiochcdjkhaa.T
