/-
  No cell of these rows narrows 'for every input' (looked for: loops, veiled, ifaces, maps, wideKeys, modest, calm, conditions, laid).
  DERIVED. THE GIVEN ROWS OF THIS SEAT. 7 by the template 'for every input the law returns true; each argument reads behind the call as it read before'; 0 by the template 'total and deterministic' (their statements: YthcplpfiidlinaaTotals.lean).
  GIVEN WITH THE SEED: the statements are not yours to turn. If you find one false, say at which input.
  Laid BY PROGRAM, IN A SANDBOX (cutbox-rows.mjs): the forced cells as the released guide's own fill.sh prints them over the translation fc6355d8c5e198a6… (all of the seat's roots in one cut). By AI agents, Wed Nov 11 2026. No macro, syntax, notation, axiom, sorry.
-/
import Derived.Test.YthcplpfiidlinaaChecked
import GoSem.Claim
import GoSem.ClaimJoined
import GoSem.ClaimMapViews
import Derived.JoinedTies
import Derived.KernelRfl
namespace Go.Proofs.Ythcplpfiidlinaa
/- THE CELL 'sum', in the pinned program and in every row, IS THE sha256 OF THE DUMP (.gsa) THAT YthcplpfiidlinaaProg.lean LOADS. Nothing in Lean hashes anything: it is a label: what it is worth is what the hold of that sum in a sandbox is worth. -/
noncomputable def Try.pinned : Pinned := { name := "ythcplpfiidlinaa", sum := "fc6355d8c5e198a6f929bb42055087796948ab389839bd7957233ca7cc8e5c01", checked := Try.checked }
namespace Rows
def none {H : Type} : Left H := { results := [], args := [] }

/-- 'turnoutlaw23.LevelFar': WHATEVER THE INPUT: true; the input reads as it did. -/
def levelFarSpec : ChangeSpec := { name := "levelFar", fn := fun _ => fun
  | [d1, d2, d3] => { results := [.lit (.bool true)], args := [d1, d2, d3] }
  | _ => none }
def levelFarRow : OpenClaim := { program := "ythcplpfiidlinaa", sum := "fc6355d8c5e198a6f929bb42055087796948ab389839bd7957233ca7cc8e5c01", func := "turnout/turnoutlaw23.LevelFar", spec := "levelFar", unfollowed := true, recurses := true, plainKeys := false, apart := false }
def LevelFarSaid : Prop := levelFarRow.holds Try.pinned (OpenSpec.ofChange levelFarSpec)

/-- ITS FALSE NEIGHBOUR: 'it returns false'. Refute it at one input. -/
def levelFarWrong : ChangeSpec := { name := "levelFar", fn := fun _ => fun
  | [d1, d2, d3] => { results := [.lit (.bool false)], args := [d1, d2, d3] }
  | _ => none }
def LevelFarWrongFalsely : Prop := levelFarRow.holds Try.pinned (OpenSpec.ofChange levelFarWrong)

/-- 'turnoutlaw23.LevelSafe': WHATEVER THE INPUT: true; the input reads as it did. -/
def levelSafeSpec : ChangeSpec := { name := "levelSafe", fn := fun _ => fun
  | [d1, d2, d3, d4, d5] => { results := [.lit (.bool true)], args := [d1, d2, d3, d4, d5] }
  | _ => none }
def levelSafeRow : OpenClaim := { program := "ythcplpfiidlinaa", sum := "fc6355d8c5e198a6f929bb42055087796948ab389839bd7957233ca7cc8e5c01", func := "turnout/turnoutlaw23.LevelSafe", spec := "levelSafe", unfollowed := true, recurses := true, plainKeys := false, apart := false }
def LevelSafeSaid : Prop := levelSafeRow.holds Try.pinned (OpenSpec.ofChange levelSafeSpec)

/-- ITS FALSE NEIGHBOUR: 'it returns false'. Refute it at one input. -/
def levelSafeWrong : ChangeSpec := { name := "levelSafe", fn := fun _ => fun
  | [d1, d2, d3, d4, d5] => { results := [.lit (.bool false)], args := [d1, d2, d3, d4, d5] }
  | _ => none }
def LevelSafeWrongFalsely : Prop := levelSafeRow.holds Try.pinned (OpenSpec.ofChange levelSafeWrong)

/-- 'turnoutlaw23.LevelBack': WHATEVER THE INPUT: true; the input reads as it did. -/
def levelBackSpec : ChangeSpec := { name := "levelBack", fn := fun _ => fun
  | [d1, d2, d3, d4, d5] => { results := [.lit (.bool true)], args := [d1, d2, d3, d4, d5] }
  | _ => none }
def levelBackRow : OpenClaim := { program := "ythcplpfiidlinaa", sum := "fc6355d8c5e198a6f929bb42055087796948ab389839bd7957233ca7cc8e5c01", func := "turnout/turnoutlaw23.LevelBack", spec := "levelBack", unfollowed := true, recurses := true, plainKeys := false, apart := false }
def LevelBackSaid : Prop := levelBackRow.holds Try.pinned (OpenSpec.ofChange levelBackSpec)

/-- ITS FALSE NEIGHBOUR: 'it returns false'. Refute it at one input. -/
def levelBackWrong : ChangeSpec := { name := "levelBack", fn := fun _ => fun
  | [d1, d2, d3, d4, d5] => { results := [.lit (.bool false)], args := [d1, d2, d3, d4, d5] }
  | _ => none }
def LevelBackWrongFalsely : Prop := levelBackRow.holds Try.pinned (OpenSpec.ofChange levelBackWrong)

/-- 'turnoutlaw24.PlanMakes': WHATEVER THE INPUT: true; the input reads as it did. -/
def planMakesSpec : ChangeSpec := { name := "planMakes", fn := fun _ => fun
  | [d1, d2, d3, d4, d5, d6] => { results := [.lit (.bool true)], args := [d1, d2, d3, d4, d5, d6] }
  | _ => none }
def planMakesRow : OpenClaim := { program := "ythcplpfiidlinaa", sum := "fc6355d8c5e198a6f929bb42055087796948ab389839bd7957233ca7cc8e5c01", func := "turnout/turnoutlaw24.PlanMakes", spec := "planMakes", unfollowed := true, recurses := true, plainKeys := false, apart := false }
def PlanMakesSaid : Prop := planMakesRow.holds Try.pinned (OpenSpec.ofChange planMakesSpec)

/-- ITS FALSE NEIGHBOUR: 'it returns false'. Refute it at one input. -/
def planMakesWrong : ChangeSpec := { name := "planMakes", fn := fun _ => fun
  | [d1, d2, d3, d4, d5, d6] => { results := [.lit (.bool false)], args := [d1, d2, d3, d4, d5, d6] }
  | _ => none }
def PlanMakesWrongFalsely : Prop := planMakesRow.holds Try.pinned (OpenSpec.ofChange planMakesWrong)

/-- 'turnoutlaw24.PlanApart': WHATEVER THE INPUT: true; the input reads as it did. -/
def planApartSpec : ChangeSpec := { name := "planApart", fn := fun _ => fun
  | [d1, d2, d3, d4, d5, d6] => { results := [.lit (.bool true)], args := [d1, d2, d3, d4, d5, d6] }
  | _ => none }
def planApartRow : OpenClaim := { program := "ythcplpfiidlinaa", sum := "fc6355d8c5e198a6f929bb42055087796948ab389839bd7957233ca7cc8e5c01", func := "turnout/turnoutlaw24.PlanApart", spec := "planApart", unfollowed := true, recurses := true, plainKeys := false, apart := false }
def PlanApartSaid : Prop := planApartRow.holds Try.pinned (OpenSpec.ofChange planApartSpec)

/-- ITS FALSE NEIGHBOUR: 'it returns false'. Refute it at one input. -/
def planApartWrong : ChangeSpec := { name := "planApart", fn := fun _ => fun
  | [d1, d2, d3, d4, d5, d6] => { results := [.lit (.bool false)], args := [d1, d2, d3, d4, d5, d6] }
  | _ => none }
def PlanApartWrongFalsely : Prop := planApartRow.holds Try.pinned (OpenSpec.ofChange planApartWrong)

/-- 'turnoutlaw24.PlanShifts': WHATEVER THE INPUT: true; the input reads as it did. -/
def planShiftsSpec : ChangeSpec := { name := "planShifts", fn := fun _ => fun
  | [d1, d2, d3, d4, d5, d6, d7] => { results := [.lit (.bool true)], args := [d1, d2, d3, d4, d5, d6, d7] }
  | _ => none }
def planShiftsRow : OpenClaim := { program := "ythcplpfiidlinaa", sum := "fc6355d8c5e198a6f929bb42055087796948ab389839bd7957233ca7cc8e5c01", func := "turnout/turnoutlaw24.PlanShifts", spec := "planShifts", unfollowed := true, recurses := true, plainKeys := false, apart := false }
def PlanShiftsSaid : Prop := planShiftsRow.holds Try.pinned (OpenSpec.ofChange planShiftsSpec)

/-- ITS FALSE NEIGHBOUR: 'it returns false'. Refute it at one input. -/
def planShiftsWrong : ChangeSpec := { name := "planShifts", fn := fun _ => fun
  | [d1, d2, d3, d4, d5, d6, d7] => { results := [.lit (.bool false)], args := [d1, d2, d3, d4, d5, d6, d7] }
  | _ => none }
def PlanShiftsWrongFalsely : Prop := planShiftsRow.holds Try.pinned (OpenSpec.ofChange planShiftsWrong)

/-- 'turnoutlaw24.PlanParts': WHATEVER THE INPUT: true; the input reads as it did. -/
def planPartsSpec : ChangeSpec := { name := "planParts", fn := fun _ => fun
  | [d1, d2, d3, d4, d5, d6, d7] => { results := [.lit (.bool true)], args := [d1, d2, d3, d4, d5, d6, d7] }
  | _ => none }
def planPartsRow : OpenClaim := { program := "ythcplpfiidlinaa", sum := "fc6355d8c5e198a6f929bb42055087796948ab389839bd7957233ca7cc8e5c01", func := "turnout/turnoutlaw24.PlanParts", spec := "planParts", unfollowed := true, recurses := true, plainKeys := false, apart := false }
def PlanPartsSaid : Prop := planPartsRow.holds Try.pinned (OpenSpec.ofChange planPartsSpec)

/-- ITS FALSE NEIGHBOUR: 'it returns false'. Refute it at one input. -/
def planPartsWrong : ChangeSpec := { name := "planParts", fn := fun _ => fun
  | [d1, d2, d3, d4, d5, d6, d7] => { results := [.lit (.bool false)], args := [d1, d2, d3, d4, d5, d6, d7] }
  | _ => none }
def PlanPartsWrongFalsely : Prop := planPartsRow.holds Try.pinned (OpenSpec.ofChange planPartsWrong)

/- THE SECOND FORM. 'bulk': how many values and letters a reading holds, each counted each time it is reached (what is shared counts as often as it is met; a slice's spare places count too). A statement '..UptoSaid' is the law's where the arguments, and the package variables that the reading takes, are together of bulk at most 1048576: NARROWER than '..Said'. Prove '..Said' where nothing that the law and all that it calls make is longer than what came in: it says more and counts as full. Else prove '..UptoSaid'. A law counts once. -/
mutual
def uptoBulk {H : Type} : DataW H → Nat
  | .lit (.string bytes) => bytes.length + 1
  | .lit _ => 1
  | .nil => 1
  | .ptr d => uptoBulk d + 1
  | .slice elems spare => uptoBulkAll elems + uptoBulkAll spare + 1
  | .agg parts => uptoBulkAll parts + 1
  | .iface _ d => uptoBulk d + 1
  | .map entries => uptoBulkEntries entries + 1
  | .held _ => 1
def uptoBulkAll {H : Type} : List (DataW H) → Nat
  | [] => 0
  | d :: r => uptoBulk d + uptoBulkAll r
def uptoBulkEntries {H : Type} : List (Lit × DataW H) → Nat
  | [] => 0
  | x :: r => uptoBulkEntry x + uptoBulkEntries r
def uptoBulkEntry {H : Type} : Lit × DataW H → Nat
  | (.string bytes, d) => bytes.length + uptoBulk d + 1
  | (_, d) => uptoBulk d + 1
 end
def uptoSmall : (H : Type) → List (DataW H) → Bool := fun _ ds => decide (uptoBulkAll ds ≤ 1048576)
def OpenSpec.upto (s : _root_.Go.ChangeSpec) : _root_.Go.OpenSpec := { _root_.Go.OpenSpec.ofChange s with cond := some uptoSmall }

/-- 'turnoutlaw23.LevelFar', WHERE WHAT IT READS IS OF BULK AT MOST 1048576: true; the input reads as it did. -/
def levelFarUptoRow : OpenClaim := { program := "ythcplpfiidlinaa", sum := "fc6355d8c5e198a6f929bb42055087796948ab389839bd7957233ca7cc8e5c01", func := "turnout/turnoutlaw23.LevelFar", spec := "levelFar", unfollowed := true, recurses := true, plainKeys := false, apart := false, narrowed := true }
def LevelFarUptoSaid : Prop := levelFarUptoRow.holds Try.pinned (OpenSpec.upto levelFarSpec)

/-- 'turnoutlaw23.LevelSafe', WHERE WHAT IT READS IS OF BULK AT MOST 1048576: true; the input reads as it did. -/
def levelSafeUptoRow : OpenClaim := { program := "ythcplpfiidlinaa", sum := "fc6355d8c5e198a6f929bb42055087796948ab389839bd7957233ca7cc8e5c01", func := "turnout/turnoutlaw23.LevelSafe", spec := "levelSafe", unfollowed := true, recurses := true, plainKeys := false, apart := false, narrowed := true }
def LevelSafeUptoSaid : Prop := levelSafeUptoRow.holds Try.pinned (OpenSpec.upto levelSafeSpec)

/-- 'turnoutlaw23.LevelBack', WHERE WHAT IT READS IS OF BULK AT MOST 1048576: true; the input reads as it did. -/
def levelBackUptoRow : OpenClaim := { program := "ythcplpfiidlinaa", sum := "fc6355d8c5e198a6f929bb42055087796948ab389839bd7957233ca7cc8e5c01", func := "turnout/turnoutlaw23.LevelBack", spec := "levelBack", unfollowed := true, recurses := true, plainKeys := false, apart := false, narrowed := true }
def LevelBackUptoSaid : Prop := levelBackUptoRow.holds Try.pinned (OpenSpec.upto levelBackSpec)

/-- 'turnoutlaw24.PlanMakes', WHERE WHAT IT READS IS OF BULK AT MOST 1048576: true; the input reads as it did. -/
def planMakesUptoRow : OpenClaim := { program := "ythcplpfiidlinaa", sum := "fc6355d8c5e198a6f929bb42055087796948ab389839bd7957233ca7cc8e5c01", func := "turnout/turnoutlaw24.PlanMakes", spec := "planMakes", unfollowed := true, recurses := true, plainKeys := false, apart := false, narrowed := true }
def PlanMakesUptoSaid : Prop := planMakesUptoRow.holds Try.pinned (OpenSpec.upto planMakesSpec)

/-- 'turnoutlaw24.PlanApart', WHERE WHAT IT READS IS OF BULK AT MOST 1048576: true; the input reads as it did. -/
def planApartUptoRow : OpenClaim := { program := "ythcplpfiidlinaa", sum := "fc6355d8c5e198a6f929bb42055087796948ab389839bd7957233ca7cc8e5c01", func := "turnout/turnoutlaw24.PlanApart", spec := "planApart", unfollowed := true, recurses := true, plainKeys := false, apart := false, narrowed := true }
def PlanApartUptoSaid : Prop := planApartUptoRow.holds Try.pinned (OpenSpec.upto planApartSpec)

/-- 'turnoutlaw24.PlanShifts', WHERE WHAT IT READS IS OF BULK AT MOST 1048576: true; the input reads as it did. -/
def planShiftsUptoRow : OpenClaim := { program := "ythcplpfiidlinaa", sum := "fc6355d8c5e198a6f929bb42055087796948ab389839bd7957233ca7cc8e5c01", func := "turnout/turnoutlaw24.PlanShifts", spec := "planShifts", unfollowed := true, recurses := true, plainKeys := false, apart := false, narrowed := true }
def PlanShiftsUptoSaid : Prop := planShiftsUptoRow.holds Try.pinned (OpenSpec.upto planShiftsSpec)

/-- 'turnoutlaw24.PlanParts', WHERE WHAT IT READS IS OF BULK AT MOST 1048576: true; the input reads as it did. -/
def planPartsUptoRow : OpenClaim := { program := "ythcplpfiidlinaa", sum := "fc6355d8c5e198a6f929bb42055087796948ab389839bd7957233ca7cc8e5c01", func := "turnout/turnoutlaw24.PlanParts", spec := "planParts", unfollowed := true, recurses := true, plainKeys := false, apart := false, narrowed := true }
def PlanPartsUptoSaid : Prop := planPartsUptoRow.holds Try.pinned (OpenSpec.upto planPartsSpec)

end Rows
end Go.Proofs.Ythcplpfiidlinaa
