/-
  No cell of these rows narrows 'for every input' (looked for: loops, veiled, ifaces, maps, wideKeys, modest, calm, conditions, laid).
  DERIVED. THE GIVEN ROWS OF THIS SEAT. 4 by the template 'for every input the law returns true; each argument reads behind the call as it read before'; 0 by the template 'total and deterministic' (their statements: YtoekkpmeeclpeaaGreatTotals.lean).
  GIVEN WITH THE SEED: the statements are not yours to turn. If you find one false, say at which input.
  Laid BY PROGRAM, IN A SANDBOX (cutbox-rows.mjs): the forced cells as the released guide's own fill.sh prints them over the translation 68809ac5a8372d06… (all of the seat's roots in one cut). By AI agents, Wed Nov 11 2026. No macro, syntax, notation, axiom, sorry.
-/
import Derived.Test.YtoekkpmeeclpeaaGreatChecked
import GoSem.Claim
import GoSem.ClaimJoined
import GoSem.ClaimMapViews
import Derived.JoinedTies
import Derived.KernelRfl
namespace Go.Proofs.YtoekkpmeeclpeaaGreat
/- THE CELL 'sum', in the pinned program and in every row, IS THE sha256 OF THE DUMP (.gsa) THAT YtoekkpmeeclpeaaGreatProg.lean LOADS. Nothing in Lean hashes anything: it is a label: what it is worth is what the hold of that sum in a sandbox is worth. -/
noncomputable def Tryz.pinned : Pinned := { name := "ytoekkpmeeclpeaagreat", sum := "68809ac5a8372d06e77cde5dde18b15cf8a868f100e9ad6122d35ba89ef050f0", checked := Tryz.checked }
namespace Rows
def none {H : Type} : Left H := { results := [], args := [] }

/-- 'turnoutlaw37.CtlArms': WHATEVER THE INPUT: true; the input reads as it did. -/
def ctlArmsSpec : ChangeSpec := { name := "ctlArms", fn := fun _ => fun
  | [d1, d2] => { results := [.lit (.bool true)], args := [d1, d2] }
  | _ => none }
def ctlArmsRow : OpenClaim := { program := "ytoekkpmeeclpeaagreat", sum := "68809ac5a8372d06e77cde5dde18b15cf8a868f100e9ad6122d35ba89ef050f0", func := "turnout/turnoutlaw37.CtlArms", spec := "ctlArms", inPlace := ["math.Float64frombits", "math.Float64bits"], unfollowed := true, recurses := true, plainKeys := false, apart := false }
def CtlArmsSaid : Prop := ctlArmsRow.holds Tryz.pinned (OpenSpec.ofChange ctlArmsSpec)

/-- ITS FALSE NEIGHBOUR: 'it returns false'. Refute it at one input. -/
def ctlArmsWrong : ChangeSpec := { name := "ctlArms", fn := fun _ => fun
  | [d1, d2] => { results := [.lit (.bool false)], args := [d1, d2] }
  | _ => none }
def CtlArmsWrongFalsely : Prop := ctlArmsRow.holds Tryz.pinned (OpenSpec.ofChange ctlArmsWrong)

/-- 'turnoutlaw37.CtlJournal': WHATEVER THE INPUT: true; the input reads as it did. -/
def ctlJournalSpec : ChangeSpec := { name := "ctlJournal", fn := fun _ => fun
  | [d1, d2] => { results := [.lit (.bool true)], args := [d1, d2] }
  | _ => none }
def ctlJournalRow : OpenClaim := { program := "ytoekkpmeeclpeaagreat", sum := "68809ac5a8372d06e77cde5dde18b15cf8a868f100e9ad6122d35ba89ef050f0", func := "turnout/turnoutlaw37.CtlJournal", spec := "ctlJournal", inPlace := ["math.Float64frombits", "math.Float64bits"], unfollowed := true, recurses := true, plainKeys := false, apart := false }
def CtlJournalSaid : Prop := ctlJournalRow.holds Tryz.pinned (OpenSpec.ofChange ctlJournalSpec)

/-- ITS FALSE NEIGHBOUR: 'it returns false'. Refute it at one input. -/
def ctlJournalWrong : ChangeSpec := { name := "ctlJournal", fn := fun _ => fun
  | [d1, d2] => { results := [.lit (.bool false)], args := [d1, d2] }
  | _ => none }
def CtlJournalWrongFalsely : Prop := ctlJournalRow.holds Tryz.pinned (OpenSpec.ofChange ctlJournalWrong)

/-- 'turnoutlaw37.CtlPlays': WHATEVER THE INPUT: true; the input reads as it did. -/
def ctlPlaysSpec : ChangeSpec := { name := "ctlPlays", fn := fun _ => fun
  | [d1, d2] => { results := [.lit (.bool true)], args := [d1, d2] }
  | _ => none }
def ctlPlaysRow : OpenClaim := { program := "ytoekkpmeeclpeaagreat", sum := "68809ac5a8372d06e77cde5dde18b15cf8a868f100e9ad6122d35ba89ef050f0", func := "turnout/turnoutlaw37.CtlPlays", spec := "ctlPlays", inPlace := ["math.Float64frombits", "math.Float64bits"], unfollowed := true, recurses := true, plainKeys := false, apart := false }
def CtlPlaysSaid : Prop := ctlPlaysRow.holds Tryz.pinned (OpenSpec.ofChange ctlPlaysSpec)

/-- ITS FALSE NEIGHBOUR: 'it returns false'. Refute it at one input. -/
def ctlPlaysWrong : ChangeSpec := { name := "ctlPlays", fn := fun _ => fun
  | [d1, d2] => { results := [.lit (.bool false)], args := [d1, d2] }
  | _ => none }
def CtlPlaysWrongFalsely : Prop := ctlPlaysRow.holds Tryz.pinned (OpenSpec.ofChange ctlPlaysWrong)

/-- 'turnoutlaw37.CtlCheck': WHATEVER THE INPUT: true; the input reads as it did. -/
def ctlCheckSpec : ChangeSpec := { name := "ctlCheck", fn := fun _ => fun
  | [d] => { results := [.lit (.bool true)], args := [d] }
  | _ => none }
def ctlCheckRow : OpenClaim := { program := "ytoekkpmeeclpeaagreat", sum := "68809ac5a8372d06e77cde5dde18b15cf8a868f100e9ad6122d35ba89ef050f0", func := "turnout/turnoutlaw37.CtlCheck", spec := "ctlCheck", inPlace := ["math.Float64frombits", "math.Float64bits"], unfollowed := true, recurses := true, plainKeys := false, apart := false }
def CtlCheckSaid : Prop := ctlCheckRow.holds Tryz.pinned (OpenSpec.ofChange ctlCheckSpec)

/-- ITS FALSE NEIGHBOUR: 'it returns false'. Refute it at one input. -/
def ctlCheckWrong : ChangeSpec := { name := "ctlCheck", fn := fun _ => fun
  | [d] => { results := [.lit (.bool false)], args := [d] }
  | _ => none }
def CtlCheckWrongFalsely : Prop := ctlCheckRow.holds Tryz.pinned (OpenSpec.ofChange ctlCheckWrong)

/- THE SECOND FORM. 'bulk': how many values and letters a reading holds, each counted each time it is reached (what is shared counts as often as it is met; a slice's spare places count too). A statement '..UptoSaid' is the law's where the arguments, and the package variables that the reading takes, are together of bulk at most 1048576: NARROWER than '..Said'. Prove '..Said' where nothing that the law and all that it calls make is longer than what came in: it says more and counts as full. Else prove '..UptoSaid'. A law counts once. -/
mutual
def uptoBulk {H : Type} : DataW H → Nat
  | .lit (.string bytes) => bytes.length + 1
  | .lit _ => 1
  | .nil => 1
  | .ptr d => uptoBulk d + 1
  | .slice elems spare => uptoBulkAll elems + uptoBulkAll spare + 1
  | .agg parts => uptoBulkAll parts + 1
  | .iface _ d => uptoBulk d + 1
  | .map entries => uptoBulkEntries entries + 1
  | .held _ => 1
def uptoBulkAll {H : Type} : List (DataW H) → Nat
  | [] => 0
  | d :: r => uptoBulk d + uptoBulkAll r
def uptoBulkEntries {H : Type} : List (Lit × DataW H) → Nat
  | [] => 0
  | x :: r => uptoBulkEntry x + uptoBulkEntries r
def uptoBulkEntry {H : Type} : Lit × DataW H → Nat
  | (.string bytes, d) => bytes.length + uptoBulk d + 1
  | (_, d) => uptoBulk d + 1
 end
def uptoSmall : (H : Type) → List (DataW H) → Bool := fun _ ds => decide (uptoBulkAll ds ≤ 1048576)
def OpenSpec.upto (s : _root_.Go.ChangeSpec) : _root_.Go.OpenSpec := { _root_.Go.OpenSpec.ofChange s with cond := some uptoSmall }

/-- 'turnoutlaw37.CtlArms', WHERE WHAT IT READS IS OF BULK AT MOST 1048576: true; the input reads as it did. -/
def ctlArmsUptoRow : OpenClaim := { program := "ytoekkpmeeclpeaagreat", sum := "68809ac5a8372d06e77cde5dde18b15cf8a868f100e9ad6122d35ba89ef050f0", func := "turnout/turnoutlaw37.CtlArms", spec := "ctlArms", inPlace := ["math.Float64frombits", "math.Float64bits"], unfollowed := true, recurses := true, plainKeys := false, apart := false, narrowed := true }
def CtlArmsUptoSaid : Prop := ctlArmsUptoRow.holds Tryz.pinned (OpenSpec.upto ctlArmsSpec)

/-- 'turnoutlaw37.CtlJournal', WHERE WHAT IT READS IS OF BULK AT MOST 1048576: true; the input reads as it did. -/
def ctlJournalUptoRow : OpenClaim := { program := "ytoekkpmeeclpeaagreat", sum := "68809ac5a8372d06e77cde5dde18b15cf8a868f100e9ad6122d35ba89ef050f0", func := "turnout/turnoutlaw37.CtlJournal", spec := "ctlJournal", inPlace := ["math.Float64frombits", "math.Float64bits"], unfollowed := true, recurses := true, plainKeys := false, apart := false, narrowed := true }
def CtlJournalUptoSaid : Prop := ctlJournalUptoRow.holds Tryz.pinned (OpenSpec.upto ctlJournalSpec)

/-- 'turnoutlaw37.CtlPlays', WHERE WHAT IT READS IS OF BULK AT MOST 1048576: true; the input reads as it did. -/
def ctlPlaysUptoRow : OpenClaim := { program := "ytoekkpmeeclpeaagreat", sum := "68809ac5a8372d06e77cde5dde18b15cf8a868f100e9ad6122d35ba89ef050f0", func := "turnout/turnoutlaw37.CtlPlays", spec := "ctlPlays", inPlace := ["math.Float64frombits", "math.Float64bits"], unfollowed := true, recurses := true, plainKeys := false, apart := false, narrowed := true }
def CtlPlaysUptoSaid : Prop := ctlPlaysUptoRow.holds Tryz.pinned (OpenSpec.upto ctlPlaysSpec)

/-- 'turnoutlaw37.CtlCheck', WHERE WHAT IT READS IS OF BULK AT MOST 1048576: true; the input reads as it did. -/
def ctlCheckUptoRow : OpenClaim := { program := "ytoekkpmeeclpeaagreat", sum := "68809ac5a8372d06e77cde5dde18b15cf8a868f100e9ad6122d35ba89ef050f0", func := "turnout/turnoutlaw37.CtlCheck", spec := "ctlCheck", inPlace := ["math.Float64frombits", "math.Float64bits"], unfollowed := true, recurses := true, plainKeys := false, apart := false, narrowed := true }
def CtlCheckUptoSaid : Prop := ctlCheckUptoRow.holds Tryz.pinned (OpenSpec.upto ctlCheckSpec)

end Rows
end Go.Proofs.YtoekkpmeeclpeaaGreat
