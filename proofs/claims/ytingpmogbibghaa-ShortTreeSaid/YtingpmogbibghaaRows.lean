/-
  No cell of these rows narrows 'for every input' (looked for: loops, veiled, ifaces, maps, wideKeys, modest, calm, conditions, laid).
  DERIVED. THE GIVEN ROWS OF THIS SEAT. 11 by the template 'for every input the law returns true; each argument reads behind the call as it read before'; 0 by the template 'total and deterministic' (their statements: YtingpmogbibghaaTotals.lean).
  GIVEN WITH THE SEED: the statements are not yours to turn. If you find one false, say at which input.
  Laid BY PROGRAM, IN A SANDBOX (cutbox-rows.mjs): the forced cells as the released guide's own fill.sh prints them over the translation ca2e599b1fab2e50… (all of the seat's roots in one cut). By AI agents, Wed Nov 11 2026. No macro, syntax, notation, axiom, sorry.
-/
import Derived.Test.YtingpmogbibghaaChecked
import GoSem.Claim
import GoSem.ClaimJoined
import GoSem.ClaimMapViews
import Derived.JoinedTies
import Derived.KernelRfl
namespace Go.Proofs.Ytingpmogbibghaa
/- THE CELL 'sum', in the pinned program and in every row, IS THE sha256 OF THE DUMP (.gsa) THAT YtingpmogbibghaaProg.lean LOADS. Nothing in Lean hashes anything: it is a label: what it is worth is what the hold of that sum in a sandbox is worth. -/
noncomputable def Try.pinned : Pinned := { name := "ytingpmogbibghaa", sum := "ca2e599b1fab2e504d8744c2611d64f34dcd7bdc8ef3a8d8bbd01985d277fff3", checked := Try.checked }
namespace Rows
def none {H : Type} : Left H := { results := [], args := [] }

/-- 'turnoutlaw43.MeterBetween': WHATEVER THE INPUT: true; the input reads as it did. -/
def meterBetweenSpec : ChangeSpec := { name := "meterBetween", fn := fun _ => fun
  | [d1, d2, d3] => { results := [.lit (.bool true)], args := [d1, d2, d3] }
  | _ => none }
def meterBetweenRow : OpenClaim := { program := "ytingpmogbibghaa", sum := "ca2e599b1fab2e504d8744c2611d64f34dcd7bdc8ef3a8d8bbd01985d277fff3", func := "turnout/turnoutlaw43.MeterBetween", spec := "meterBetween", inPlace := ["math.Float64frombits", "math.Float64bits"], unfollowed := true, recurses := true, plainKeys := false, apart := false }
def MeterBetweenSaid : Prop := meterBetweenRow.holds Try.pinned (OpenSpec.ofChange meterBetweenSpec)

/-- ITS FALSE NEIGHBOUR: 'it returns false'. Refute it at one input. -/
def meterBetweenWrong : ChangeSpec := { name := "meterBetween", fn := fun _ => fun
  | [d1, d2, d3] => { results := [.lit (.bool false)], args := [d1, d2, d3] }
  | _ => none }
def MeterBetweenWrongFalsely : Prop := meterBetweenRow.holds Try.pinned (OpenSpec.ofChange meterBetweenWrong)

/-- 'turnoutlaw43.MeterTells': WHATEVER THE INPUT: true; the input reads as it did. -/
def meterTellsSpec : ChangeSpec := { name := "meterTells", fn := fun _ => fun
  | [d1, d2, d3, d4, d5] => { results := [.lit (.bool true)], args := [d1, d2, d3, d4, d5] }
  | _ => none }
def meterTellsRow : OpenClaim := { program := "ytingpmogbibghaa", sum := "ca2e599b1fab2e504d8744c2611d64f34dcd7bdc8ef3a8d8bbd01985d277fff3", func := "turnout/turnoutlaw43.MeterTells", spec := "meterTells", inPlace := ["math.Float64frombits", "math.Float64bits"], unfollowed := true, recurses := true, plainKeys := false, apart := false }
def MeterTellsSaid : Prop := meterTellsRow.holds Try.pinned (OpenSpec.ofChange meterTellsSpec)

/-- ITS FALSE NEIGHBOUR: 'it returns false'. Refute it at one input. -/
def meterTellsWrong : ChangeSpec := { name := "meterTells", fn := fun _ => fun
  | [d1, d2, d3, d4, d5] => { results := [.lit (.bool false)], args := [d1, d2, d3, d4, d5] }
  | _ => none }
def MeterTellsWrongFalsely : Prop := meterTellsRow.holds Try.pinned (OpenSpec.ofChange meterTellsWrong)

/-- 'turnoutlaw43.MeterSorts': WHATEVER THE INPUT: true; the input reads as it did. -/
def meterSortsSpec : ChangeSpec := { name := "meterSorts", fn := fun _ => fun
  | [d1, d2] => { results := [.lit (.bool true)], args := [d1, d2] }
  | _ => none }
def meterSortsRow : OpenClaim := { program := "ytingpmogbibghaa", sum := "ca2e599b1fab2e504d8744c2611d64f34dcd7bdc8ef3a8d8bbd01985d277fff3", func := "turnout/turnoutlaw43.MeterSorts", spec := "meterSorts", inPlace := ["math.Float64frombits", "math.Float64bits"], unfollowed := true, recurses := true, plainKeys := false, apart := false }
def MeterSortsSaid : Prop := meterSortsRow.holds Try.pinned (OpenSpec.ofChange meterSortsSpec)

/-- ITS FALSE NEIGHBOUR: 'it returns false'. Refute it at one input. -/
def meterSortsWrong : ChangeSpec := { name := "meterSorts", fn := fun _ => fun
  | [d1, d2] => { results := [.lit (.bool false)], args := [d1, d2] }
  | _ => none }
def MeterSortsWrongFalsely : Prop := meterSortsRow.holds Try.pinned (OpenSpec.ofChange meterSortsWrong)

/-- 'turnoutlaw43.MeterPlays': WHATEVER THE INPUT: true; the input reads as it did. -/
def meterPlaysSpec : ChangeSpec := { name := "meterPlays", fn := fun _ => fun
  | [d1, d2] => { results := [.lit (.bool true)], args := [d1, d2] }
  | _ => none }
def meterPlaysRow : OpenClaim := { program := "ytingpmogbibghaa", sum := "ca2e599b1fab2e504d8744c2611d64f34dcd7bdc8ef3a8d8bbd01985d277fff3", func := "turnout/turnoutlaw43.MeterPlays", spec := "meterPlays", inPlace := ["math.Float64frombits", "math.Float64bits"], unfollowed := true, recurses := true, plainKeys := false, apart := false }
def MeterPlaysSaid : Prop := meterPlaysRow.holds Try.pinned (OpenSpec.ofChange meterPlaysSpec)

/-- ITS FALSE NEIGHBOUR: 'it returns false'. Refute it at one input. -/
def meterPlaysWrong : ChangeSpec := { name := "meterPlays", fn := fun _ => fun
  | [d1, d2] => { results := [.lit (.bool false)], args := [d1, d2] }
  | _ => none }
def MeterPlaysWrongFalsely : Prop := meterPlaysRow.holds Try.pinned (OpenSpec.ofChange meterPlaysWrong)

/-- 'turnoutlaw35.WirePlays': WHATEVER THE INPUT: true; the input reads as it did. -/
def wirePlaysSpec : ChangeSpec := { name := "wirePlays", fn := fun _ => fun
  | [d1, d2] => { results := [.lit (.bool true)], args := [d1, d2] }
  | _ => none }
def wirePlaysRow : OpenClaim := { program := "ytingpmogbibghaa", sum := "ca2e599b1fab2e504d8744c2611d64f34dcd7bdc8ef3a8d8bbd01985d277fff3", func := "turnout/turnoutlaw35.WirePlays", spec := "wirePlays", unfollowed := true, recurses := true, plainKeys := false, apart := false }
def WirePlaysSaid : Prop := wirePlaysRow.holds Try.pinned (OpenSpec.ofChange wirePlaysSpec)

/-- ITS FALSE NEIGHBOUR: 'it returns false'. Refute it at one input. -/
def wirePlaysWrong : ChangeSpec := { name := "wirePlays", fn := fun _ => fun
  | [d1, d2] => { results := [.lit (.bool false)], args := [d1, d2] }
  | _ => none }
def WirePlaysWrongFalsely : Prop := wirePlaysRow.holds Try.pinned (OpenSpec.ofChange wirePlaysWrong)

/-- 'turnoutlaw35.WireTimes': WHATEVER THE INPUT: true; the input reads as it did. -/
def wireTimesSpec : ChangeSpec := { name := "wireTimes", fn := fun _ => fun
  | [d1, d2] => { results := [.lit (.bool true)], args := [d1, d2] }
  | _ => none }
def wireTimesRow : OpenClaim := { program := "ytingpmogbibghaa", sum := "ca2e599b1fab2e504d8744c2611d64f34dcd7bdc8ef3a8d8bbd01985d277fff3", func := "turnout/turnoutlaw35.WireTimes", spec := "wireTimes", unfollowed := true, recurses := true, plainKeys := false, apart := false }
def WireTimesSaid : Prop := wireTimesRow.holds Try.pinned (OpenSpec.ofChange wireTimesSpec)

/-- ITS FALSE NEIGHBOUR: 'it returns false'. Refute it at one input. -/
def wireTimesWrong : ChangeSpec := { name := "wireTimes", fn := fun _ => fun
  | [d1, d2] => { results := [.lit (.bool false)], args := [d1, d2] }
  | _ => none }
def WireTimesWrongFalsely : Prop := wireTimesRow.holds Try.pinned (OpenSpec.ofChange wireTimesWrong)

/-- 'turnoutlaw19.ShortGrows': WHATEVER THE INPUT: true; the input reads as it did. -/
def shortGrowsSpec : ChangeSpec := { name := "shortGrows", fn := fun _ => fun
  | [d1, d2, d3, d4, d5] => { results := [.lit (.bool true)], args := [d1, d2, d3, d4, d5] }
  | _ => none }
def shortGrowsRow : OpenClaim := { program := "ytingpmogbibghaa", sum := "ca2e599b1fab2e504d8744c2611d64f34dcd7bdc8ef3a8d8bbd01985d277fff3", func := "turnout/turnoutlaw19.ShortGrows", spec := "shortGrows", inPlace := ["math.Float64frombits", "math.Float64bits"], unfollowed := true, recurses := true, plainKeys := false, apart := false }
def ShortGrowsSaid : Prop := shortGrowsRow.holds Try.pinned (OpenSpec.ofChange shortGrowsSpec)

/-- ITS FALSE NEIGHBOUR: 'it returns false'. Refute it at one input. -/
def shortGrowsWrong : ChangeSpec := { name := "shortGrows", fn := fun _ => fun
  | [d1, d2, d3, d4, d5] => { results := [.lit (.bool false)], args := [d1, d2, d3, d4, d5] }
  | _ => none }
def ShortGrowsWrongFalsely : Prop := shortGrowsRow.holds Try.pinned (OpenSpec.ofChange shortGrowsWrong)

/-- 'turnoutlaw19.ShortTells': WHATEVER THE INPUT: true; the input reads as it did. -/
def shortTellsSpec : ChangeSpec := { name := "shortTells", fn := fun _ => fun
  | [d1, d2, d3, d4] => { results := [.lit (.bool true)], args := [d1, d2, d3, d4] }
  | _ => none }
def shortTellsRow : OpenClaim := { program := "ytingpmogbibghaa", sum := "ca2e599b1fab2e504d8744c2611d64f34dcd7bdc8ef3a8d8bbd01985d277fff3", func := "turnout/turnoutlaw19.ShortTells", spec := "shortTells", inPlace := ["math.Float64frombits", "math.Float64bits"], unfollowed := true, recurses := true, plainKeys := false, apart := false }
def ShortTellsSaid : Prop := shortTellsRow.holds Try.pinned (OpenSpec.ofChange shortTellsSpec)

/-- ITS FALSE NEIGHBOUR: 'it returns false'. Refute it at one input. -/
def shortTellsWrong : ChangeSpec := { name := "shortTells", fn := fun _ => fun
  | [d1, d2, d3, d4] => { results := [.lit (.bool false)], args := [d1, d2, d3, d4] }
  | _ => none }
def ShortTellsWrongFalsely : Prop := shortTellsRow.holds Try.pinned (OpenSpec.ofChange shortTellsWrong)

/-- 'turnoutlaw19.ShortBest': WHATEVER THE INPUT: true; the input reads as it did. -/
def shortBestSpec : ChangeSpec := { name := "shortBest", fn := fun _ => fun
  | [d1, d2, d3, d4] => { results := [.lit (.bool true)], args := [d1, d2, d3, d4] }
  | _ => none }
def shortBestRow : OpenClaim := { program := "ytingpmogbibghaa", sum := "ca2e599b1fab2e504d8744c2611d64f34dcd7bdc8ef3a8d8bbd01985d277fff3", func := "turnout/turnoutlaw19.ShortBest", spec := "shortBest", inPlace := ["math.Float64frombits", "math.Float64bits"], unfollowed := true, recurses := true, plainKeys := false, apart := false }
def ShortBestSaid : Prop := shortBestRow.holds Try.pinned (OpenSpec.ofChange shortBestSpec)

/-- ITS FALSE NEIGHBOUR: 'it returns false'. Refute it at one input. -/
def shortBestWrong : ChangeSpec := { name := "shortBest", fn := fun _ => fun
  | [d1, d2, d3, d4] => { results := [.lit (.bool false)], args := [d1, d2, d3, d4] }
  | _ => none }
def ShortBestWrongFalsely : Prop := shortBestRow.holds Try.pinned (OpenSpec.ofChange shortBestWrong)

/-- 'turnoutlaw19.ShortTree': WHATEVER THE INPUT: true; the input reads as it did. -/
def shortTreeSpec : ChangeSpec := { name := "shortTree", fn := fun _ => fun
  | [d1, d2, d3, d4] => { results := [.lit (.bool true)], args := [d1, d2, d3, d4] }
  | _ => none }
def shortTreeRow : OpenClaim := { program := "ytingpmogbibghaa", sum := "ca2e599b1fab2e504d8744c2611d64f34dcd7bdc8ef3a8d8bbd01985d277fff3", func := "turnout/turnoutlaw19.ShortTree", spec := "shortTree", inPlace := ["math.Float64frombits", "math.Float64bits"], unfollowed := true, recurses := true, plainKeys := false, apart := false }
def ShortTreeSaid : Prop := shortTreeRow.holds Try.pinned (OpenSpec.ofChange shortTreeSpec)

/-- ITS FALSE NEIGHBOUR: 'it returns false'. Refute it at one input. -/
def shortTreeWrong : ChangeSpec := { name := "shortTree", fn := fun _ => fun
  | [d1, d2, d3, d4] => { results := [.lit (.bool false)], args := [d1, d2, d3, d4] }
  | _ => none }
def ShortTreeWrongFalsely : Prop := shortTreeRow.holds Try.pinned (OpenSpec.ofChange shortTreeWrong)

/-- 'turnoutlaw21.RouteTrees': WHATEVER THE INPUT: true; the input reads as it did. -/
def routeTreesSpec : ChangeSpec := { name := "routeTrees", fn := fun _ => fun
  | [d1, d2] => { results := [.lit (.bool true)], args := [d1, d2] }
  | _ => none }
def routeTreesRow : OpenClaim := { program := "ytingpmogbibghaa", sum := "ca2e599b1fab2e504d8744c2611d64f34dcd7bdc8ef3a8d8bbd01985d277fff3", func := "turnout/turnoutlaw21.RouteTrees", spec := "routeTrees", inPlace := ["math.Float64frombits", "math.Float64bits"], unfollowed := true, recurses := true, plainKeys := false, apart := false }
def RouteTreesSaid : Prop := routeTreesRow.holds Try.pinned (OpenSpec.ofChange routeTreesSpec)

/-- ITS FALSE NEIGHBOUR: 'it returns false'. Refute it at one input. -/
def routeTreesWrong : ChangeSpec := { name := "routeTrees", fn := fun _ => fun
  | [d1, d2] => { results := [.lit (.bool false)], args := [d1, d2] }
  | _ => none }
def RouteTreesWrongFalsely : Prop := routeTreesRow.holds Try.pinned (OpenSpec.ofChange routeTreesWrong)

/- THE SECOND FORM. 'bulk': how many values and letters a reading holds, each counted each time it is reached (what is shared counts as often as it is met; a slice's spare places count too). A statement '..UptoSaid' is the law's where the arguments, and the package variables that the reading takes, are together of bulk at most 1048576: NARROWER than '..Said'. Prove '..Said' where nothing that the law and all that it calls make is longer than what came in: it says more and counts as full. Else prove '..UptoSaid'. A law counts once. -/
mutual
def uptoBulk {H : Type} : DataW H → Nat
  | .lit (.string bytes) => bytes.length + 1
  | .lit _ => 1
  | .nil => 1
  | .ptr d => uptoBulk d + 1
  | .slice elems spare => uptoBulkAll elems + uptoBulkAll spare + 1
  | .agg parts => uptoBulkAll parts + 1
  | .iface _ d => uptoBulk d + 1
  | .map entries => uptoBulkEntries entries + 1
  | .held _ => 1
def uptoBulkAll {H : Type} : List (DataW H) → Nat
  | [] => 0
  | d :: r => uptoBulk d + uptoBulkAll r
def uptoBulkEntries {H : Type} : List (Lit × DataW H) → Nat
  | [] => 0
  | x :: r => uptoBulkEntry x + uptoBulkEntries r
def uptoBulkEntry {H : Type} : Lit × DataW H → Nat
  | (.string bytes, d) => bytes.length + uptoBulk d + 1
  | (_, d) => uptoBulk d + 1
 end
def uptoSmall : (H : Type) → List (DataW H) → Bool := fun _ ds => decide (uptoBulkAll ds ≤ 1048576)
def OpenSpec.upto (s : _root_.Go.ChangeSpec) : _root_.Go.OpenSpec := { _root_.Go.OpenSpec.ofChange s with cond := some uptoSmall }

/-- 'turnoutlaw43.MeterBetween', WHERE WHAT IT READS IS OF BULK AT MOST 1048576: true; the input reads as it did. -/
def meterBetweenUptoRow : OpenClaim := { program := "ytingpmogbibghaa", sum := "ca2e599b1fab2e504d8744c2611d64f34dcd7bdc8ef3a8d8bbd01985d277fff3", func := "turnout/turnoutlaw43.MeterBetween", spec := "meterBetween", inPlace := ["math.Float64frombits", "math.Float64bits"], unfollowed := true, recurses := true, plainKeys := false, apart := false, narrowed := true }
def MeterBetweenUptoSaid : Prop := meterBetweenUptoRow.holds Try.pinned (OpenSpec.upto meterBetweenSpec)

/-- 'turnoutlaw43.MeterTells', WHERE WHAT IT READS IS OF BULK AT MOST 1048576: true; the input reads as it did. -/
def meterTellsUptoRow : OpenClaim := { program := "ytingpmogbibghaa", sum := "ca2e599b1fab2e504d8744c2611d64f34dcd7bdc8ef3a8d8bbd01985d277fff3", func := "turnout/turnoutlaw43.MeterTells", spec := "meterTells", inPlace := ["math.Float64frombits", "math.Float64bits"], unfollowed := true, recurses := true, plainKeys := false, apart := false, narrowed := true }
def MeterTellsUptoSaid : Prop := meterTellsUptoRow.holds Try.pinned (OpenSpec.upto meterTellsSpec)

/-- 'turnoutlaw43.MeterSorts', WHERE WHAT IT READS IS OF BULK AT MOST 1048576: true; the input reads as it did. -/
def meterSortsUptoRow : OpenClaim := { program := "ytingpmogbibghaa", sum := "ca2e599b1fab2e504d8744c2611d64f34dcd7bdc8ef3a8d8bbd01985d277fff3", func := "turnout/turnoutlaw43.MeterSorts", spec := "meterSorts", inPlace := ["math.Float64frombits", "math.Float64bits"], unfollowed := true, recurses := true, plainKeys := false, apart := false, narrowed := true }
def MeterSortsUptoSaid : Prop := meterSortsUptoRow.holds Try.pinned (OpenSpec.upto meterSortsSpec)

/-- 'turnoutlaw43.MeterPlays', WHERE WHAT IT READS IS OF BULK AT MOST 1048576: true; the input reads as it did. -/
def meterPlaysUptoRow : OpenClaim := { program := "ytingpmogbibghaa", sum := "ca2e599b1fab2e504d8744c2611d64f34dcd7bdc8ef3a8d8bbd01985d277fff3", func := "turnout/turnoutlaw43.MeterPlays", spec := "meterPlays", inPlace := ["math.Float64frombits", "math.Float64bits"], unfollowed := true, recurses := true, plainKeys := false, apart := false, narrowed := true }
def MeterPlaysUptoSaid : Prop := meterPlaysUptoRow.holds Try.pinned (OpenSpec.upto meterPlaysSpec)

/-- 'turnoutlaw35.WirePlays', WHERE WHAT IT READS IS OF BULK AT MOST 1048576: true; the input reads as it did. -/
def wirePlaysUptoRow : OpenClaim := { program := "ytingpmogbibghaa", sum := "ca2e599b1fab2e504d8744c2611d64f34dcd7bdc8ef3a8d8bbd01985d277fff3", func := "turnout/turnoutlaw35.WirePlays", spec := "wirePlays", unfollowed := true, recurses := true, plainKeys := false, apart := false, narrowed := true }
def WirePlaysUptoSaid : Prop := wirePlaysUptoRow.holds Try.pinned (OpenSpec.upto wirePlaysSpec)

/-- 'turnoutlaw35.WireTimes', WHERE WHAT IT READS IS OF BULK AT MOST 1048576: true; the input reads as it did. -/
def wireTimesUptoRow : OpenClaim := { program := "ytingpmogbibghaa", sum := "ca2e599b1fab2e504d8744c2611d64f34dcd7bdc8ef3a8d8bbd01985d277fff3", func := "turnout/turnoutlaw35.WireTimes", spec := "wireTimes", unfollowed := true, recurses := true, plainKeys := false, apart := false, narrowed := true }
def WireTimesUptoSaid : Prop := wireTimesUptoRow.holds Try.pinned (OpenSpec.upto wireTimesSpec)

/-- 'turnoutlaw19.ShortGrows', WHERE WHAT IT READS IS OF BULK AT MOST 1048576: true; the input reads as it did. -/
def shortGrowsUptoRow : OpenClaim := { program := "ytingpmogbibghaa", sum := "ca2e599b1fab2e504d8744c2611d64f34dcd7bdc8ef3a8d8bbd01985d277fff3", func := "turnout/turnoutlaw19.ShortGrows", spec := "shortGrows", inPlace := ["math.Float64frombits", "math.Float64bits"], unfollowed := true, recurses := true, plainKeys := false, apart := false, narrowed := true }
def ShortGrowsUptoSaid : Prop := shortGrowsUptoRow.holds Try.pinned (OpenSpec.upto shortGrowsSpec)

/-- 'turnoutlaw19.ShortTells', WHERE WHAT IT READS IS OF BULK AT MOST 1048576: true; the input reads as it did. -/
def shortTellsUptoRow : OpenClaim := { program := "ytingpmogbibghaa", sum := "ca2e599b1fab2e504d8744c2611d64f34dcd7bdc8ef3a8d8bbd01985d277fff3", func := "turnout/turnoutlaw19.ShortTells", spec := "shortTells", inPlace := ["math.Float64frombits", "math.Float64bits"], unfollowed := true, recurses := true, plainKeys := false, apart := false, narrowed := true }
def ShortTellsUptoSaid : Prop := shortTellsUptoRow.holds Try.pinned (OpenSpec.upto shortTellsSpec)

/-- 'turnoutlaw19.ShortBest', WHERE WHAT IT READS IS OF BULK AT MOST 1048576: true; the input reads as it did. -/
def shortBestUptoRow : OpenClaim := { program := "ytingpmogbibghaa", sum := "ca2e599b1fab2e504d8744c2611d64f34dcd7bdc8ef3a8d8bbd01985d277fff3", func := "turnout/turnoutlaw19.ShortBest", spec := "shortBest", inPlace := ["math.Float64frombits", "math.Float64bits"], unfollowed := true, recurses := true, plainKeys := false, apart := false, narrowed := true }
def ShortBestUptoSaid : Prop := shortBestUptoRow.holds Try.pinned (OpenSpec.upto shortBestSpec)

/-- 'turnoutlaw19.ShortTree', WHERE WHAT IT READS IS OF BULK AT MOST 1048576: true; the input reads as it did. -/
def shortTreeUptoRow : OpenClaim := { program := "ytingpmogbibghaa", sum := "ca2e599b1fab2e504d8744c2611d64f34dcd7bdc8ef3a8d8bbd01985d277fff3", func := "turnout/turnoutlaw19.ShortTree", spec := "shortTree", inPlace := ["math.Float64frombits", "math.Float64bits"], unfollowed := true, recurses := true, plainKeys := false, apart := false, narrowed := true }
def ShortTreeUptoSaid : Prop := shortTreeUptoRow.holds Try.pinned (OpenSpec.upto shortTreeSpec)

/-- 'turnoutlaw21.RouteTrees', WHERE WHAT IT READS IS OF BULK AT MOST 1048576: true; the input reads as it did. -/
def routeTreesUptoRow : OpenClaim := { program := "ytingpmogbibghaa", sum := "ca2e599b1fab2e504d8744c2611d64f34dcd7bdc8ef3a8d8bbd01985d277fff3", func := "turnout/turnoutlaw21.RouteTrees", spec := "routeTrees", inPlace := ["math.Float64frombits", "math.Float64bits"], unfollowed := true, recurses := true, plainKeys := false, apart := false, narrowed := true }
def RouteTreesUptoSaid : Prop := routeTreesUptoRow.holds Try.pinned (OpenSpec.upto routeTreesSpec)

end Rows
end Go.Proofs.Ytingpmogbibghaa
