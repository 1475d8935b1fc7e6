/-
  No cell of these rows narrows 'for every input' (looked for: loops, veiled, ifaces, maps, wideKeys, modest, calm, conditions, laid).
  DERIVED. THE GIVEN ROWS OF THIS SEAT. 8 by the template 'for every input the law returns true; each argument reads behind the call as it read before'; 0 by the template 'total and deterministic' (their statements: YtjfhiochcdjkhaaTotals.lean).
  GIVEN WITH THE SEED: the statements are not yours to turn. If you find one false, say at which input.
  Laid BY PROGRAM, IN A SANDBOX (cutbox-rows.mjs): the forced cells as the released guide's own fill.sh prints them over the translation 6212f20ada4ecb2a… (all of the seat's roots in one cut). By AI agents, Wed Nov 11 2026. No macro, syntax, notation, axiom, sorry.
-/
import Derived.Test.YtjfhiochcdjkhaaChecked
import GoSem.Claim
import GoSem.ClaimJoined
import GoSem.ClaimMapViews
import Derived.JoinedTies
import Derived.KernelRfl
namespace Go.Proofs.Ytjfhiochcdjkhaa
/- THE CELL 'sum', in the pinned program and in every row, IS THE sha256 OF THE DUMP (.gsa) THAT YtjfhiochcdjkhaaProg.lean LOADS. Nothing in Lean hashes anything: it is a label: what it is worth is what the hold of that sum in a sandbox is worth. -/
noncomputable def Try.pinned : Pinned := { name := "ytjfhiochcdjkhaa", sum := "6212f20ada4ecb2abd83806bb0e0ca50ececc565555fd9084c721892368c57a0", checked := Try.checked }
namespace Rows
def none {H : Type} : Left H := { results := [], args := [] }

/-- 'turnoutlaw21.RouteWalks': WHATEVER THE INPUT: true; the input reads as it did. -/
def routeWalksSpec : ChangeSpec := { name := "routeWalks", fn := fun _ => fun
  | [d1, d2, d3, d4] => { results := [.lit (.bool true)], args := [d1, d2, d3, d4] }
  | _ => none }
def routeWalksRow : OpenClaim := { program := "ytjfhiochcdjkhaa", sum := "6212f20ada4ecb2abd83806bb0e0ca50ececc565555fd9084c721892368c57a0", func := "turnout/turnoutlaw21.RouteWalks", spec := "routeWalks", unfollowed := true, recurses := true, plainKeys := false, apart := false }
def RouteWalksSaid : Prop := routeWalksRow.holds Try.pinned (OpenSpec.ofChange routeWalksSpec)

/-- ITS FALSE NEIGHBOUR: 'it returns false'. Refute it at one input. -/
def routeWalksWrong : ChangeSpec := { name := "routeWalks", fn := fun _ => fun
  | [d1, d2, d3, d4] => { results := [.lit (.bool false)], args := [d1, d2, d3, d4] }
  | _ => none }
def RouteWalksWrongFalsely : Prop := routeWalksRow.holds Try.pinned (OpenSpec.ofChange routeWalksWrong)

/-- 'turnoutlaw21.RouteTables': WHATEVER THE INPUT: true; the input reads as it did. -/
def routeTablesSpec : ChangeSpec := { name := "routeTables", fn := fun _ => fun
  | [d1, d2, d3, d4, d5] => { results := [.lit (.bool true)], args := [d1, d2, d3, d4, d5] }
  | _ => none }
def routeTablesRow : OpenClaim := { program := "ytjfhiochcdjkhaa", sum := "6212f20ada4ecb2abd83806bb0e0ca50ececc565555fd9084c721892368c57a0", func := "turnout/turnoutlaw21.RouteTables", spec := "routeTables", unfollowed := true, recurses := true, plainKeys := false, apart := false }
def RouteTablesSaid : Prop := routeTablesRow.holds Try.pinned (OpenSpec.ofChange routeTablesSpec)

/-- ITS FALSE NEIGHBOUR: 'it returns false'. Refute it at one input. -/
def routeTablesWrong : ChangeSpec := { name := "routeTables", fn := fun _ => fun
  | [d1, d2, d3, d4, d5] => { results := [.lit (.bool false)], args := [d1, d2, d3, d4, d5] }
  | _ => none }
def RouteTablesWrongFalsely : Prop := routeTablesRow.holds Try.pinned (OpenSpec.ofChange routeTablesWrong)

/-- 'turnoutlaw35.WirePlays': WHATEVER THE INPUT: true; the input reads as it did. -/
def wirePlaysSpec : ChangeSpec := { name := "wirePlays", fn := fun _ => fun
  | [d1, d2] => { results := [.lit (.bool true)], args := [d1, d2] }
  | _ => none }
def wirePlaysRow : OpenClaim := { program := "ytjfhiochcdjkhaa", sum := "6212f20ada4ecb2abd83806bb0e0ca50ececc565555fd9084c721892368c57a0", func := "turnout/turnoutlaw35.WirePlays", spec := "wirePlays", unfollowed := true, recurses := true, plainKeys := false, apart := false }
def WirePlaysSaid : Prop := wirePlaysRow.holds Try.pinned (OpenSpec.ofChange wirePlaysSpec)

/-- ITS FALSE NEIGHBOUR: 'it returns false'. Refute it at one input. -/
def wirePlaysWrong : ChangeSpec := { name := "wirePlays", fn := fun _ => fun
  | [d1, d2] => { results := [.lit (.bool false)], args := [d1, d2] }
  | _ => none }
def WirePlaysWrongFalsely : Prop := wirePlaysRow.holds Try.pinned (OpenSpec.ofChange wirePlaysWrong)

/-- 'turnoutlaw35.WireTimes': WHATEVER THE INPUT: true; the input reads as it did. -/
def wireTimesSpec : ChangeSpec := { name := "wireTimes", fn := fun _ => fun
  | [d1, d2] => { results := [.lit (.bool true)], args := [d1, d2] }
  | _ => none }
def wireTimesRow : OpenClaim := { program := "ytjfhiochcdjkhaa", sum := "6212f20ada4ecb2abd83806bb0e0ca50ececc565555fd9084c721892368c57a0", func := "turnout/turnoutlaw35.WireTimes", spec := "wireTimes", unfollowed := true, recurses := true, plainKeys := false, apart := false }
def WireTimesSaid : Prop := wireTimesRow.holds Try.pinned (OpenSpec.ofChange wireTimesSpec)

/-- ITS FALSE NEIGHBOUR: 'it returns false'. Refute it at one input. -/
def wireTimesWrong : ChangeSpec := { name := "wireTimes", fn := fun _ => fun
  | [d1, d2] => { results := [.lit (.bool false)], args := [d1, d2] }
  | _ => none }
def WireTimesWrongFalsely : Prop := wireTimesRow.holds Try.pinned (OpenSpec.ofChange wireTimesWrong)

/-- 'turnoutlaw35.WireNone': WHATEVER THE INPUT: true; the input reads as it did. -/
def wireNoneSpec : ChangeSpec := { name := "wireNone", fn := fun _ => fun
  | [d1, d2, d3] => { results := [.lit (.bool true)], args := [d1, d2, d3] }
  | _ => none }
def wireNoneRow : OpenClaim := { program := "ytjfhiochcdjkhaa", sum := "6212f20ada4ecb2abd83806bb0e0ca50ececc565555fd9084c721892368c57a0", func := "turnout/turnoutlaw35.WireNone", spec := "wireNone", unfollowed := true, recurses := true, plainKeys := false, apart := false }
def WireNoneSaid : Prop := wireNoneRow.holds Try.pinned (OpenSpec.ofChange wireNoneSpec)

/-- ITS FALSE NEIGHBOUR: 'it returns false'. Refute it at one input. -/
def wireNoneWrong : ChangeSpec := { name := "wireNone", fn := fun _ => fun
  | [d1, d2, d3] => { results := [.lit (.bool false)], args := [d1, d2, d3] }
  | _ => none }
def WireNoneWrongFalsely : Prop := wireNoneRow.holds Try.pinned (OpenSpec.ofChange wireNoneWrong)

/-- 'turnoutlaw17.TopoPeers': WHATEVER THE INPUT: true; the input reads as it did. -/
def topoPeersSpec : ChangeSpec := { name := "topoPeers", fn := fun _ => fun
  | [d1, d2, d3] => { results := [.lit (.bool true)], args := [d1, d2, d3] }
  | _ => none }
def topoPeersRow : OpenClaim := { program := "ytjfhiochcdjkhaa", sum := "6212f20ada4ecb2abd83806bb0e0ca50ececc565555fd9084c721892368c57a0", func := "turnout/turnoutlaw17.TopoPeers", spec := "topoPeers", unfollowed := true, recurses := true, plainKeys := false, apart := false }
def TopoPeersSaid : Prop := topoPeersRow.holds Try.pinned (OpenSpec.ofChange topoPeersSpec)

/-- ITS FALSE NEIGHBOUR: 'it returns false'. Refute it at one input. -/
def topoPeersWrong : ChangeSpec := { name := "topoPeers", fn := fun _ => fun
  | [d1, d2, d3] => { results := [.lit (.bool false)], args := [d1, d2, d3] }
  | _ => none }
def TopoPeersWrongFalsely : Prop := topoPeersRow.holds Try.pinned (OpenSpec.ofChange topoPeersWrong)

/-- 'turnoutlaw17.TopoHops': WHATEVER THE INPUT: true; the input reads as it did. -/
def topoHopsSpec : ChangeSpec := { name := "topoHops", fn := fun _ => fun
  | [d1, d2, d3, d4] => { results := [.lit (.bool true)], args := [d1, d2, d3, d4] }
  | _ => none }
def topoHopsRow : OpenClaim := { program := "ytjfhiochcdjkhaa", sum := "6212f20ada4ecb2abd83806bb0e0ca50ececc565555fd9084c721892368c57a0", func := "turnout/turnoutlaw17.TopoHops", spec := "topoHops", unfollowed := true, recurses := true, plainKeys := false, apart := false }
def TopoHopsSaid : Prop := topoHopsRow.holds Try.pinned (OpenSpec.ofChange topoHopsSpec)

/-- ITS FALSE NEIGHBOUR: 'it returns false'. Refute it at one input. -/
def topoHopsWrong : ChangeSpec := { name := "topoHops", fn := fun _ => fun
  | [d1, d2, d3, d4] => { results := [.lit (.bool false)], args := [d1, d2, d3, d4] }
  | _ => none }
def TopoHopsWrongFalsely : Prop := topoHopsRow.holds Try.pinned (OpenSpec.ofChange topoHopsWrong)

/-- 'turnoutlaw17.TopoTells': WHATEVER THE INPUT: true; the input reads as it did. -/
def topoTellsSpec : ChangeSpec := { name := "topoTells", fn := fun _ => fun
  | [d1, d2, d3] => { results := [.lit (.bool true)], args := [d1, d2, d3] }
  | _ => none }
def topoTellsRow : OpenClaim := { program := "ytjfhiochcdjkhaa", sum := "6212f20ada4ecb2abd83806bb0e0ca50ececc565555fd9084c721892368c57a0", func := "turnout/turnoutlaw17.TopoTells", spec := "topoTells", unfollowed := true, recurses := true, plainKeys := false, apart := false }
def TopoTellsSaid : Prop := topoTellsRow.holds Try.pinned (OpenSpec.ofChange topoTellsSpec)

/-- ITS FALSE NEIGHBOUR: 'it returns false'. Refute it at one input. -/
def topoTellsWrong : ChangeSpec := { name := "topoTells", fn := fun _ => fun
  | [d1, d2, d3] => { results := [.lit (.bool false)], args := [d1, d2, d3] }
  | _ => none }
def TopoTellsWrongFalsely : Prop := topoTellsRow.holds Try.pinned (OpenSpec.ofChange topoTellsWrong)

/- THE SECOND FORM. 'bulk': how many values and letters a reading holds, each counted each time it is reached (what is shared counts as often as it is met; a slice's spare places count too). A statement '..UptoSaid' is the law's where the arguments, and the package variables that the reading takes, are together of bulk at most 1048576: NARROWER than '..Said'. Prove '..Said' where nothing that the law and all that it calls make is longer than what came in: it says more and counts as full. Else prove '..UptoSaid'. A law counts once. -/
mutual
def uptoBulk {H : Type} : DataW H → Nat
  | .lit (.string bytes) => bytes.length + 1
  | .lit _ => 1
  | .nil => 1
  | .ptr d => uptoBulk d + 1
  | .slice elems spare => uptoBulkAll elems + uptoBulkAll spare + 1
  | .agg parts => uptoBulkAll parts + 1
  | .iface _ d => uptoBulk d + 1
  | .map entries => uptoBulkEntries entries + 1
  | .held _ => 1
def uptoBulkAll {H : Type} : List (DataW H) → Nat
  | [] => 0
  | d :: r => uptoBulk d + uptoBulkAll r
def uptoBulkEntries {H : Type} : List (Lit × DataW H) → Nat
  | [] => 0
  | x :: r => uptoBulkEntry x + uptoBulkEntries r
def uptoBulkEntry {H : Type} : Lit × DataW H → Nat
  | (.string bytes, d) => bytes.length + uptoBulk d + 1
  | (_, d) => uptoBulk d + 1
 end
def uptoSmall : (H : Type) → List (DataW H) → Bool := fun _ ds => decide (uptoBulkAll ds ≤ 1048576)
def OpenSpec.upto (s : _root_.Go.ChangeSpec) : _root_.Go.OpenSpec := { _root_.Go.OpenSpec.ofChange s with cond := some uptoSmall }

/-- 'turnoutlaw21.RouteWalks', WHERE WHAT IT READS IS OF BULK AT MOST 1048576: true; the input reads as it did. -/
def routeWalksUptoRow : OpenClaim := { program := "ytjfhiochcdjkhaa", sum := "6212f20ada4ecb2abd83806bb0e0ca50ececc565555fd9084c721892368c57a0", func := "turnout/turnoutlaw21.RouteWalks", spec := "routeWalks", unfollowed := true, recurses := true, plainKeys := false, apart := false, narrowed := true }
def RouteWalksUptoSaid : Prop := routeWalksUptoRow.holds Try.pinned (OpenSpec.upto routeWalksSpec)

/-- 'turnoutlaw21.RouteTables', WHERE WHAT IT READS IS OF BULK AT MOST 1048576: true; the input reads as it did. -/
def routeTablesUptoRow : OpenClaim := { program := "ytjfhiochcdjkhaa", sum := "6212f20ada4ecb2abd83806bb0e0ca50ececc565555fd9084c721892368c57a0", func := "turnout/turnoutlaw21.RouteTables", spec := "routeTables", unfollowed := true, recurses := true, plainKeys := false, apart := false, narrowed := true }
def RouteTablesUptoSaid : Prop := routeTablesUptoRow.holds Try.pinned (OpenSpec.upto routeTablesSpec)

/-- 'turnoutlaw35.WirePlays', WHERE WHAT IT READS IS OF BULK AT MOST 1048576: true; the input reads as it did. -/
def wirePlaysUptoRow : OpenClaim := { program := "ytjfhiochcdjkhaa", sum := "6212f20ada4ecb2abd83806bb0e0ca50ececc565555fd9084c721892368c57a0", func := "turnout/turnoutlaw35.WirePlays", spec := "wirePlays", unfollowed := true, recurses := true, plainKeys := false, apart := false, narrowed := true }
def WirePlaysUptoSaid : Prop := wirePlaysUptoRow.holds Try.pinned (OpenSpec.upto wirePlaysSpec)

/-- 'turnoutlaw35.WireTimes', WHERE WHAT IT READS IS OF BULK AT MOST 1048576: true; the input reads as it did. -/
def wireTimesUptoRow : OpenClaim := { program := "ytjfhiochcdjkhaa", sum := "6212f20ada4ecb2abd83806bb0e0ca50ececc565555fd9084c721892368c57a0", func := "turnout/turnoutlaw35.WireTimes", spec := "wireTimes", unfollowed := true, recurses := true, plainKeys := false, apart := false, narrowed := true }
def WireTimesUptoSaid : Prop := wireTimesUptoRow.holds Try.pinned (OpenSpec.upto wireTimesSpec)

/-- 'turnoutlaw35.WireNone', WHERE WHAT IT READS IS OF BULK AT MOST 1048576: true; the input reads as it did. -/
def wireNoneUptoRow : OpenClaim := { program := "ytjfhiochcdjkhaa", sum := "6212f20ada4ecb2abd83806bb0e0ca50ececc565555fd9084c721892368c57a0", func := "turnout/turnoutlaw35.WireNone", spec := "wireNone", unfollowed := true, recurses := true, plainKeys := false, apart := false, narrowed := true }
def WireNoneUptoSaid : Prop := wireNoneUptoRow.holds Try.pinned (OpenSpec.upto wireNoneSpec)

/-- 'turnoutlaw17.TopoPeers', WHERE WHAT IT READS IS OF BULK AT MOST 1048576: true; the input reads as it did. -/
def topoPeersUptoRow : OpenClaim := { program := "ytjfhiochcdjkhaa", sum := "6212f20ada4ecb2abd83806bb0e0ca50ececc565555fd9084c721892368c57a0", func := "turnout/turnoutlaw17.TopoPeers", spec := "topoPeers", unfollowed := true, recurses := true, plainKeys := false, apart := false, narrowed := true }
def TopoPeersUptoSaid : Prop := topoPeersUptoRow.holds Try.pinned (OpenSpec.upto topoPeersSpec)

/-- 'turnoutlaw17.TopoHops', WHERE WHAT IT READS IS OF BULK AT MOST 1048576: true; the input reads as it did. -/
def topoHopsUptoRow : OpenClaim := { program := "ytjfhiochcdjkhaa", sum := "6212f20ada4ecb2abd83806bb0e0ca50ececc565555fd9084c721892368c57a0", func := "turnout/turnoutlaw17.TopoHops", spec := "topoHops", unfollowed := true, recurses := true, plainKeys := false, apart := false, narrowed := true }
def TopoHopsUptoSaid : Prop := topoHopsUptoRow.holds Try.pinned (OpenSpec.upto topoHopsSpec)

/-- 'turnoutlaw17.TopoTells', WHERE WHAT IT READS IS OF BULK AT MOST 1048576: true; the input reads as it did. -/
def topoTellsUptoRow : OpenClaim := { program := "ytjfhiochcdjkhaa", sum := "6212f20ada4ecb2abd83806bb0e0ca50ececc565555fd9084c721892368c57a0", func := "turnout/turnoutlaw17.TopoTells", spec := "topoTells", unfollowed := true, recurses := true, plainKeys := false, apart := false, narrowed := true }
def TopoTellsUptoSaid : Prop := topoTellsUptoRow.holds Try.pinned (OpenSpec.upto topoTellsSpec)

end Rows
end Go.Proofs.Ytjfhiochcdjkhaa
