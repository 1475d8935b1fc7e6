/-
  DERIVED. GIVEN WITH THE SEED: THE CARDS: each row of YtpnnnoagjcpmhaaDoorRows.lean that lists a variable, with what it lists TIED to the program's text (the seventh form; the later family's looks); each row that meets fmt, with fmt's text TOLD by the authors' own Lean function (tested against real Go, not proved from fmt's source: count such statements apart). THE CARD IS WHAT COUNTS. Prove the row's statement (the work); the ties are given (YtpnnnoagjcpmhaaDoorTie.lean); close each card by the builder's one call (the guide's Derived/Test/ToyasCard.lean, 'card_holds'). Laid BY PROGRAM, IN A SANDBOX (cutbox-door.mjs). By AI agents, Wed Nov 11 2026. No macro, syntax, notation, axiom, sorry.
-/
import Derived.Test.YtpnnnoagjcpmhaaDoorRows
import GoSem.ClaimSeven
namespace Go.Proofs.YtpnnnoagjcpmhaaDoor
namespace Rows

/-- THE TIED CARD OF 'turnoutlaw23.LevelUnion'. -/
def levelUnionCard : Claim7 := { stood := { row := levelUnionRow, standIns := [], harness := (true, "c742ed960163c8e399ef4b5f7877c2943639b24a2dacf1e8e85221630857917c"), looks := false }, kinds := [], alts := [], laidByText := true, laidKinds := [.data], laidTests := true, laidLooks := .later }
def LevelUnionCardSaid : Prop := Claim7.holds Tryd.pinned (.plain (OpenSpec.ofChange levelUnionSpec)) levelUnionCard

/-- THE SECOND FORM's CARD OF 'turnoutlaw23.LevelUnion'. -/
def levelUnionUptoCard : Claim7 := { stood := { row := levelUnionUptoRow, standIns := [], harness := (true, "c742ed960163c8e399ef4b5f7877c2943639b24a2dacf1e8e85221630857917c"), looks := false }, kinds := [], alts := [], laidByText := true, laidKinds := [.data], laidTests := true, laidLooks := .later }
def LevelUnionUptoCardSaid : Prop := Claim7.holds Tryd.pinned (.plain (OpenSpec.upto levelUnionSpec)) levelUnionUptoCard
end Rows
end Go.Proofs.YtpnnnoagjcpmhaaDoor
