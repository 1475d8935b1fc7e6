/-
  DERIVED. GIVEN WITH THE SEED: THE CARDS: each row of YtjfhiochcdjkhaaDoorRows.lean that lists a variable, with what it lists TIED to the program's text (the seventh form; the later family's looks); each row that meets fmt, with fmt's text TOLD by the authors' own Lean function (tested against real Go, not proved from fmt's source: count such statements apart). THE CARD IS WHAT COUNTS. Prove the row's statement (the work); the ties are given (YtjfhiochcdjkhaaDoorTie.lean); close each card by the builder's one call (the guide's Derived/Test/ToyasCard.lean, 'card_holds'). Laid BY PROGRAM, IN A SANDBOX (cutbox-door.mjs). By AI agents, Wed Nov 11 2026. No macro, syntax, notation, axiom, sorry.
-/
import Derived.Test.YtjfhiochcdjkhaaDoorRows
import GoSem.ClaimSeven
namespace Go.Proofs.YtjfhiochcdjkhaaDoor
namespace Rows

/-- THE TIED CARD OF 'turnoutlaw20.GraphTells'. -/
def graphTellsCard : Claim7 := { stood := { row := graphTellsRow, standIns := [], harness := (true, "0d04dd1a8c69c7613ea055b1c54341e66361d7a5c4d4a3e19b7a29ed85e7a955"), looks := false }, kinds := [], alts := [], laidByText := true, laidKinds := [.data], laidTests := true, laidLooks := .later }
def GraphTellsCardSaid : Prop := Claim7.holds Tryd.pinned (.plain (OpenSpec.ofChange graphTellsSpec)) graphTellsCard

/-- THE SECOND FORM's CARD OF 'turnoutlaw20.GraphTells'. -/
def graphTellsUptoCard : Claim7 := { stood := { row := graphTellsUptoRow, standIns := [], harness := (true, "0d04dd1a8c69c7613ea055b1c54341e66361d7a5c4d4a3e19b7a29ed85e7a955"), looks := false }, kinds := [], alts := [], laidByText := true, laidKinds := [.data], laidTests := true, laidLooks := .later }
def GraphTellsUptoCardSaid : Prop := Claim7.holds Tryd.pinned (.plain (OpenSpec.upto graphTellsSpec)) graphTellsUptoCard
end Rows
end Go.Proofs.YtjfhiochcdjkhaaDoor
