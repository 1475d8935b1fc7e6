/-
  DERIVED. GIVEN WITH THE SEED: THE CARDS: each row of YthcplpfiidlinaaDoorRows.lean that lists a variable, with what it lists TIED to the program's text (the seventh form; the later family's looks); each row that meets fmt, with fmt's text TOLD by the authors' own Lean function (tested against real Go, not proved from fmt's source: count such statements apart). THE CARD IS WHAT COUNTS. Prove the row's statement (the work); the ties are given (YthcplpfiidlinaaDoorTie.lean); close each card by the builder's one call (the guide's Derived/Test/ToyasCard.lean, 'card_holds'). Laid BY PROGRAM, IN A SANDBOX (cutbox-door.mjs). By AI agents, Wed Nov 11 2026. No macro, syntax, notation, axiom, sorry.
-/
import Derived.Test.YthcplpfiidlinaaDoorRows
import GoSem.ClaimSeven
namespace Go.Proofs.YthcplpfiidlinaaDoor
namespace Rows

/-- THE TIED CARD OF 'turnoutlaw25.JudgeTells'. -/
def judgeTellsCard : Claim7 := { stood := { row := judgeTellsRow, standIns := [], harness := (true, "13207fef959c3081b7c3d415604005470f239d044df6dd55d3cc87ee3496e170"), looks := false }, kinds := [], alts := [], laidByText := true, laidKinds := [.data], laidTests := true, laidLooks := .later }
def JudgeTellsCardSaid : Prop := Claim7.holds Tryd.pinned (.plain (OpenSpec.ofChange judgeTellsSpec)) judgeTellsCard

/-- THE TIED CARD OF 'turnoutlaw25.JudgeSound'. -/
def judgeSoundCard : Claim7 := { stood := { row := judgeSoundRow, standIns := [], harness := (true, "13207fef959c3081b7c3d415604005470f239d044df6dd55d3cc87ee3496e170"), looks := false }, kinds := [], alts := [], laidByText := true, laidKinds := [.data], laidTests := true, laidLooks := .later }
def JudgeSoundCardSaid : Prop := Claim7.holds Tryd.pinned (.plain (OpenSpec.ofChange judgeSoundSpec)) judgeSoundCard

/-- THE TIED CARD OF 'turnoutlaw23.LevelUnion'. -/
def levelUnionCard : Claim7 := { stood := { row := levelUnionRow, standIns := [], harness := (true, "13207fef959c3081b7c3d415604005470f239d044df6dd55d3cc87ee3496e170"), looks := false }, kinds := [], alts := [], laidByText := true, laidKinds := [.data], laidTests := true, laidLooks := .later }
def LevelUnionCardSaid : Prop := Claim7.holds Tryd.pinned (.plain (OpenSpec.ofChange levelUnionSpec)) levelUnionCard

/-- THE TIED CARD OF 'turnoutlaw25.JudgeClean'. -/
def judgeCleanCard : Claim7 := { stood := { row := judgeCleanRow, standIns := [], harness := (true, "13207fef959c3081b7c3d415604005470f239d044df6dd55d3cc87ee3496e170"), looks := false }, kinds := [], alts := [], laidByText := true, laidKinds := [.data], laidTests := true, laidLooks := .later }
def JudgeCleanCardSaid : Prop := Claim7.holds Tryd.pinned (.plain (OpenSpec.ofChange judgeCleanSpec)) judgeCleanCard

/-- THE TIED CARD OF 'turnoutlaw25.JudgeFinds'. -/
def judgeFindsCard : Claim7 := { stood := { row := judgeFindsRow, standIns := [], harness := (true, "13207fef959c3081b7c3d415604005470f239d044df6dd55d3cc87ee3496e170"), looks := false }, kinds := [], alts := [], laidByText := true, laidKinds := [.data], laidTests := true, laidLooks := .later }
def JudgeFindsCardSaid : Prop := Claim7.holds Tryd.pinned (.plain (OpenSpec.ofChange judgeFindsSpec)) judgeFindsCard

/-- THE SECOND FORM's CARD OF 'turnoutlaw25.JudgeTells'. -/
def judgeTellsUptoCard : Claim7 := { stood := { row := judgeTellsUptoRow, standIns := [], harness := (true, "13207fef959c3081b7c3d415604005470f239d044df6dd55d3cc87ee3496e170"), looks := false }, kinds := [], alts := [], laidByText := true, laidKinds := [.data], laidTests := true, laidLooks := .later }
def JudgeTellsUptoCardSaid : Prop := Claim7.holds Tryd.pinned (.plain (OpenSpec.upto judgeTellsSpec)) judgeTellsUptoCard

/-- THE SECOND FORM's CARD OF 'turnoutlaw25.JudgeSound'. -/
def judgeSoundUptoCard : Claim7 := { stood := { row := judgeSoundUptoRow, standIns := [], harness := (true, "13207fef959c3081b7c3d415604005470f239d044df6dd55d3cc87ee3496e170"), looks := false }, kinds := [], alts := [], laidByText := true, laidKinds := [.data], laidTests := true, laidLooks := .later }
def JudgeSoundUptoCardSaid : Prop := Claim7.holds Tryd.pinned (.plain (OpenSpec.upto judgeSoundSpec)) judgeSoundUptoCard

/-- THE SECOND FORM's CARD OF 'turnoutlaw23.LevelUnion'. -/
def levelUnionUptoCard : Claim7 := { stood := { row := levelUnionUptoRow, standIns := [], harness := (true, "13207fef959c3081b7c3d415604005470f239d044df6dd55d3cc87ee3496e170"), looks := false }, kinds := [], alts := [], laidByText := true, laidKinds := [.data], laidTests := true, laidLooks := .later }
def LevelUnionUptoCardSaid : Prop := Claim7.holds Tryd.pinned (.plain (OpenSpec.upto levelUnionSpec)) levelUnionUptoCard

/-- THE SECOND FORM's CARD OF 'turnoutlaw25.JudgeClean'. -/
def judgeCleanUptoCard : Claim7 := { stood := { row := judgeCleanUptoRow, standIns := [], harness := (true, "13207fef959c3081b7c3d415604005470f239d044df6dd55d3cc87ee3496e170"), looks := false }, kinds := [], alts := [], laidByText := true, laidKinds := [.data], laidTests := true, laidLooks := .later }
def JudgeCleanUptoCardSaid : Prop := Claim7.holds Tryd.pinned (.plain (OpenSpec.upto judgeCleanSpec)) judgeCleanUptoCard

/-- THE SECOND FORM's CARD OF 'turnoutlaw25.JudgeFinds'. -/
def judgeFindsUptoCard : Claim7 := { stood := { row := judgeFindsUptoRow, standIns := [], harness := (true, "13207fef959c3081b7c3d415604005470f239d044df6dd55d3cc87ee3496e170"), looks := false }, kinds := [], alts := [], laidByText := true, laidKinds := [.data], laidTests := true, laidLooks := .later }
def JudgeFindsUptoCardSaid : Prop := Claim7.holds Tryd.pinned (.plain (OpenSpec.upto judgeFindsSpec)) judgeFindsUptoCard
end Rows
end Go.Proofs.YthcplpfiidlinaaDoor
