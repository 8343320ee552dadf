/-
  DERIVED. GIVEN WITH THE SEED: THE CARDS: each row of YtnmdojgfedddbaaGreatDoorRows.lean that lists a variable, with what it lists TIED to the program's text (the seventh form; the later family's looks); each row that meets fmt, with fmt's text TOLD by the authors' own Lean function (tested against real Go, not proved from fmt's source: count such statements apart). THE CARD IS WHAT COUNTS. Prove the row's statement (the work); the ties are given (YtnmdojgfedddbaaGreatDoorTie.lean); close each card by the builder's one call (the guide's Derived/Test/ToyasCard.lean, 'card_holds'). Laid BY PROGRAM, IN A SANDBOX (cutbox-door.mjs). By AI agents, Wed Nov 11 2026. No macro, syntax, notation, axiom, sorry.
-/
import Derived.Test.YtnmdojgfedddbaaGreatDoorRows
import GoSem.ClaimSeven
namespace Go.Proofs.YtnmdojgfedddbaaGreatDoor
namespace Rows

/-- THE TIED CARD OF 'culletlaw01.BatchKnown'. -/
def batchKnownCard : Claim7 := { stood := { row := batchKnownRow, standIns := [], harness := (true, "a485d0d60c7f572b331b41d1a6b29b0cb67e596821162a68a04afc3951779d5f"), looks := true }, kinds := [], alts := [], laidByText := true, laidKinds := [.data, .data, .data, .data, .sentinel, .sentinel, .pinned], laidTests := true, laidLooks := .later }
def BatchKnownCardSaid : Prop := Claim7.holds Tryz.pinned (.plain (OpenSpec.ofChange batchKnownSpec)) batchKnownCard

/-- THE TIED CARD OF 'culletlaw01.BatchBack'. -/
def batchBackCard : Claim7 := { stood := { row := batchBackRow, standIns := [], harness := (true, "a485d0d60c7f572b331b41d1a6b29b0cb67e596821162a68a04afc3951779d5f"), looks := true }, kinds := [], alts := [], laidByText := true, laidKinds := [.data, .data, .data, .data, .sentinel, .sentinel, .pinned], laidTests := true, laidLooks := .later }
def BatchBackCardSaid : Prop := Claim7.holds Tryz.pinned (.plain (OpenSpec.ofChange batchBackSpec)) batchBackCard

/-- THE TIED CARD OF 'culletlaw01.BatchTexts'. -/
def batchTextsCard : Claim7 := { stood := { row := batchTextsRow, standIns := [], harness := (true, "a485d0d60c7f572b331b41d1a6b29b0cb67e596821162a68a04afc3951779d5f"), looks := true }, kinds := [], alts := [], laidByText := true, laidKinds := [.data, .data, .data, .data, .sentinel, .sentinel, .pinned], laidTests := true, laidLooks := .later }
def BatchTextsCardSaid : Prop := Claim7.holds Tryz.pinned (.plain (OpenSpec.ofChange batchTextsSpec)) batchTextsCard

/-- THE SECOND FORM's CARD OF 'culletlaw01.BatchKnown'. -/
def batchKnownUptoCard : Claim7 := { stood := { row := batchKnownUptoRow, standIns := [], harness := (true, "a485d0d60c7f572b331b41d1a6b29b0cb67e596821162a68a04afc3951779d5f"), looks := true }, kinds := [], alts := [], laidByText := true, laidKinds := [.data, .data, .data, .data, .sentinel, .sentinel, .pinned], laidTests := true, laidLooks := .later }
def BatchKnownUptoCardSaid : Prop := Claim7.holds Tryz.pinned (.plain (OpenSpec.upto batchKnownSpec)) batchKnownUptoCard

/-- THE SECOND FORM's CARD OF 'culletlaw01.BatchBack'. -/
def batchBackUptoCard : Claim7 := { stood := { row := batchBackUptoRow, standIns := [], harness := (true, "a485d0d60c7f572b331b41d1a6b29b0cb67e596821162a68a04afc3951779d5f"), looks := true }, kinds := [], alts := [], laidByText := true, laidKinds := [.data, .data, .data, .data, .sentinel, .sentinel, .pinned], laidTests := true, laidLooks := .later }
def BatchBackUptoCardSaid : Prop := Claim7.holds Tryz.pinned (.plain (OpenSpec.upto batchBackSpec)) batchBackUptoCard

/-- THE SECOND FORM's CARD OF 'culletlaw01.BatchTexts'. -/
def batchTextsUptoCard : Claim7 := { stood := { row := batchTextsUptoRow, standIns := [], harness := (true, "a485d0d60c7f572b331b41d1a6b29b0cb67e596821162a68a04afc3951779d5f"), looks := true }, kinds := [], alts := [], laidByText := true, laidKinds := [.data, .data, .data, .data, .sentinel, .sentinel, .pinned], laidTests := true, laidLooks := .later }
def BatchTextsUptoCardSaid : Prop := Claim7.holds Tryz.pinned (.plain (OpenSpec.upto batchTextsSpec)) batchTextsUptoCard
end Rows
end Go.Proofs.YtnmdojgfedddbaaGreatDoor
