/-
  DERIVED. GIVEN WITH THE SEED: THE CARDS: each row of YtegbgpbchcjahaaGreatDoorRows.lean that lists a variable, with what it lists TIED to the program's text (the seventh form; the later family's looks); each row that meets fmt, with fmt's text TOLD by the authors' own Lean function (tested against real Go, not proved from fmt's source: count such statements apart). THE CARD IS WHAT COUNTS. Prove the row's statement (the work); the ties are given (YtegbgpbchcjahaaGreatDoorTie.lean); close each card by the builder's one call (the guide's Derived/Test/ToyasCard.lean, 'card_holds'). Laid BY PROGRAM, IN A SANDBOX (cutbox-door.mjs). By AI agents, Wed Nov 11 2026. No macro, syntax, notation, axiom, sorry.
-/
import Derived.Test.YtegbgpbchcjahaaGreatDoorRows
import GoSem.ClaimSeven
namespace Go.Proofs.YtegbgpbchcjahaaGreatDoor
namespace Rows

/-- THE TIED CARD OF 'leporellolaw12.AnswerNumbers'. -/
def answerNumbersCard : Claim7 := { stood := { row := answerNumbersRow, standIns := [], harness := (true, "f7d235b0aa93aa6988ed50fc1f7e3565e4f9b1d56cf488e20601adba5230be30"), looks := true }, kinds := [], alts := [], laidByText := true, laidKinds := [.data, .data, .data, .sentinel, .sentinel], laidTests := true, laidLooks := .later }
def AnswerNumbersCardSaid : Prop := Claim7.holds Tryz.pinned (.plain (OpenSpec.ofChange answerNumbersSpec)) answerNumbersCard

/-- THE SECOND FORM's CARD OF 'leporellolaw12.AnswerNumbers'. -/
def answerNumbersUptoCard : Claim7 := { stood := { row := answerNumbersUptoRow, standIns := [], harness := (true, "f7d235b0aa93aa6988ed50fc1f7e3565e4f9b1d56cf488e20601adba5230be30"), looks := true }, kinds := [], alts := [], laidByText := true, laidKinds := [.data, .data, .data, .sentinel, .sentinel], laidTests := true, laidLooks := .later }
def AnswerNumbersUptoCardSaid : Prop := Claim7.holds Tryz.pinned (.plain (OpenSpec.upto answerNumbersSpec)) answerNumbersUptoCard
end Rows
end Go.Proofs.YtegbgpbchcjahaaGreatDoor
