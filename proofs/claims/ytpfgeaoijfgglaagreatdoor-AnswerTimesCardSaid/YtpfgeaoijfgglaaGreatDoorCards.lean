/-
  DERIVED. GIVEN WITH THE SEED: THE CARDS: each row of YtpfgeaoijfgglaaGreatDoorRows.lean that lists a variable, with what it lists TIED to the program's text (the seventh form; the later family's looks); each row that meets fmt, with fmt's text TOLD by the authors' own Lean function (tested against real Go, not proved from fmt's source: count such statements apart). THE CARD IS WHAT COUNTS. Prove the row's statement (the work); the ties are given (YtpfgeaoijfgglaaGreatDoorTie.lean); close each card by the builder's one call (the guide's Derived/Test/ToyasCard.lean, 'card_holds'). Laid BY PROGRAM, IN A SANDBOX (cutbox-door.mjs). By AI agents, Wed Nov 11 2026. No macro, syntax, notation, axiom, sorry.
-/
import Derived.Test.YtpfgeaoijfgglaaGreatDoorRows
import GoSem.ClaimSeven
namespace Go.Proofs.YtpfgeaoijfgglaaGreatDoor
namespace Rows

/-- THE TIED CARD OF 'leporellolaw12.AnswerNumbers'. -/
def answerNumbersCard : Claim7 := { stood := { row := answerNumbersRow, standIns := [], harness := (true, "49ebb9f66f9baaaca9d1d36f39c19eb49a85fdb78e5e491f03f3825e85e386c5"), looks := true }, kinds := [], alts := [], laidByText := true, laidKinds := [.data, .data, .data, .sentinel, .sentinel], laidTests := true, laidLooks := .later }
def AnswerNumbersCardSaid : Prop := Claim7.holds Tryz.pinned (.plain (OpenSpec.ofChange answerNumbersSpec)) answerNumbersCard

/-- THE TIED CARD OF 'leporellolaw12.AnswerTimes'. -/
def answerTimesCard : Claim7 := { stood := { row := answerTimesRow, standIns := [], harness := (true, "49ebb9f66f9baaaca9d1d36f39c19eb49a85fdb78e5e491f03f3825e85e386c5"), looks := true }, kinds := [], alts := [], laidByText := true, laidKinds := [.data, .data, .data, .sentinel, .sentinel], laidTests := true, laidLooks := .later }
def AnswerTimesCardSaid : Prop := Claim7.holds Tryz.pinned (.plain (OpenSpec.ofChange answerTimesSpec)) answerTimesCard

/-- THE TIED CARD OF 'leporellolaw12.AnswerSorts'. -/
def answerSortsCard : Claim7 := { stood := { row := answerSortsRow, standIns := [], harness := (true, "49ebb9f66f9baaaca9d1d36f39c19eb49a85fdb78e5e491f03f3825e85e386c5"), looks := true }, kinds := [], alts := [], laidByText := true, laidKinds := [.data, .data, .data, .sentinel, .sentinel], laidTests := true, laidLooks := .later }
def AnswerSortsCardSaid : Prop := Claim7.holds Tryz.pinned (.plain (OpenSpec.ofChange answerSortsSpec)) answerSortsCard

/-- THE SECOND FORM's CARD OF 'leporellolaw12.AnswerNumbers'. -/
def answerNumbersUptoCard : Claim7 := { stood := { row := answerNumbersUptoRow, standIns := [], harness := (true, "49ebb9f66f9baaaca9d1d36f39c19eb49a85fdb78e5e491f03f3825e85e386c5"), looks := true }, kinds := [], alts := [], laidByText := true, laidKinds := [.data, .data, .data, .sentinel, .sentinel], laidTests := true, laidLooks := .later }
def AnswerNumbersUptoCardSaid : Prop := Claim7.holds Tryz.pinned (.plain (OpenSpec.upto answerNumbersSpec)) answerNumbersUptoCard

/-- THE SECOND FORM's CARD OF 'leporellolaw12.AnswerTimes'. -/
def answerTimesUptoCard : Claim7 := { stood := { row := answerTimesUptoRow, standIns := [], harness := (true, "49ebb9f66f9baaaca9d1d36f39c19eb49a85fdb78e5e491f03f3825e85e386c5"), looks := true }, kinds := [], alts := [], laidByText := true, laidKinds := [.data, .data, .data, .sentinel, .sentinel], laidTests := true, laidLooks := .later }
def AnswerTimesUptoCardSaid : Prop := Claim7.holds Tryz.pinned (.plain (OpenSpec.upto answerTimesSpec)) answerTimesUptoCard

/-- THE SECOND FORM's CARD OF 'leporellolaw12.AnswerSorts'. -/
def answerSortsUptoCard : Claim7 := { stood := { row := answerSortsUptoRow, standIns := [], harness := (true, "49ebb9f66f9baaaca9d1d36f39c19eb49a85fdb78e5e491f03f3825e85e386c5"), looks := true }, kinds := [], alts := [], laidByText := true, laidKinds := [.data, .data, .data, .sentinel, .sentinel], laidTests := true, laidLooks := .later }
def AnswerSortsUptoCardSaid : Prop := Claim7.holds Tryz.pinned (.plain (OpenSpec.upto answerSortsSpec)) answerSortsUptoCard
end Rows
end Go.Proofs.YtpfgeaoijfgglaaGreatDoor
