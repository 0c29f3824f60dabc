/-
  DERIVED. GIVEN WITH THE SEED: THE CARDS: each row of YtpbcckjedaieoaaGreatDoorRows.lean that lists a variable, with what it lists TIED to the program's text (the seventh form; the later family's looks); each row that meets fmt, with fmt's text TOLD by the authors' own Lean function (tested against real Go, not proved from fmt's source: count such statements apart). THE CARD IS WHAT COUNTS. Prove the row's statement (the work); the ties are given (YtpbcckjedaieoaaGreatDoorTie.lean); close each card by the builder's one call (the guide's Derived/Test/ToyasCard.lean, 'card_holds'). Laid BY PROGRAM, IN A SANDBOX (cutbox-door.mjs). By AI agents, Wed Nov 11 2026. No macro, syntax, notation, axiom, sorry.
-/
import Derived.Test.YtpbcckjedaieoaaGreatDoorRows
import GoSem.ClaimSeven
namespace Go.Proofs.YtpbcckjedaieoaaGreatDoor
namespace Rows

/-- THE TIED CARD OF 'leporellolaw12.AnswerSums'. -/
def answerSumsCard : Claim7 := { stood := { row := answerSumsRow, standIns := [], harness := (true, "0c4277b2f5d2523bc03e5dc7efc638a0acf3777ef451d05efb5efcccd255915c"), looks := true }, kinds := [], alts := [], laidByText := true, laidKinds := [.data, .data, .data, .sentinel, .sentinel], laidTests := true, laidLooks := .later }
def AnswerSumsCardSaid : Prop := Claim7.holds Tryz.pinned (.plain (OpenSpec.ofChange answerSumsSpec)) answerSumsCard

/-- THE SECOND FORM's CARD OF 'leporellolaw12.AnswerSums'. -/
def answerSumsUptoCard : Claim7 := { stood := { row := answerSumsUptoRow, standIns := [], harness := (true, "0c4277b2f5d2523bc03e5dc7efc638a0acf3777ef451d05efb5efcccd255915c"), looks := true }, kinds := [], alts := [], laidByText := true, laidKinds := [.data, .data, .data, .sentinel, .sentinel], laidTests := true, laidLooks := .later }
def AnswerSumsUptoCardSaid : Prop := Claim7.holds Tryz.pinned (.plain (OpenSpec.upto answerSumsSpec)) answerSumsUptoCard
end Rows
end Go.Proofs.YtpbcckjedaieoaaGreatDoor
