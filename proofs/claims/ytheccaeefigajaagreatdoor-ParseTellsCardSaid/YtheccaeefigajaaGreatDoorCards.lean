/-
  DERIVED. GIVEN WITH THE SEED: THE CARDS: each row of YtheccaeefigajaaGreatDoorRows.lean that lists a variable, with what it lists TIED to the program's text (the seventh form; the later family's looks); each row that meets fmt, with fmt's text TOLD by the authors' own Lean function (tested against real Go, not proved from fmt's source: count such statements apart). THE CARD IS WHAT COUNTS. Prove the row's statement (the work); the ties are given (YtheccaeefigajaaGreatDoorTie.lean); close each card by the builder's one call (the guide's Derived/Test/ToyasCard.lean, 'card_holds'). Laid BY PROGRAM, IN A SANDBOX (cutbox-door.mjs). By AI agents, Wed Nov 11 2026. No macro, syntax, notation, axiom, sorry.
-/
import Derived.Test.YtheccaeefigajaaGreatDoorRows
import GoSem.ClaimSeven
namespace Go.Proofs.YtheccaeefigajaaGreatDoor
namespace Rows

/-- THE TIED CARD OF 'leporellolaw9.KindTells'. -/
def kindTellsCard : Claim7 := { stood := { row := kindTellsRow, standIns := [], harness := (true, "f3ba985ddef6c7fdfcb4e9a1559d57f0542d2b06674e543ad4a4e572a4bac936"), looks := true }, kinds := [], alts := [], laidByText := true, laidKinds := [.data, .data, .data, .sentinel, .sentinel], laidTests := true, laidLooks := .later }
def KindTellsCardSaid : Prop := Claim7.holds Tryz.pinned (.plain (OpenSpec.ofChange kindTellsSpec)) kindTellsCard

/-- THE TIED CARD OF 'leporellolaw9.KindDeep'. -/
def kindDeepCard : Claim7 := { stood := { row := kindDeepRow, standIns := [], harness := (true, "f3ba985ddef6c7fdfcb4e9a1559d57f0542d2b06674e543ad4a4e572a4bac936"), looks := true }, kinds := [], alts := [], laidByText := true, laidKinds := [.data, .data, .data, .sentinel, .sentinel], laidTests := true, laidLooks := .later }
def KindDeepCardSaid : Prop := Claim7.holds Tryz.pinned (.plain (OpenSpec.ofChange kindDeepSpec)) kindDeepCard

/-- THE TIED CARD OF 'leporellolaw8.ParseChains'. -/
def parseChainsCard : Claim7 := { stood := { row := parseChainsRow, standIns := [], harness := (true, "f3ba985ddef6c7fdfcb4e9a1559d57f0542d2b06674e543ad4a4e572a4bac936"), looks := true }, kinds := [], alts := [], laidByText := true, laidKinds := [.data, .data, .data, .sentinel, .sentinel], laidTests := true, laidLooks := .later }
def ParseChainsCardSaid : Prop := Claim7.holds Tryz.pinned (.plain (OpenSpec.ofChange parseChainsSpec)) parseChainsCard

/-- THE TIED CARD OF 'leporellolaw8.ParseBrackets'. -/
def parseBracketsCard : Claim7 := { stood := { row := parseBracketsRow, standIns := [], harness := (true, "f3ba985ddef6c7fdfcb4e9a1559d57f0542d2b06674e543ad4a4e572a4bac936"), looks := true }, kinds := [], alts := [], laidByText := true, laidKinds := [.data, .data, .data, .sentinel, .sentinel], laidTests := true, laidLooks := .later }
def ParseBracketsCardSaid : Prop := Claim7.holds Tryz.pinned (.plain (OpenSpec.ofChange parseBracketsSpec)) parseBracketsCard

/-- THE TIED CARD OF 'leporellolaw8.ParseTells'. -/
def parseTellsCard : Claim7 := { stood := { row := parseTellsRow, standIns := [], harness := (true, "f3ba985ddef6c7fdfcb4e9a1559d57f0542d2b06674e543ad4a4e572a4bac936"), looks := true }, kinds := [], alts := [], laidByText := true, laidKinds := [.data, .data, .data, .sentinel, .sentinel], laidTests := true, laidLooks := .later }
def ParseTellsCardSaid : Prop := Claim7.holds Tryz.pinned (.plain (OpenSpec.ofChange parseTellsSpec)) parseTellsCard

/-- THE TIED CARD OF 'leporellolaw8.ParseUnlike'. -/
def parseUnlikeCard : Claim7 := { stood := { row := parseUnlikeRow, standIns := [], harness := (true, "f3ba985ddef6c7fdfcb4e9a1559d57f0542d2b06674e543ad4a4e572a4bac936"), looks := true }, kinds := [], alts := [], laidByText := true, laidKinds := [.data, .data, .data, .sentinel, .sentinel], laidTests := true, laidLooks := .later }
def ParseUnlikeCardSaid : Prop := Claim7.holds Tryz.pinned (.plain (OpenSpec.ofChange parseUnlikeSpec)) parseUnlikeCard

/-- THE TIED CARD OF 'leporellolaw8.ParseTails'. -/
def parseTailsCard : Claim7 := { stood := { row := parseTailsRow, standIns := [], harness := (true, "f3ba985ddef6c7fdfcb4e9a1559d57f0542d2b06674e543ad4a4e572a4bac936"), looks := true }, kinds := [], alts := [], laidByText := true, laidKinds := [.data, .data, .data, .sentinel, .sentinel], laidTests := true, laidLooks := .later }
def ParseTailsCardSaid : Prop := Claim7.holds Tryz.pinned (.plain (OpenSpec.ofChange parseTailsSpec)) parseTailsCard

/-- THE TIED CARD OF 'leporellolaw8.ParseSelectors'. -/
def parseSelectorsCard : Claim7 := { stood := { row := parseSelectorsRow, standIns := [], harness := (true, "f3ba985ddef6c7fdfcb4e9a1559d57f0542d2b06674e543ad4a4e572a4bac936"), looks := true }, kinds := [], alts := [], laidByText := true, laidKinds := [.data, .data, .data, .sentinel, .sentinel], laidTests := true, laidLooks := .later }
def ParseSelectorsCardSaid : Prop := Claim7.holds Tryz.pinned (.plain (OpenSpec.ofChange parseSelectorsSpec)) parseSelectorsCard

/-- THE TIED CARD OF 'leporellolaw8.ParseWords'. -/
def parseWordsCard : Claim7 := { stood := { row := parseWordsRow, standIns := [], harness := (true, "f3ba985ddef6c7fdfcb4e9a1559d57f0542d2b06674e543ad4a4e572a4bac936"), looks := true }, kinds := [], alts := [], laidByText := true, laidKinds := [.data, .data, .data, .sentinel, .sentinel], laidTests := true, laidLooks := .later }
def ParseWordsCardSaid : Prop := Claim7.holds Tryz.pinned (.plain (OpenSpec.ofChange parseWordsSpec)) parseWordsCard

/-- THE TIED CARD OF 'leporellolaw9.KindPrints'. -/
def kindPrintsCard : Claim7 := { stood := { row := kindPrintsRow, standIns := [], harness := (true, "f3ba985ddef6c7fdfcb4e9a1559d57f0542d2b06674e543ad4a4e572a4bac936"), looks := true }, kinds := [], alts := [], laidByText := true, laidKinds := [.data, .data, .data, .sentinel, .sentinel], laidTests := true, laidLooks := .later }
def KindPrintsCardSaid : Prop := Claim7.holds Tryz.pinned (.plain (OpenSpec.ofChange kindPrintsSpec)) kindPrintsCard

/-- THE SECOND FORM's CARD OF 'leporellolaw9.KindTells'. -/
def kindTellsUptoCard : Claim7 := { stood := { row := kindTellsUptoRow, standIns := [], harness := (true, "f3ba985ddef6c7fdfcb4e9a1559d57f0542d2b06674e543ad4a4e572a4bac936"), looks := true }, kinds := [], alts := [], laidByText := true, laidKinds := [.data, .data, .data, .sentinel, .sentinel], laidTests := true, laidLooks := .later }
def KindTellsUptoCardSaid : Prop := Claim7.holds Tryz.pinned (.plain (OpenSpec.upto kindTellsSpec)) kindTellsUptoCard

/-- THE SECOND FORM's CARD OF 'leporellolaw9.KindDeep'. -/
def kindDeepUptoCard : Claim7 := { stood := { row := kindDeepUptoRow, standIns := [], harness := (true, "f3ba985ddef6c7fdfcb4e9a1559d57f0542d2b06674e543ad4a4e572a4bac936"), looks := true }, kinds := [], alts := [], laidByText := true, laidKinds := [.data, .data, .data, .sentinel, .sentinel], laidTests := true, laidLooks := .later }
def KindDeepUptoCardSaid : Prop := Claim7.holds Tryz.pinned (.plain (OpenSpec.upto kindDeepSpec)) kindDeepUptoCard

/-- THE SECOND FORM's CARD OF 'leporellolaw8.ParseChains'. -/
def parseChainsUptoCard : Claim7 := { stood := { row := parseChainsUptoRow, standIns := [], harness := (true, "f3ba985ddef6c7fdfcb4e9a1559d57f0542d2b06674e543ad4a4e572a4bac936"), looks := true }, kinds := [], alts := [], laidByText := true, laidKinds := [.data, .data, .data, .sentinel, .sentinel], laidTests := true, laidLooks := .later }
def ParseChainsUptoCardSaid : Prop := Claim7.holds Tryz.pinned (.plain (OpenSpec.upto parseChainsSpec)) parseChainsUptoCard

/-- THE SECOND FORM's CARD OF 'leporellolaw8.ParseBrackets'. -/
def parseBracketsUptoCard : Claim7 := { stood := { row := parseBracketsUptoRow, standIns := [], harness := (true, "f3ba985ddef6c7fdfcb4e9a1559d57f0542d2b06674e543ad4a4e572a4bac936"), looks := true }, kinds := [], alts := [], laidByText := true, laidKinds := [.data, .data, .data, .sentinel, .sentinel], laidTests := true, laidLooks := .later }
def ParseBracketsUptoCardSaid : Prop := Claim7.holds Tryz.pinned (.plain (OpenSpec.upto parseBracketsSpec)) parseBracketsUptoCard

/-- THE SECOND FORM's CARD OF 'leporellolaw8.ParseTells'. -/
def parseTellsUptoCard : Claim7 := { stood := { row := parseTellsUptoRow, standIns := [], harness := (true, "f3ba985ddef6c7fdfcb4e9a1559d57f0542d2b06674e543ad4a4e572a4bac936"), looks := true }, kinds := [], alts := [], laidByText := true, laidKinds := [.data, .data, .data, .sentinel, .sentinel], laidTests := true, laidLooks := .later }
def ParseTellsUptoCardSaid : Prop := Claim7.holds Tryz.pinned (.plain (OpenSpec.upto parseTellsSpec)) parseTellsUptoCard

/-- THE SECOND FORM's CARD OF 'leporellolaw8.ParseUnlike'. -/
def parseUnlikeUptoCard : Claim7 := { stood := { row := parseUnlikeUptoRow, standIns := [], harness := (true, "f3ba985ddef6c7fdfcb4e9a1559d57f0542d2b06674e543ad4a4e572a4bac936"), looks := true }, kinds := [], alts := [], laidByText := true, laidKinds := [.data, .data, .data, .sentinel, .sentinel], laidTests := true, laidLooks := .later }
def ParseUnlikeUptoCardSaid : Prop := Claim7.holds Tryz.pinned (.plain (OpenSpec.upto parseUnlikeSpec)) parseUnlikeUptoCard

/-- THE SECOND FORM's CARD OF 'leporellolaw8.ParseTails'. -/
def parseTailsUptoCard : Claim7 := { stood := { row := parseTailsUptoRow, standIns := [], harness := (true, "f3ba985ddef6c7fdfcb4e9a1559d57f0542d2b06674e543ad4a4e572a4bac936"), looks := true }, kinds := [], alts := [], laidByText := true, laidKinds := [.data, .data, .data, .sentinel, .sentinel], laidTests := true, laidLooks := .later }
def ParseTailsUptoCardSaid : Prop := Claim7.holds Tryz.pinned (.plain (OpenSpec.upto parseTailsSpec)) parseTailsUptoCard

/-- THE SECOND FORM's CARD OF 'leporellolaw8.ParseSelectors'. -/
def parseSelectorsUptoCard : Claim7 := { stood := { row := parseSelectorsUptoRow, standIns := [], harness := (true, "f3ba985ddef6c7fdfcb4e9a1559d57f0542d2b06674e543ad4a4e572a4bac936"), looks := true }, kinds := [], alts := [], laidByText := true, laidKinds := [.data, .data, .data, .sentinel, .sentinel], laidTests := true, laidLooks := .later }
def ParseSelectorsUptoCardSaid : Prop := Claim7.holds Tryz.pinned (.plain (OpenSpec.upto parseSelectorsSpec)) parseSelectorsUptoCard

/-- THE SECOND FORM's CARD OF 'leporellolaw8.ParseWords'. -/
def parseWordsUptoCard : Claim7 := { stood := { row := parseWordsUptoRow, standIns := [], harness := (true, "f3ba985ddef6c7fdfcb4e9a1559d57f0542d2b06674e543ad4a4e572a4bac936"), looks := true }, kinds := [], alts := [], laidByText := true, laidKinds := [.data, .data, .data, .sentinel, .sentinel], laidTests := true, laidLooks := .later }
def ParseWordsUptoCardSaid : Prop := Claim7.holds Tryz.pinned (.plain (OpenSpec.upto parseWordsSpec)) parseWordsUptoCard

/-- THE SECOND FORM's CARD OF 'leporellolaw9.KindPrints'. -/
def kindPrintsUptoCard : Claim7 := { stood := { row := kindPrintsUptoRow, standIns := [], harness := (true, "f3ba985ddef6c7fdfcb4e9a1559d57f0542d2b06674e543ad4a4e572a4bac936"), looks := true }, kinds := [], alts := [], laidByText := true, laidKinds := [.data, .data, .data, .sentinel, .sentinel], laidTests := true, laidLooks := .later }
def KindPrintsUptoCardSaid : Prop := Claim7.holds Tryz.pinned (.plain (OpenSpec.upto kindPrintsSpec)) kindPrintsUptoCard
end Rows
end Go.Proofs.YtheccaeefigajaaGreatDoor
