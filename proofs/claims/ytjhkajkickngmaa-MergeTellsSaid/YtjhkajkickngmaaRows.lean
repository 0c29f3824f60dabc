/-
  No cell of these rows narrows 'for every input' (looked for: loops, veiled, ifaces, maps, wideKeys, modest, calm, conditions, laid).
  DERIVED. THE GIVEN ROWS OF THIS SEAT. 9 by the template 'for every input the law returns true; each argument reads behind the call as it read before'; 0 by the template 'total and deterministic' (their statements: YtjhkajkickngmaaTotals.lean).
  GIVEN WITH THE SEED: the statements are not yours to turn. If you find one false, say at which input.
  Laid BY PROGRAM, IN A SANDBOX (cutbox-rows.mjs): the forced cells as the released guide's own fill.sh prints them over the translation 48eee6533d72fcc3… (all of the seat's roots in one cut). By AI agents, Wed Nov 11 2026. No macro, syntax, notation, axiom, sorry.
-/
import Derived.Test.YtjhkajkickngmaaChecked
import GoSem.Claim
import GoSem.ClaimJoined
import GoSem.ClaimMapViews
import Derived.JoinedTies
import Derived.KernelRfl
namespace Go.Proofs.Ytjhkajkickngmaa
/- THE CELL 'sum', in the pinned program and in every row, IS THE sha256 OF THE DUMP (.gsa) THAT YtjhkajkickngmaaProg.lean LOADS. Nothing in Lean hashes anything: it is a label: what it is worth is what the hold of that sum in a sandbox is worth. -/
noncomputable def Try.pinned : Pinned := { name := "ytjhkajkickngmaa", sum := "48eee6533d72fcc39bb427398ee64a812e748773994412ce5a55b2df3ac9fd0e", checked := Try.checked }
namespace Rows
def none {H : Type} : Left H := { results := [], args := [] }

/-- 'leporellolaw17.MergeOne': WHATEVER THE INPUT: true; the input reads as it did. -/
def mergeOneSpec : ChangeSpec := { name := "mergeOne", fn := fun _ => fun
  | [d1, d2] => { results := [.lit (.bool true)], args := [d1, d2] }
  | _ => none }
def mergeOneRow : OpenClaim := { program := "ytjhkajkickngmaa", sum := "48eee6533d72fcc39bb427398ee64a812e748773994412ce5a55b2df3ac9fd0e", func := "leporello/leporellolaw17.MergeOne", spec := "mergeOne", inPlace := ["internal/bytealg.abigen_runtime_cmpstring"], unfollowed := true, recurses := true, apart := false }
def MergeOneSaid : Prop := mergeOneRow.holds Try.pinned (OpenSpec.ofChange mergeOneSpec)

/-- ITS FALSE NEIGHBOUR: 'it returns false'. Refute it at one input. -/
def mergeOneWrong : ChangeSpec := { name := "mergeOne", fn := fun _ => fun
  | [d1, d2] => { results := [.lit (.bool false)], args := [d1, d2] }
  | _ => none }
def MergeOneWrongFalsely : Prop := mergeOneRow.holds Try.pinned (OpenSpec.ofChange mergeOneWrong)

/-- 'leporellolaw17.MergeTells': WHATEVER THE INPUT: true; the input reads as it did. -/
def mergeTellsSpec : ChangeSpec := { name := "mergeTells", fn := fun _ => fun
  | [d1, d2] => { results := [.lit (.bool true)], args := [d1, d2] }
  | _ => none }
def mergeTellsRow : OpenClaim := { program := "ytjhkajkickngmaa", sum := "48eee6533d72fcc39bb427398ee64a812e748773994412ce5a55b2df3ac9fd0e", func := "leporello/leporellolaw17.MergeTells", spec := "mergeTells", inPlace := ["internal/bytealg.abigen_runtime_cmpstring"], unfollowed := true, recurses := true, apart := false }
def MergeTellsSaid : Prop := mergeTellsRow.holds Try.pinned (OpenSpec.ofChange mergeTellsSpec)

/-- ITS FALSE NEIGHBOUR: 'it returns false'. Refute it at one input. -/
def mergeTellsWrong : ChangeSpec := { name := "mergeTells", fn := fun _ => fun
  | [d1, d2] => { results := [.lit (.bool false)], args := [d1, d2] }
  | _ => none }
def MergeTellsWrongFalsely : Prop := mergeTellsRow.holds Try.pinned (OpenSpec.ofChange mergeTellsWrong)

/-- 'leporellolaw17.MergeSorts': WHATEVER THE INPUT: true; the input reads as it did. -/
def mergeSortsSpec : ChangeSpec := { name := "mergeSorts", fn := fun _ => fun
  | [d1, d2, d3] => { results := [.lit (.bool true)], args := [d1, d2, d3] }
  | _ => none }
def mergeSortsRow : OpenClaim := { program := "ytjhkajkickngmaa", sum := "48eee6533d72fcc39bb427398ee64a812e748773994412ce5a55b2df3ac9fd0e", func := "leporello/leporellolaw17.MergeSorts", spec := "mergeSorts", inPlace := ["internal/bytealg.abigen_runtime_cmpstring"], unfollowed := true, recurses := true, apart := false }
def MergeSortsSaid : Prop := mergeSortsRow.holds Try.pinned (OpenSpec.ofChange mergeSortsSpec)

/-- ITS FALSE NEIGHBOUR: 'it returns false'. Refute it at one input. -/
def mergeSortsWrong : ChangeSpec := { name := "mergeSorts", fn := fun _ => fun
  | [d1, d2, d3] => { results := [.lit (.bool false)], args := [d1, d2, d3] }
  | _ => none }
def MergeSortsWrongFalsely : Prop := mergeSortsRow.holds Try.pinned (OpenSpec.ofChange mergeSortsWrong)

/-- 'leporellolaw18.SorterSame': WHATEVER THE INPUT: true; the input reads as it did. -/
def sorterSameSpec : ChangeSpec := { name := "sorterSame", fn := fun _ => fun
  | [d1, d2, d3, d4] => { results := [.lit (.bool true)], args := [d1, d2, d3, d4] }
  | _ => none }
def sorterSameRow : OpenClaim := { program := "ytjhkajkickngmaa", sum := "48eee6533d72fcc39bb427398ee64a812e748773994412ce5a55b2df3ac9fd0e", func := "leporello/leporellolaw18.SorterSame", spec := "sorterSame", inPlace := ["internal/bytealg.abigen_runtime_cmpstring"], unfollowed := true, recurses := true, apart := false }
def SorterSameSaid : Prop := sorterSameRow.holds Try.pinned (OpenSpec.ofChange sorterSameSpec)

/-- ITS FALSE NEIGHBOUR: 'it returns false'. Refute it at one input. -/
def sorterSameWrong : ChangeSpec := { name := "sorterSame", fn := fun _ => fun
  | [d1, d2, d3, d4] => { results := [.lit (.bool false)], args := [d1, d2, d3, d4] }
  | _ => none }
def SorterSameWrongFalsely : Prop := sorterSameRow.holds Try.pinned (OpenSpec.ofChange sorterSameWrong)

/-- 'leporellolaw18.SorterMerges': WHATEVER THE INPUT: true; the input reads as it did. -/
def sorterMergesSpec : ChangeSpec := { name := "sorterMerges", fn := fun _ => fun
  | [d1, d2, d3, d4] => { results := [.lit (.bool true)], args := [d1, d2, d3, d4] }
  | _ => none }
def sorterMergesRow : OpenClaim := { program := "ytjhkajkickngmaa", sum := "48eee6533d72fcc39bb427398ee64a812e748773994412ce5a55b2df3ac9fd0e", func := "leporello/leporellolaw18.SorterMerges", spec := "sorterMerges", inPlace := ["internal/bytealg.abigen_runtime_cmpstring"], unfollowed := true, recurses := true, apart := false }
def SorterMergesSaid : Prop := sorterMergesRow.holds Try.pinned (OpenSpec.ofChange sorterMergesSpec)

/-- ITS FALSE NEIGHBOUR: 'it returns false'. Refute it at one input. -/
def sorterMergesWrong : ChangeSpec := { name := "sorterMerges", fn := fun _ => fun
  | [d1, d2, d3, d4] => { results := [.lit (.bool false)], args := [d1, d2, d3, d4] }
  | _ => none }
def SorterMergesWrongFalsely : Prop := sorterMergesRow.holds Try.pinned (OpenSpec.ofChange sorterMergesWrong)

/-- 'leporellolaw2.LabelOrder': WHATEVER THE INPUT: true; the input reads as it did. -/
def labelOrderSpec : ChangeSpec := { name := "labelOrder", fn := fun _ => fun
  | [d1, d2, d3, d4] => { results := [.lit (.bool true)], args := [d1, d2, d3, d4] }
  | _ => none }
def labelOrderRow : OpenClaim := { program := "ytjhkajkickngmaa", sum := "48eee6533d72fcc39bb427398ee64a812e748773994412ce5a55b2df3ac9fd0e", func := "leporello/leporellolaw2.LabelOrder", spec := "labelOrder", inPlace := ["internal/bytealg.abigen_runtime_cmpstring", "internal/abi.NoEscape", "internal/bytealg.MakeNoZero"], unfollowed := true, recurses := true, apart := false }
def LabelOrderSaid : Prop := labelOrderRow.holds Try.pinned (OpenSpec.ofChange labelOrderSpec)

/-- ITS FALSE NEIGHBOUR: 'it returns false'. Refute it at one input. -/
def labelOrderWrong : ChangeSpec := { name := "labelOrder", fn := fun _ => fun
  | [d1, d2, d3, d4] => { results := [.lit (.bool false)], args := [d1, d2, d3, d4] }
  | _ => none }
def LabelOrderWrongFalsely : Prop := labelOrderRow.holds Try.pinned (OpenSpec.ofChange labelOrderWrong)

/-- 'leporellolaw2.LabelGets': WHATEVER THE INPUT: true; the input reads as it did. -/
def labelGetsSpec : ChangeSpec := { name := "labelGets", fn := fun _ => fun
  | [d1, d2] => { results := [.lit (.bool true)], args := [d1, d2] }
  | _ => none }
def labelGetsRow : OpenClaim := { program := "ytjhkajkickngmaa", sum := "48eee6533d72fcc39bb427398ee64a812e748773994412ce5a55b2df3ac9fd0e", func := "leporello/leporellolaw2.LabelGets", spec := "labelGets", inPlace := ["internal/bytealg.abigen_runtime_cmpstring", "internal/abi.NoEscape", "internal/bytealg.MakeNoZero"], unfollowed := true, recurses := true, apart := false }
def LabelGetsSaid : Prop := labelGetsRow.holds Try.pinned (OpenSpec.ofChange labelGetsSpec)

/-- ITS FALSE NEIGHBOUR: 'it returns false'. Refute it at one input. -/
def labelGetsWrong : ChangeSpec := { name := "labelGets", fn := fun _ => fun
  | [d1, d2] => { results := [.lit (.bool false)], args := [d1, d2] }
  | _ => none }
def LabelGetsWrongFalsely : Prop := labelGetsRow.holds Try.pinned (OpenSpec.ofChange labelGetsWrong)

/-- 'leporellolaw2.LabelTexts': WHATEVER THE INPUT: true; the input reads as it did. -/
def labelTextsSpec : ChangeSpec := { name := "labelTexts", fn := fun _ => fun
  | [d1, d2, d3] => { results := [.lit (.bool true)], args := [d1, d2, d3] }
  | _ => none }
def labelTextsRow : OpenClaim := { program := "ytjhkajkickngmaa", sum := "48eee6533d72fcc39bb427398ee64a812e748773994412ce5a55b2df3ac9fd0e", func := "leporello/leporellolaw2.LabelTexts", spec := "labelTexts", inPlace := ["internal/bytealg.abigen_runtime_cmpstring", "internal/abi.NoEscape", "internal/bytealg.MakeNoZero"], unfollowed := true, recurses := true, apart := false }
def LabelTextsSaid : Prop := labelTextsRow.holds Try.pinned (OpenSpec.ofChange labelTextsSpec)

/-- ITS FALSE NEIGHBOUR: 'it returns false'. Refute it at one input. -/
def labelTextsWrong : ChangeSpec := { name := "labelTexts", fn := fun _ => fun
  | [d1, d2, d3] => { results := [.lit (.bool false)], args := [d1, d2, d3] }
  | _ => none }
def LabelTextsWrongFalsely : Prop := labelTextsRow.holds Try.pinned (OpenSpec.ofChange labelTextsWrong)

/-- 'leporellolaw2.LabelPicks': WHATEVER THE INPUT: true; the input reads as it did. -/
def labelPicksSpec : ChangeSpec := { name := "labelPicks", fn := fun _ => fun
  | [d1, d2] => { results := [.lit (.bool true)], args := [d1, d2] }
  | _ => none }
def labelPicksRow : OpenClaim := { program := "ytjhkajkickngmaa", sum := "48eee6533d72fcc39bb427398ee64a812e748773994412ce5a55b2df3ac9fd0e", func := "leporello/leporellolaw2.LabelPicks", spec := "labelPicks", inPlace := ["internal/bytealg.abigen_runtime_cmpstring", "internal/abi.NoEscape", "internal/bytealg.MakeNoZero"], unfollowed := true, recurses := true, apart := false }
def LabelPicksSaid : Prop := labelPicksRow.holds Try.pinned (OpenSpec.ofChange labelPicksSpec)

/-- ITS FALSE NEIGHBOUR: 'it returns false'. Refute it at one input. -/
def labelPicksWrong : ChangeSpec := { name := "labelPicks", fn := fun _ => fun
  | [d1, d2] => { results := [.lit (.bool false)], args := [d1, d2] }
  | _ => none }
def LabelPicksWrongFalsely : Prop := labelPicksRow.holds Try.pinned (OpenSpec.ofChange labelPicksWrong)

/- THE SECOND FORM. 'bulk': how many values and letters a reading holds, each counted each time it is reached (what is shared counts as often as it is met; a slice's spare places count too). A statement '..UptoSaid' is the law's where the arguments, and the package variables that the reading takes, are together of bulk at most 1048576: NARROWER than '..Said'. Prove '..Said' where nothing that the law and all that it calls make is longer than what came in: it says more and counts as full. Else prove '..UptoSaid'. A law counts once. -/
mutual
def uptoBulk {H : Type} : DataW H → Nat
  | .lit (.string bytes) => bytes.length + 1
  | .lit _ => 1
  | .nil => 1
  | .ptr d => uptoBulk d + 1
  | .slice elems spare => uptoBulkAll elems + uptoBulkAll spare + 1
  | .agg parts => uptoBulkAll parts + 1
  | .iface _ d => uptoBulk d + 1
  | .map entries => uptoBulkEntries entries + 1
  | .held _ => 1
def uptoBulkAll {H : Type} : List (DataW H) → Nat
  | [] => 0
  | d :: r => uptoBulk d + uptoBulkAll r
def uptoBulkEntries {H : Type} : List (Lit × DataW H) → Nat
  | [] => 0
  | x :: r => uptoBulkEntry x + uptoBulkEntries r
def uptoBulkEntry {H : Type} : Lit × DataW H → Nat
  | (.string bytes, d) => bytes.length + uptoBulk d + 1
  | (_, d) => uptoBulk d + 1
 end
def uptoSmall : (H : Type) → List (DataW H) → Bool := fun _ ds => decide (uptoBulkAll ds ≤ 1048576)
def OpenSpec.upto (s : _root_.Go.ChangeSpec) : _root_.Go.OpenSpec := { _root_.Go.OpenSpec.ofChange s with cond := some uptoSmall }

/-- 'leporellolaw17.MergeOne', WHERE WHAT IT READS IS OF BULK AT MOST 1048576: true; the input reads as it did. -/
def mergeOneUptoRow : OpenClaim := { program := "ytjhkajkickngmaa", sum := "48eee6533d72fcc39bb427398ee64a812e748773994412ce5a55b2df3ac9fd0e", func := "leporello/leporellolaw17.MergeOne", spec := "mergeOne", inPlace := ["internal/bytealg.abigen_runtime_cmpstring"], unfollowed := true, recurses := true, apart := false, narrowed := true }
def MergeOneUptoSaid : Prop := mergeOneUptoRow.holds Try.pinned (OpenSpec.upto mergeOneSpec)

/-- 'leporellolaw17.MergeTells', WHERE WHAT IT READS IS OF BULK AT MOST 1048576: true; the input reads as it did. -/
def mergeTellsUptoRow : OpenClaim := { program := "ytjhkajkickngmaa", sum := "48eee6533d72fcc39bb427398ee64a812e748773994412ce5a55b2df3ac9fd0e", func := "leporello/leporellolaw17.MergeTells", spec := "mergeTells", inPlace := ["internal/bytealg.abigen_runtime_cmpstring"], unfollowed := true, recurses := true, apart := false, narrowed := true }
def MergeTellsUptoSaid : Prop := mergeTellsUptoRow.holds Try.pinned (OpenSpec.upto mergeTellsSpec)

/-- 'leporellolaw17.MergeSorts', WHERE WHAT IT READS IS OF BULK AT MOST 1048576: true; the input reads as it did. -/
def mergeSortsUptoRow : OpenClaim := { program := "ytjhkajkickngmaa", sum := "48eee6533d72fcc39bb427398ee64a812e748773994412ce5a55b2df3ac9fd0e", func := "leporello/leporellolaw17.MergeSorts", spec := "mergeSorts", inPlace := ["internal/bytealg.abigen_runtime_cmpstring"], unfollowed := true, recurses := true, apart := false, narrowed := true }
def MergeSortsUptoSaid : Prop := mergeSortsUptoRow.holds Try.pinned (OpenSpec.upto mergeSortsSpec)

/-- 'leporellolaw18.SorterSame', WHERE WHAT IT READS IS OF BULK AT MOST 1048576: true; the input reads as it did. -/
def sorterSameUptoRow : OpenClaim := { program := "ytjhkajkickngmaa", sum := "48eee6533d72fcc39bb427398ee64a812e748773994412ce5a55b2df3ac9fd0e", func := "leporello/leporellolaw18.SorterSame", spec := "sorterSame", inPlace := ["internal/bytealg.abigen_runtime_cmpstring"], unfollowed := true, recurses := true, apart := false, narrowed := true }
def SorterSameUptoSaid : Prop := sorterSameUptoRow.holds Try.pinned (OpenSpec.upto sorterSameSpec)

/-- 'leporellolaw18.SorterMerges', WHERE WHAT IT READS IS OF BULK AT MOST 1048576: true; the input reads as it did. -/
def sorterMergesUptoRow : OpenClaim := { program := "ytjhkajkickngmaa", sum := "48eee6533d72fcc39bb427398ee64a812e748773994412ce5a55b2df3ac9fd0e", func := "leporello/leporellolaw18.SorterMerges", spec := "sorterMerges", inPlace := ["internal/bytealg.abigen_runtime_cmpstring"], unfollowed := true, recurses := true, apart := false, narrowed := true }
def SorterMergesUptoSaid : Prop := sorterMergesUptoRow.holds Try.pinned (OpenSpec.upto sorterMergesSpec)

/-- 'leporellolaw2.LabelOrder', WHERE WHAT IT READS IS OF BULK AT MOST 1048576: true; the input reads as it did. -/
def labelOrderUptoRow : OpenClaim := { program := "ytjhkajkickngmaa", sum := "48eee6533d72fcc39bb427398ee64a812e748773994412ce5a55b2df3ac9fd0e", func := "leporello/leporellolaw2.LabelOrder", spec := "labelOrder", inPlace := ["internal/bytealg.abigen_runtime_cmpstring", "internal/abi.NoEscape", "internal/bytealg.MakeNoZero"], unfollowed := true, recurses := true, apart := false, narrowed := true }
def LabelOrderUptoSaid : Prop := labelOrderUptoRow.holds Try.pinned (OpenSpec.upto labelOrderSpec)

/-- 'leporellolaw2.LabelGets', WHERE WHAT IT READS IS OF BULK AT MOST 1048576: true; the input reads as it did. -/
def labelGetsUptoRow : OpenClaim := { program := "ytjhkajkickngmaa", sum := "48eee6533d72fcc39bb427398ee64a812e748773994412ce5a55b2df3ac9fd0e", func := "leporello/leporellolaw2.LabelGets", spec := "labelGets", inPlace := ["internal/bytealg.abigen_runtime_cmpstring", "internal/abi.NoEscape", "internal/bytealg.MakeNoZero"], unfollowed := true, recurses := true, apart := false, narrowed := true }
def LabelGetsUptoSaid : Prop := labelGetsUptoRow.holds Try.pinned (OpenSpec.upto labelGetsSpec)

/-- 'leporellolaw2.LabelTexts', WHERE WHAT IT READS IS OF BULK AT MOST 1048576: true; the input reads as it did. -/
def labelTextsUptoRow : OpenClaim := { program := "ytjhkajkickngmaa", sum := "48eee6533d72fcc39bb427398ee64a812e748773994412ce5a55b2df3ac9fd0e", func := "leporello/leporellolaw2.LabelTexts", spec := "labelTexts", inPlace := ["internal/bytealg.abigen_runtime_cmpstring", "internal/abi.NoEscape", "internal/bytealg.MakeNoZero"], unfollowed := true, recurses := true, apart := false, narrowed := true }
def LabelTextsUptoSaid : Prop := labelTextsUptoRow.holds Try.pinned (OpenSpec.upto labelTextsSpec)

/-- 'leporellolaw2.LabelPicks', WHERE WHAT IT READS IS OF BULK AT MOST 1048576: true; the input reads as it did. -/
def labelPicksUptoRow : OpenClaim := { program := "ytjhkajkickngmaa", sum := "48eee6533d72fcc39bb427398ee64a812e748773994412ce5a55b2df3ac9fd0e", func := "leporello/leporellolaw2.LabelPicks", spec := "labelPicks", inPlace := ["internal/bytealg.abigen_runtime_cmpstring", "internal/abi.NoEscape", "internal/bytealg.MakeNoZero"], unfollowed := true, recurses := true, apart := false, narrowed := true }
def LabelPicksUptoSaid : Prop := labelPicksUptoRow.holds Try.pinned (OpenSpec.upto labelPicksSpec)

end Rows
end Go.Proofs.Ytjhkajkickngmaa
