/-
  No cell of these rows narrows 'for every input' (looked for: loops, veiled, ifaces, maps, wideKeys, modest, calm, conditions, laid).
  DERIVED. THE GIVEN ROWS OF THIS SEAT. 7 by the template 'for every input the law returns true; each argument reads behind the call as it read before'; 0 by the template 'total and deterministic' (their statements: YtfjinapgehafiaaGreatTotals.lean).
  GIVEN WITH THE SEED: the statements are not yours to turn. If you find one false, say at which input.
  Laid BY PROGRAM, IN A SANDBOX (cutbox-rows.mjs): the forced cells as the released guide's own fill.sh prints them over the translation b74d584cbc510c9e… (all of the seat's roots in one cut). By AI agents, Wed Nov 11 2026. No macro, syntax, notation, axiom, sorry.
-/
import Derived.Test.YtfjinapgehafiaaGreatChecked
import GoSem.Claim
import GoSem.ClaimJoined
import GoSem.ClaimMapViews
import Derived.JoinedTies
import Derived.KernelRfl
namespace Go.Proofs.YtfjinapgehafiaaGreat
/- THE CELL 'sum', in the pinned program and in every row, IS THE sha256 OF THE DUMP (.gsa) THAT YtfjinapgehafiaaGreatProg.lean LOADS. Nothing in Lean hashes anything: it is a label: what it is worth is what the hold of that sum in a sandbox is worth. -/
noncomputable def Tryz.pinned : Pinned := { name := "ytfjinapgehafiaagreat", sum := "b74d584cbc510c9eee0b7909f000c07c3ac3a4121c2cf038840af2e9eec509b7", checked := Tryz.checked }
namespace Rows
def none {H : Type} : Left H := { results := [], args := [] }

/-- 'leporellolaw10.VectorTells': WHATEVER THE INPUT: true; the input reads as it did. -/
def vectorTellsSpec : ChangeSpec := { name := "vectorTells", fn := fun _ => fun
  | [d1, d2, d3, d4, d5, d6, d7, d8] => { results := [.lit (.bool true)], args := [d1, d2, d3, d4, d5, d6, d7, d8] }
  | _ => none }
def vectorTellsRow : OpenClaim := { program := "ytfjinapgehafiaagreat", sum := "b74d584cbc510c9eee0b7909f000c07c3ac3a4121c2cf038840af2e9eec509b7", func := "leporello/leporellolaw10.VectorTells", spec := "vectorTells", inPlace := ["internal/bytealg.abigen_runtime_cmpstring", "internal/abi.NoEscape", "internal/bytealg.MakeNoZero"], unfollowed := true, recurses := true, apart := false }
def VectorTellsSaid : Prop := vectorTellsRow.holds Tryz.pinned (OpenSpec.ofChange vectorTellsSpec)

/-- ITS FALSE NEIGHBOUR: 'it returns false'. Refute it at one input. -/
def vectorTellsWrong : ChangeSpec := { name := "vectorTells", fn := fun _ => fun
  | [d1, d2, d3, d4, d5, d6, d7, d8] => { results := [.lit (.bool false)], args := [d1, d2, d3, d4, d5, d6, d7, d8] }
  | _ => none }
def VectorTellsWrongFalsely : Prop := vectorTellsRow.holds Tryz.pinned (OpenSpec.ofChange vectorTellsWrong)

/-- 'leporellolaw11.GroupCounts': WHATEVER THE INPUT: true; the input reads as it did. -/
def groupCountsSpec : ChangeSpec := { name := "groupCounts", fn := fun _ => fun
  | [d1, d2, d3] => { results := [.lit (.bool true)], args := [d1, d2, d3] }
  | _ => none }
def groupCountsRow : OpenClaim := { program := "ytfjinapgehafiaagreat", sum := "b74d584cbc510c9eee0b7909f000c07c3ac3a4121c2cf038840af2e9eec509b7", func := "leporello/leporellolaw11.GroupCounts", spec := "groupCounts", inPlace := ["internal/bytealg.abigen_runtime_cmpstring", "slices.overlaps[[]leporello/api.Row]"], unfollowed := true, recurses := true, apart := false }
def GroupCountsSaid : Prop := groupCountsRow.holds Tryz.pinned (OpenSpec.ofChange groupCountsSpec)

/-- ITS FALSE NEIGHBOUR: 'it returns false'. Refute it at one input. -/
def groupCountsWrong : ChangeSpec := { name := "groupCounts", fn := fun _ => fun
  | [d1, d2, d3] => { results := [.lit (.bool false)], args := [d1, d2, d3] }
  | _ => none }
def GroupCountsWrongFalsely : Prop := groupCountsRow.holds Tryz.pinned (OpenSpec.ofChange groupCountsWrong)

/-- 'leporellolaw11.GroupTops': WHATEVER THE INPUT: true; the input reads as it did. -/
def groupTopsSpec : ChangeSpec := { name := "groupTops", fn := fun _ => fun
  | [d1, d2, d3, d4, d5] => { results := [.lit (.bool true)], args := [d1, d2, d3, d4, d5] }
  | _ => none }
def groupTopsRow : OpenClaim := { program := "ytfjinapgehafiaagreat", sum := "b74d584cbc510c9eee0b7909f000c07c3ac3a4121c2cf038840af2e9eec509b7", func := "leporello/leporellolaw11.GroupTops", spec := "groupTops", inPlace := ["internal/bytealg.abigen_runtime_cmpstring", "slices.overlaps[[]leporello/api.Row]"], unfollowed := true, recurses := true, apart := false }
def GroupTopsSaid : Prop := groupTopsRow.holds Tryz.pinned (OpenSpec.ofChange groupTopsSpec)

/-- ITS FALSE NEIGHBOUR: 'it returns false'. Refute it at one input. -/
def groupTopsWrong : ChangeSpec := { name := "groupTops", fn := fun _ => fun
  | [d1, d2, d3, d4, d5] => { results := [.lit (.bool false)], args := [d1, d2, d3, d4, d5] }
  | _ => none }
def GroupTopsWrongFalsely : Prop := groupTopsRow.holds Tryz.pinned (OpenSpec.ofChange groupTopsWrong)

/-- 'leporellolaw11.GroupSplits': WHATEVER THE INPUT: true; the input reads as it did. -/
def groupSplitsSpec : ChangeSpec := { name := "groupSplits", fn := fun _ => fun
  | [d1, d2, d3] => { results := [.lit (.bool true)], args := [d1, d2, d3] }
  | _ => none }
def groupSplitsRow : OpenClaim := { program := "ytfjinapgehafiaagreat", sum := "b74d584cbc510c9eee0b7909f000c07c3ac3a4121c2cf038840af2e9eec509b7", func := "leporello/leporellolaw11.GroupSplits", spec := "groupSplits", inPlace := ["internal/bytealg.abigen_runtime_cmpstring", "slices.overlaps[[]leporello/api.Row]"], unfollowed := true, recurses := true, apart := false }
def GroupSplitsSaid : Prop := groupSplitsRow.holds Tryz.pinned (OpenSpec.ofChange groupSplitsSpec)

/-- ITS FALSE NEIGHBOUR: 'it returns false'. Refute it at one input. -/
def groupSplitsWrong : ChangeSpec := { name := "groupSplits", fn := fun _ => fun
  | [d1, d2, d3] => { results := [.lit (.bool false)], args := [d1, d2, d3] }
  | _ => none }
def GroupSplitsWrongFalsely : Prop := groupSplitsRow.holds Tryz.pinned (OpenSpec.ofChange groupSplitsWrong)

/-- 'leporellolaw11.GroupAll': WHATEVER THE INPUT: true; the input reads as it did. -/
def groupAllSpec : ChangeSpec := { name := "groupAll", fn := fun _ => fun
  | [d] => { results := [.lit (.bool true)], args := [d] }
  | _ => none }
def groupAllRow : OpenClaim := { program := "ytfjinapgehafiaagreat", sum := "b74d584cbc510c9eee0b7909f000c07c3ac3a4121c2cf038840af2e9eec509b7", func := "leporello/leporellolaw11.GroupAll", spec := "groupAll", inPlace := ["internal/bytealg.abigen_runtime_cmpstring", "slices.overlaps[[]leporello/api.Row]"], unfollowed := true, recurses := true, apart := false }
def GroupAllSaid : Prop := groupAllRow.holds Tryz.pinned (OpenSpec.ofChange groupAllSpec)

/-- ITS FALSE NEIGHBOUR: 'it returns false'. Refute it at one input. -/
def groupAllWrong : ChangeSpec := { name := "groupAll", fn := fun _ => fun
  | [d] => { results := [.lit (.bool false)], args := [d] }
  | _ => none }
def GroupAllWrongFalsely : Prop := groupAllRow.holds Tryz.pinned (OpenSpec.ofChange groupAllWrong)

/-- 'leporellolaw11.GroupQuantiles': WHATEVER THE INPUT: true; the input reads as it did. -/
def groupQuantilesSpec : ChangeSpec := { name := "groupQuantiles", fn := fun _ => fun
  | [d1, d2, d3, d4, d5] => { results := [.lit (.bool true)], args := [d1, d2, d3, d4, d5] }
  | _ => none }
def groupQuantilesRow : OpenClaim := { program := "ytfjinapgehafiaagreat", sum := "b74d584cbc510c9eee0b7909f000c07c3ac3a4121c2cf038840af2e9eec509b7", func := "leporello/leporellolaw11.GroupQuantiles", spec := "groupQuantiles", inPlace := ["internal/bytealg.abigen_runtime_cmpstring", "slices.overlaps[[]leporello/api.Row]"], unfollowed := true, recurses := true, apart := false }
def GroupQuantilesSaid : Prop := groupQuantilesRow.holds Tryz.pinned (OpenSpec.ofChange groupQuantilesSpec)

/-- ITS FALSE NEIGHBOUR: 'it returns false'. Refute it at one input. -/
def groupQuantilesWrong : ChangeSpec := { name := "groupQuantiles", fn := fun _ => fun
  | [d1, d2, d3, d4, d5] => { results := [.lit (.bool false)], args := [d1, d2, d3, d4, d5] }
  | _ => none }
def GroupQuantilesWrongFalsely : Prop := groupQuantilesRow.holds Tryz.pinned (OpenSpec.ofChange groupQuantilesWrong)

/-- 'leporellolaw11.GroupNone': WHATEVER THE INPUT: true; the input reads as it did. -/
def groupNoneSpec : ChangeSpec := { name := "groupNone", fn := fun _ => fun
  | [d1, d2, d3] => { results := [.lit (.bool true)], args := [d1, d2, d3] }
  | _ => none }
def groupNoneRow : OpenClaim := { program := "ytfjinapgehafiaagreat", sum := "b74d584cbc510c9eee0b7909f000c07c3ac3a4121c2cf038840af2e9eec509b7", func := "leporello/leporellolaw11.GroupNone", spec := "groupNone", inPlace := ["internal/bytealg.abigen_runtime_cmpstring", "slices.overlaps[[]leporello/api.Row]"], unfollowed := true, recurses := true, apart := false }
def GroupNoneSaid : Prop := groupNoneRow.holds Tryz.pinned (OpenSpec.ofChange groupNoneSpec)

/-- ITS FALSE NEIGHBOUR: 'it returns false'. Refute it at one input. -/
def groupNoneWrong : ChangeSpec := { name := "groupNone", fn := fun _ => fun
  | [d1, d2, d3] => { results := [.lit (.bool false)], args := [d1, d2, d3] }
  | _ => none }
def GroupNoneWrongFalsely : Prop := groupNoneRow.holds Tryz.pinned (OpenSpec.ofChange groupNoneWrong)

/- THE SECOND FORM. 'bulk': how many values and letters a reading holds, each counted each time it is reached (what is shared counts as often as it is met; a slice's spare places count too). A statement '..UptoSaid' is the law's where the arguments, and the package variables that the reading takes, are together of bulk at most 1048576: NARROWER than '..Said'. Prove '..Said' where nothing that the law and all that it calls make is longer than what came in: it says more and counts as full. Else prove '..UptoSaid'. A law counts once. -/
mutual
def uptoBulk {H : Type} : DataW H → Nat
  | .lit (.string bytes) => bytes.length + 1
  | .lit _ => 1
  | .nil => 1
  | .ptr d => uptoBulk d + 1
  | .slice elems spare => uptoBulkAll elems + uptoBulkAll spare + 1
  | .agg parts => uptoBulkAll parts + 1
  | .iface _ d => uptoBulk d + 1
  | .map entries => uptoBulkEntries entries + 1
  | .held _ => 1
def uptoBulkAll {H : Type} : List (DataW H) → Nat
  | [] => 0
  | d :: r => uptoBulk d + uptoBulkAll r
def uptoBulkEntries {H : Type} : List (Lit × DataW H) → Nat
  | [] => 0
  | x :: r => uptoBulkEntry x + uptoBulkEntries r
def uptoBulkEntry {H : Type} : Lit × DataW H → Nat
  | (.string bytes, d) => bytes.length + uptoBulk d + 1
  | (_, d) => uptoBulk d + 1
 end
def uptoSmall : (H : Type) → List (DataW H) → Bool := fun _ ds => decide (uptoBulkAll ds ≤ 1048576)
def OpenSpec.upto (s : _root_.Go.ChangeSpec) : _root_.Go.OpenSpec := { _root_.Go.OpenSpec.ofChange s with cond := some uptoSmall }

/-- 'leporellolaw10.VectorTells', WHERE WHAT IT READS IS OF BULK AT MOST 1048576: true; the input reads as it did. -/
def vectorTellsUptoRow : OpenClaim := { program := "ytfjinapgehafiaagreat", sum := "b74d584cbc510c9eee0b7909f000c07c3ac3a4121c2cf038840af2e9eec509b7", func := "leporello/leporellolaw10.VectorTells", spec := "vectorTells", inPlace := ["internal/bytealg.abigen_runtime_cmpstring", "internal/abi.NoEscape", "internal/bytealg.MakeNoZero"], unfollowed := true, recurses := true, apart := false, narrowed := true }
def VectorTellsUptoSaid : Prop := vectorTellsUptoRow.holds Tryz.pinned (OpenSpec.upto vectorTellsSpec)

/-- 'leporellolaw11.GroupCounts', WHERE WHAT IT READS IS OF BULK AT MOST 1048576: true; the input reads as it did. -/
def groupCountsUptoRow : OpenClaim := { program := "ytfjinapgehafiaagreat", sum := "b74d584cbc510c9eee0b7909f000c07c3ac3a4121c2cf038840af2e9eec509b7", func := "leporello/leporellolaw11.GroupCounts", spec := "groupCounts", inPlace := ["internal/bytealg.abigen_runtime_cmpstring", "slices.overlaps[[]leporello/api.Row]"], unfollowed := true, recurses := true, apart := false, narrowed := true }
def GroupCountsUptoSaid : Prop := groupCountsUptoRow.holds Tryz.pinned (OpenSpec.upto groupCountsSpec)

/-- 'leporellolaw11.GroupTops', WHERE WHAT IT READS IS OF BULK AT MOST 1048576: true; the input reads as it did. -/
def groupTopsUptoRow : OpenClaim := { program := "ytfjinapgehafiaagreat", sum := "b74d584cbc510c9eee0b7909f000c07c3ac3a4121c2cf038840af2e9eec509b7", func := "leporello/leporellolaw11.GroupTops", spec := "groupTops", inPlace := ["internal/bytealg.abigen_runtime_cmpstring", "slices.overlaps[[]leporello/api.Row]"], unfollowed := true, recurses := true, apart := false, narrowed := true }
def GroupTopsUptoSaid : Prop := groupTopsUptoRow.holds Tryz.pinned (OpenSpec.upto groupTopsSpec)

/-- 'leporellolaw11.GroupSplits', WHERE WHAT IT READS IS OF BULK AT MOST 1048576: true; the input reads as it did. -/
def groupSplitsUptoRow : OpenClaim := { program := "ytfjinapgehafiaagreat", sum := "b74d584cbc510c9eee0b7909f000c07c3ac3a4121c2cf038840af2e9eec509b7", func := "leporello/leporellolaw11.GroupSplits", spec := "groupSplits", inPlace := ["internal/bytealg.abigen_runtime_cmpstring", "slices.overlaps[[]leporello/api.Row]"], unfollowed := true, recurses := true, apart := false, narrowed := true }
def GroupSplitsUptoSaid : Prop := groupSplitsUptoRow.holds Tryz.pinned (OpenSpec.upto groupSplitsSpec)

/-- 'leporellolaw11.GroupAll', WHERE WHAT IT READS IS OF BULK AT MOST 1048576: true; the input reads as it did. -/
def groupAllUptoRow : OpenClaim := { program := "ytfjinapgehafiaagreat", sum := "b74d584cbc510c9eee0b7909f000c07c3ac3a4121c2cf038840af2e9eec509b7", func := "leporello/leporellolaw11.GroupAll", spec := "groupAll", inPlace := ["internal/bytealg.abigen_runtime_cmpstring", "slices.overlaps[[]leporello/api.Row]"], unfollowed := true, recurses := true, apart := false, narrowed := true }
def GroupAllUptoSaid : Prop := groupAllUptoRow.holds Tryz.pinned (OpenSpec.upto groupAllSpec)

/-- 'leporellolaw11.GroupQuantiles', WHERE WHAT IT READS IS OF BULK AT MOST 1048576: true; the input reads as it did. -/
def groupQuantilesUptoRow : OpenClaim := { program := "ytfjinapgehafiaagreat", sum := "b74d584cbc510c9eee0b7909f000c07c3ac3a4121c2cf038840af2e9eec509b7", func := "leporello/leporellolaw11.GroupQuantiles", spec := "groupQuantiles", inPlace := ["internal/bytealg.abigen_runtime_cmpstring", "slices.overlaps[[]leporello/api.Row]"], unfollowed := true, recurses := true, apart := false, narrowed := true }
def GroupQuantilesUptoSaid : Prop := groupQuantilesUptoRow.holds Tryz.pinned (OpenSpec.upto groupQuantilesSpec)

/-- 'leporellolaw11.GroupNone', WHERE WHAT IT READS IS OF BULK AT MOST 1048576: true; the input reads as it did. -/
def groupNoneUptoRow : OpenClaim := { program := "ytfjinapgehafiaagreat", sum := "b74d584cbc510c9eee0b7909f000c07c3ac3a4121c2cf038840af2e9eec509b7", func := "leporello/leporellolaw11.GroupNone", spec := "groupNone", inPlace := ["internal/bytealg.abigen_runtime_cmpstring", "slices.overlaps[[]leporello/api.Row]"], unfollowed := true, recurses := true, apart := false, narrowed := true }
def GroupNoneUptoSaid : Prop := groupNoneUptoRow.holds Tryz.pinned (OpenSpec.upto groupNoneSpec)

end Rows
end Go.Proofs.YtfjinapgehafiaaGreat
