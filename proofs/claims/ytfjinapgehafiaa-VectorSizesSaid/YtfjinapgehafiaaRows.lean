/-
  No cell of these rows narrows 'for every input' (looked for: loops, veiled, ifaces, maps, wideKeys, modest, calm, conditions, laid).
  DERIVED. THE GIVEN ROWS OF THIS SEAT. 4 by the template 'for every input the law returns true; each argument reads behind the call as it read before'; 0 by the template 'total and deterministic' (their statements: YtfjinapgehafiaaTotals.lean).
  GIVEN WITH THE SEED: the statements are not yours to turn. If you find one false, say at which input.
  Laid BY PROGRAM, IN A SANDBOX (cutbox-rows.mjs): the forced cells as the released guide's own fill.sh prints them over the translation a24fcbf182697fe4… (all of the seat's roots in one cut). By AI agents, Wed Nov 11 2026. No macro, syntax, notation, axiom, sorry.
-/
import Derived.Test.YtfjinapgehafiaaChecked
import GoSem.Claim
import GoSem.ClaimJoined
import GoSem.ClaimMapViews
import Derived.JoinedTies
import Derived.KernelRfl
namespace Go.Proofs.Ytfjinapgehafiaa
/- THE CELL 'sum', in the pinned program and in every row, IS THE sha256 OF THE DUMP (.gsa) THAT YtfjinapgehafiaaProg.lean LOADS. Nothing in Lean hashes anything: it is a label: what it is worth is what the hold of that sum in a sandbox is worth. -/
noncomputable def Try.pinned : Pinned := { name := "ytfjinapgehafiaa", sum := "a24fcbf182697fe49c52795d5e88e17278c102174a6fc56ab20573ca743c1c82", checked := Try.checked }
namespace Rows
def none {H : Type} : Left H := { results := [], args := [] }

/-- 'leporellolaw10.VectorKeys': WHATEVER THE INPUT: true; the input reads as it did. -/
def vectorKeysSpec : ChangeSpec := { name := "vectorKeys", fn := fun _ => fun
  | [d1, d2] => { results := [.lit (.bool true)], args := [d1, d2] }
  | _ => none }
def vectorKeysRow : OpenClaim := { program := "ytfjinapgehafiaa", sum := "a24fcbf182697fe49c52795d5e88e17278c102174a6fc56ab20573ca743c1c82", func := "leporello/leporellolaw10.VectorKeys", spec := "vectorKeys", inPlace := ["internal/bytealg.abigen_runtime_cmpstring", "internal/abi.NoEscape", "internal/bytealg.MakeNoZero"], unfollowed := true, recurses := true, apart := false }
def VectorKeysSaid : Prop := vectorKeysRow.holds Try.pinned (OpenSpec.ofChange vectorKeysSpec)

/-- ITS FALSE NEIGHBOUR: 'it returns false'. Refute it at one input. -/
def vectorKeysWrong : ChangeSpec := { name := "vectorKeys", fn := fun _ => fun
  | [d1, d2] => { results := [.lit (.bool false)], args := [d1, d2] }
  | _ => none }
def VectorKeysWrongFalsely : Prop := vectorKeysRow.holds Try.pinned (OpenSpec.ofChange vectorKeysWrong)

/-- 'leporellolaw10.VectorLaws': WHATEVER THE INPUT: true; the input reads as it did. -/
def vectorLawsSpec : ChangeSpec := { name := "vectorLaws", fn := fun _ => fun
  | [d1, d2, d3] => { results := [.lit (.bool true)], args := [d1, d2, d3] }
  | _ => none }
def vectorLawsRow : OpenClaim := { program := "ytfjinapgehafiaa", sum := "a24fcbf182697fe49c52795d5e88e17278c102174a6fc56ab20573ca743c1c82", func := "leporello/leporellolaw10.VectorLaws", spec := "vectorLaws", inPlace := ["internal/bytealg.abigen_runtime_cmpstring", "internal/abi.NoEscape", "internal/bytealg.MakeNoZero"], unfollowed := true, recurses := true, apart := false }
def VectorLawsSaid : Prop := vectorLawsRow.holds Try.pinned (OpenSpec.ofChange vectorLawsSpec)

/-- ITS FALSE NEIGHBOUR: 'it returns false'. Refute it at one input. -/
def vectorLawsWrong : ChangeSpec := { name := "vectorLaws", fn := fun _ => fun
  | [d1, d2, d3] => { results := [.lit (.bool false)], args := [d1, d2, d3] }
  | _ => none }
def VectorLawsWrongFalsely : Prop := vectorLawsRow.holds Try.pinned (OpenSpec.ofChange vectorLawsWrong)

/-- 'leporellolaw10.VectorSizes': WHATEVER THE INPUT: true; the input reads as it did. -/
def vectorSizesSpec : ChangeSpec := { name := "vectorSizes", fn := fun _ => fun
  | [d1, d2, d3, d4, d5, d6] => { results := [.lit (.bool true)], args := [d1, d2, d3, d4, d5, d6] }
  | _ => none }
def vectorSizesRow : OpenClaim := { program := "ytfjinapgehafiaa", sum := "a24fcbf182697fe49c52795d5e88e17278c102174a6fc56ab20573ca743c1c82", func := "leporello/leporellolaw10.VectorSizes", spec := "vectorSizes", inPlace := ["internal/bytealg.abigen_runtime_cmpstring", "internal/abi.NoEscape", "internal/bytealg.MakeNoZero"], unfollowed := true, recurses := true, apart := false }
def VectorSizesSaid : Prop := vectorSizesRow.holds Try.pinned (OpenSpec.ofChange vectorSizesSpec)

/-- ITS FALSE NEIGHBOUR: 'it returns false'. Refute it at one input. -/
def vectorSizesWrong : ChangeSpec := { name := "vectorSizes", fn := fun _ => fun
  | [d1, d2, d3, d4, d5, d6] => { results := [.lit (.bool false)], args := [d1, d2, d3, d4, d5, d6] }
  | _ => none }
def VectorSizesWrongFalsely : Prop := vectorSizesRow.holds Try.pinned (OpenSpec.ofChange vectorSizesWrong)

/-- 'leporellolaw10.VectorNegs': WHATEVER THE INPUT: true; the input reads as it did. -/
def vectorNegsSpec : ChangeSpec := { name := "vectorNegs", fn := fun _ => fun
  | [d1, d2] => { results := [.lit (.bool true)], args := [d1, d2] }
  | _ => none }
def vectorNegsRow : OpenClaim := { program := "ytfjinapgehafiaa", sum := "a24fcbf182697fe49c52795d5e88e17278c102174a6fc56ab20573ca743c1c82", func := "leporello/leporellolaw10.VectorNegs", spec := "vectorNegs", inPlace := ["internal/bytealg.abigen_runtime_cmpstring", "internal/abi.NoEscape", "internal/bytealg.MakeNoZero"], unfollowed := true, recurses := true, apart := false }
def VectorNegsSaid : Prop := vectorNegsRow.holds Try.pinned (OpenSpec.ofChange vectorNegsSpec)

/-- ITS FALSE NEIGHBOUR: 'it returns false'. Refute it at one input. -/
def vectorNegsWrong : ChangeSpec := { name := "vectorNegs", fn := fun _ => fun
  | [d1, d2] => { results := [.lit (.bool false)], args := [d1, d2] }
  | _ => none }
def VectorNegsWrongFalsely : Prop := vectorNegsRow.holds Try.pinned (OpenSpec.ofChange vectorNegsWrong)

/- THE SECOND FORM. 'bulk': how many values and letters a reading holds, each counted each time it is reached (what is shared counts as often as it is met; a slice's spare places count too). A statement '..UptoSaid' is the law's where the arguments, and the package variables that the reading takes, are together of bulk at most 1048576: NARROWER than '..Said'. Prove '..Said' where nothing that the law and all that it calls make is longer than what came in: it says more and counts as full. Else prove '..UptoSaid'. A law counts once. -/
mutual
def uptoBulk {H : Type} : DataW H → Nat
  | .lit (.string bytes) => bytes.length + 1
  | .lit _ => 1
  | .nil => 1
  | .ptr d => uptoBulk d + 1
  | .slice elems spare => uptoBulkAll elems + uptoBulkAll spare + 1
  | .agg parts => uptoBulkAll parts + 1
  | .iface _ d => uptoBulk d + 1
  | .map entries => uptoBulkEntries entries + 1
  | .held _ => 1
def uptoBulkAll {H : Type} : List (DataW H) → Nat
  | [] => 0
  | d :: r => uptoBulk d + uptoBulkAll r
def uptoBulkEntries {H : Type} : List (Lit × DataW H) → Nat
  | [] => 0
  | x :: r => uptoBulkEntry x + uptoBulkEntries r
def uptoBulkEntry {H : Type} : Lit × DataW H → Nat
  | (.string bytes, d) => bytes.length + uptoBulk d + 1
  | (_, d) => uptoBulk d + 1
 end
def uptoSmall : (H : Type) → List (DataW H) → Bool := fun _ ds => decide (uptoBulkAll ds ≤ 1048576)
def OpenSpec.upto (s : _root_.Go.ChangeSpec) : _root_.Go.OpenSpec := { _root_.Go.OpenSpec.ofChange s with cond := some uptoSmall }

/-- 'leporellolaw10.VectorKeys', WHERE WHAT IT READS IS OF BULK AT MOST 1048576: true; the input reads as it did. -/
def vectorKeysUptoRow : OpenClaim := { program := "ytfjinapgehafiaa", sum := "a24fcbf182697fe49c52795d5e88e17278c102174a6fc56ab20573ca743c1c82", func := "leporello/leporellolaw10.VectorKeys", spec := "vectorKeys", inPlace := ["internal/bytealg.abigen_runtime_cmpstring", "internal/abi.NoEscape", "internal/bytealg.MakeNoZero"], unfollowed := true, recurses := true, apart := false, narrowed := true }
def VectorKeysUptoSaid : Prop := vectorKeysUptoRow.holds Try.pinned (OpenSpec.upto vectorKeysSpec)

/-- 'leporellolaw10.VectorLaws', WHERE WHAT IT READS IS OF BULK AT MOST 1048576: true; the input reads as it did. -/
def vectorLawsUptoRow : OpenClaim := { program := "ytfjinapgehafiaa", sum := "a24fcbf182697fe49c52795d5e88e17278c102174a6fc56ab20573ca743c1c82", func := "leporello/leporellolaw10.VectorLaws", spec := "vectorLaws", inPlace := ["internal/bytealg.abigen_runtime_cmpstring", "internal/abi.NoEscape", "internal/bytealg.MakeNoZero"], unfollowed := true, recurses := true, apart := false, narrowed := true }
def VectorLawsUptoSaid : Prop := vectorLawsUptoRow.holds Try.pinned (OpenSpec.upto vectorLawsSpec)

/-- 'leporellolaw10.VectorSizes', WHERE WHAT IT READS IS OF BULK AT MOST 1048576: true; the input reads as it did. -/
def vectorSizesUptoRow : OpenClaim := { program := "ytfjinapgehafiaa", sum := "a24fcbf182697fe49c52795d5e88e17278c102174a6fc56ab20573ca743c1c82", func := "leporello/leporellolaw10.VectorSizes", spec := "vectorSizes", inPlace := ["internal/bytealg.abigen_runtime_cmpstring", "internal/abi.NoEscape", "internal/bytealg.MakeNoZero"], unfollowed := true, recurses := true, apart := false, narrowed := true }
def VectorSizesUptoSaid : Prop := vectorSizesUptoRow.holds Try.pinned (OpenSpec.upto vectorSizesSpec)

/-- 'leporellolaw10.VectorNegs', WHERE WHAT IT READS IS OF BULK AT MOST 1048576: true; the input reads as it did. -/
def vectorNegsUptoRow : OpenClaim := { program := "ytfjinapgehafiaa", sum := "a24fcbf182697fe49c52795d5e88e17278c102174a6fc56ab20573ca743c1c82", func := "leporello/leporellolaw10.VectorNegs", spec := "vectorNegs", inPlace := ["internal/bytealg.abigen_runtime_cmpstring", "internal/abi.NoEscape", "internal/bytealg.MakeNoZero"], unfollowed := true, recurses := true, apart := false, narrowed := true }
def VectorNegsUptoSaid : Prop := vectorNegsUptoRow.holds Try.pinned (OpenSpec.upto vectorNegsSpec)

end Rows
end Go.Proofs.Ytfjinapgehafiaa
