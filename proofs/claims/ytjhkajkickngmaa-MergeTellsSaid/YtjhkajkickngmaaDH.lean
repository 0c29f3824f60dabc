/-
  BYTES: rows of bytes, texts appended to them; a strings.Builder.
-/
import Derived.Lib.AppendStr
import Derived.Lib.UnsafeStr
import Derived.Test.YtjhkajkickngmaaV3
set_option linter.unusedVariables false
namespace Lp
open Go Go.RowKit
open Go.Lib (strCells strCells_eq byteCells byteCells_length run_append_own_string)

section
variable {P : Program} {ty : TypeId} {K : Kd} {H : List Hp}
def decR (s : ByteArray) (p : Nat) : Nat := (Utf8.decode s p).1
def decW (s : ByteArray) (p : Nat) : Nat := (Utf8.decode s p).2
theorem decW_pos (s : ByteArray) (p : Nat) : 1 ≤ decW s p := by
  unfold decW Utf8.decode
  simp only
  (repeat' split) <;> simp
/-- the runes of a text, from a place on -/
def runesAt (s : ByteArray) (p : Nat) : List Int := if h : p < s.size then (decR s p : Int) :: runesAt s (p + decW s p) else []
termination_by s.size - p
decreasing_by have := decW_pos s p; omega
def runes (s : ByteArray) : List Int := runesAt s 0
end
end Lp
