/-
  The program draws the order of what Go leaves open.
-/
import Derived.Test.YtjhkajkickngmaaProg
import Derived.Test.YtjhkajkickngmaaDIn
namespace Lp
open Go Go.RowKit Go.Proofs
theorem mixed : Try.prog.follows .mixedOrders = true := by kernel_rfl
/-- short words for ways through code -/
abbrev T' : Bool := true
abbrev F' : Bool := false
end Lp
