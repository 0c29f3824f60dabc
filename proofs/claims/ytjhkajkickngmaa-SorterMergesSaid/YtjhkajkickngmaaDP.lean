/-
  The program draws the order of what Go leaves open.
-/
import Derived.Test.YtjhkajkickngmaaDG
import Derived.Test.YtjhkajkickngmaaProg
namespace Lp
open Go Go.RowKit Go.Proofs
theorem mixed : Try.prog.follows .mixedOrders = true := by kernel_rfl
end Lp
