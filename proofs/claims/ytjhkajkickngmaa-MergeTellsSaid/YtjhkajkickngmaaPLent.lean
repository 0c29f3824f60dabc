/-
  Rows that are lent: a mark stands in the room behind them. The document's own merge.
-/
import Derived.Test.YtjhkajkickngmaaDM
set_option linter.unusedVariables false
namespace Lp
open Go
abbrev dLent (l : List RowD) : D := .shr 2 l.length ((l ++ [RowD.mk [] (-77)]).map RowD.d)
end Lp
