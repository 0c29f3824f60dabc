/-
  Texts of labels, as plain data: runes as bytes, quotation marks, joining.
-/
import Derived.Test.YtjhkajkickngmaaPLbl
set_option linter.unusedVariables false
namespace Lp
open Go

def wide : ByteArray := ⟨#[239, 191, 189]⟩
end Lp
