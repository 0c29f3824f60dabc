/-
  Tidy labels, as plain data.
-/
import Derived.Test.YtjhkajkickngmaaV5
set_option linter.unusedVariables false
namespace Lp
open Go

def okL (x : Lbl) : Bool := nameB x.n && (!decide (x.v = ByteArray.empty) && decide (x.v.size ≤ 60))
def tidyFrom : Option ByteArray → List Lbl → Bool
  | _, [] => true
  | p, x :: r => okL x && (!decide (p = some x.n) && tidyFrom (some x.n) r)
def prevN (o : List Lbl) : Nat → Option ByteArray
  | 0 => none
  | k + 1 => (o[k]?).map (·.n)
def tidyAt (o : List Lbl) (k : Nat) : Bool := tidyFrom (prevN o k) (o.drop k)
def tidyB (o : List Lbl) : Bool := tidyAt o 0
def tidyOk (l : List Lbl) : Bool := decide (l.length ≤ 8) && tidyB (isort cmpLbl l)
def tidyL (l : List Lbl) : List Lbl := bif tidyOk l then isort cmpLbl l else []
def tidyE (l : List Lbl) : Int := bif tidyOk l then 0 else 1

theorem okL_f1 {x : Lbl} (h : nameB x.n = false) : okL x = false := by simp [okL, h]
theorem okL_f2 {x : Lbl} (h : x.v = ByteArray.empty) : okL x = false := by simp [okL, h]
theorem okL_f3 {x : Lbl} (h : (60 : Int) < ((x.v.size : Nat) : Int)) : okL x = false := by
  have : ¬ x.v.size ≤ 60 := by omega
  simp [okL, this]
theorem okL_t {x : Lbl} (h1 : nameB x.n = true) (h2 : ¬ x.v = ByteArray.empty) (h3 : ¬ (60 : Int) < ((x.v.size : Nat) : Int)) : okL x = true := by
  have : x.v.size ≤ 60 := by omega
  simp [okL, h1, h2, this]
section
variable {l : List Lbl} {k : Nat} {x : Lbl}
end

end Lp
