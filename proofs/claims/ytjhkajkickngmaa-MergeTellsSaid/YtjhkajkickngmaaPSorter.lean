/-
  Sorting in little room, as plain data: the purse, runs, merging them.
-/
import Derived.Test.YtjhkajkickngmaaV24
set_option linter.unusedVariables false
namespace Lp
open Go

/-- a run that is merged: which rows, and of which list each is -/
noncomputable def runR (o : Int) (ll : LLs) : List RowD × List Nat := Classical.epsilon (fun p => Run o ll p.1 p.2)
theorem runR_eq {o : Int} {ll : LLs} {rs : List RowD} {hs : List Nat} (h : Run o ll rs hs) : runR o ll = (rs, hs) := by
  have h1 : Run o ll (runR o ll).1 (runR o ll).2 := Classical.epsilon_spec (p := fun p : List RowD × List Nat => Run o ll p.1 p.2) ⟨(rs, hs), h⟩
  obtain ⟨e1, e2⟩ := h1.det h
  exact Prod.ext e1 e2
end Lp
