/-
  Sorting in little room, as plain data: what comes out.
-/
import Derived.Test.YtjhkajkickngmaaV29
set_option linter.unusedVariables false
namespace Lp
open Go

/-! ### merging -/
theorem Run.mem {o : Int} {ll : LLs} {rs : List RowD} {hs : List Nat} (h : Run o ll rs hs) : ∀ r ∈ rs, ∃ l ∈ ll, r ∈ l := by
  induction h with
  | done _ => intro r hr; cases hr
  | @step ll m x rs hs hx _ _ ih =>
    obtain ⟨t, ht⟩ := hd_get hx
    intro r hr
    rcases List.mem_cons.1 hr with e | e
    · exact ⟨_, mem_get ht, by rw [e]; exact List.mem_cons_self⟩
    · obtain ⟨l, hl, hrl⟩ := ih r e
      unfold pop at hl
      rcases List.mem_or_eq_of_mem_set hl with hl | hl
      · exact ⟨l, hl, hrl⟩
      · rw [hl] at hrl
        refine ⟨_, mem_get ht, ?_⟩
        rw [List.getD_eq_getElem?_getD, ht] at hrl
        exact List.mem_of_mem_drop hrl
end Lp
