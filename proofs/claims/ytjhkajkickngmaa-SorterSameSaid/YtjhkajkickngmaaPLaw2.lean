/-
  What is said of labels (chapter 2), as plain data.
-/
import Derived.Test.YtjhkajkickngmaaPText
set_option linter.unusedVariables false
namespace Lp
open Go

theorem cmpLs_self (a : List Lbl) : cmpLs a a = 0 := by have := cmpLs_neg a a; omega
theorem cmpLbl_eq {a b : Lbl} : cmpLbl a b = 0 ↔ a = b := by
  constructor
  · intro h
    unfold cmpLbl or2 at h
    split at h
    · contradiction
    · rename_i h1
      have h1 : cmpS a.n b.n = 0 := by omega
      have e1 := (cmpS_eq _ _).1 h1
      have e2 := (cmpS_eq _ _).1 h
      obtain ⟨_, _⟩ := a; obtain ⟨_, _⟩ := b; simp at e1 e2; simp [e1, e2]
  · rintro rfl; have := cmpLbl_neg a a; omega
theorem cmpLs_eq : ∀ {a b : List Lbl}, cmpLs a b = 0 ↔ a = b
  | [], [] => by simp [cmpLs]
  | [], _ :: _ => by simp [cmpLs]
  | _ :: _, [] => by simp [cmpLs]
  | a :: r, b :: s => by
    unfold cmpLs
    split
    · rename_i h
      constructor
      · intro h'; contradiction
      · intro h'; cases h'; exact absurd (cmpLbl_eq.2 rfl) h
    · rename_i h
      have h : cmpLbl a b = 0 := by omega
      rw [cmpLs_eq, cmpLbl_eq.1 h]; simp

/-! ### order -/
theorem isort_len' (l : List Lbl) : (isort cmpLbl l).length = l.length := isort_len _ l rfl
theorem tidyL_len (l : List Lbl) : (tidyL l).length ≤ l.length := by
  unfold tidyL; cases tidyOk l
  · simp
  · simp [isort_len']
theorem tidyE_cases (l : List Lbl) : (tidyE l = 0 ∧ tidyOk l = true ∧ tidyL l = isort cmpLbl l) ∨ (tidyE l = 1 ∧ tidyL l = []) := by
  unfold tidyL tidyE; cases tidyOk l <;> simp
theorem tidy_srt (l : List Lbl) : Srt cmpLbl (tidyL l) := by
  rcases tidyE_cases l with ⟨_, _, h⟩ | ⟨_, h⟩ <;> rw [h]
  · exact (isort_stab cmpLbl_cmp _ l rfl).srt
  · exact List.Pairwise.nil
theorem tidy_ok_b {l : List Lbl} (h : tidyOk l = true) : tidyB (isort cmpLbl l) = true := by unfold tidyOk at h; simp at h; exact h.2
end Lp
