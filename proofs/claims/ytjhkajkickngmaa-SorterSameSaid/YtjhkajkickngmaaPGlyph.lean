/-
  Runes and names, as data.
-/
import Derived.Test.YtjhkajkickngmaaPRun
set_option linter.unusedVariables false
namespace Lp
open Go

def kindR (r : Int) : Int :=
  if r < 0 ∨ r = 65533 then 0 else if (97 ≤ r ∧ r ≤ 122) ∨ (65 ≤ r ∧ r ≤ 90) ∨ r = 95 ∨ 128 ≤ r then 1 else if 48 ≤ r ∧ r ≤ 57 then 2 else if r = 32 ∨ r = 9 ∨ r = 10 then 3 else 4
abbrev dR (n : Int) : D := .v (.int .i32 n)
def nameR : Nat → List Int → Bool
  | n, [] => decide (1 ≤ n) && decide (n ≤ 30)
  | n, r :: rs => if kindR r ≠ 1 ∧ (kindR r ≠ 2 ∨ n = 0) then false else nameR (n + 1) rs
def nameB (s : ByteArray) : Bool := nameR 0 (runes s)
theorem nameR_bad {n : Nat} {r : Int} {rs : List Int} (h : kindR r ≠ 1 ∧ (kindR r ≠ 2 ∨ n = 0)) : nameR n (r :: rs) = false := by unfold nameR; rw [if_pos h]
theorem nameR_next {n : Nat} {r : Int} {rs : List Int} (h : ¬ (kindR r ≠ 1 ∧ (kindR r ≠ 2 ∨ n = 0))) : nameR n (r :: rs) = nameR (n + 1) rs := by conv => lhs; unfold nameR
                                                                                                                                                  rw [if_neg h]
/-- all are letters or digits -/
def wordR (rs : List Int) : Bool := rs.all fun r => decide (kindR r = 1 ∨ kindR r = 2)
theorem wordR_cons {r : Int} {rs : List Int} : wordR (r :: rs) = (decide (kindR r = 1 ∨ kindR r = 2) && wordR rs) := rfl
theorem nameR_word : ∀ (rs : List Int) (n : Nat), 1 ≤ n → nameR n rs = (wordR rs && decide (n + rs.length ≤ 30))
  | [], n, h => by simp [nameR, wordR, h]
  | r :: rs, n, h => by
    by_cases hr : kindR r = 1 ∨ kindR r = 2
    · rw [nameR_next (by omega), nameR_word rs (n + 1) (by omega), wordR_cons, decide_eq_true hr, Bool.true_and]
      congr 1; rw [decide_eq_decide, List.length_cons]; omega
    · rw [nameR_bad (by omega), wordR_cons, decide_eq_false hr]; rfl
theorem nameR_start (rs : List Int) : nameR 0 rs = (decide (1 ≤ rs.length) && decide (rs.length ≤ 30) && decide (kindR (rs.getD 0 0) = 1) && wordR rs) := by
  cases rs with
  | nil => simp [nameR]
  | cons r rs =>
    by_cases hr : kindR r = 1
    · rw [nameR_next (by omega), nameR_word rs 1 (by omega), wordR_cons, decide_eq_true (show kindR r = 1 ∨ kindR r = 2 from .inl hr), Bool.true_and, Bool.and_comm (wordR rs)]
      have e1 : decide (kindR ((r :: rs).getD 0 0) = 1) = true := decide_eq_true hr
      rw [e1, Bool.and_true]
      congr 1
      rw [Bool.eq_iff_iff]; simp [Nat.add_comm]
    · rw [nameR_bad (by omega)]
      have e1 : decide (kindR ((r :: rs).getD 0 0) = 1) = false := decide_eq_false hr
      rw [e1, Bool.and_false]; rfl
theorem wordR_take {rs : List Int} {k : Nat} {x : Int} (hx : rs[k]? = some x) (h : wordR (rs.take k) = true) (hk : kindR x = 1 ∨ kindR x = 2) : wordR (rs.take (k + 1)) = true := by
  unfold wordR at *; exact all_take_snoc hx h (by simpa using hk)
theorem wordR_bad {rs : List Int} {k : Nat} {x : Int} (hx : rs[k]? = some x) (hk : ¬ (kindR x = 1 ∨ kindR x = 2)) : wordR rs = false := by
  unfold wordR; rw [List.all_eq_false]; exact ⟨x, List.mem_of_getElem? hx, by simpa using hk⟩
end Lp
