/-
  Labels in whatever order, as plain data.
-/
import Derived.Test.YtjhkajkickngmaaPText2
set_option linter.unusedVariables false
namespace Lp
open Go
theorem turn_at (turn : Int) {l : List Lbl} (h : 0 < l.length) : ∃ k : Nat, Int.tmod (Int.tmod turn ((l.length : Nat) : Int) + ((l.length : Nat) : Int)) ((l.length : Nat) : Int) = (k : Int) ∧ k < l.length := by
  have h0 : (0 : Int) < ((l.length : Nat) : Int) := by omega
  have h1 := Int.tmod_lt_of_pos turn h0
  have h2 := Int.lt_tmod_of_pos turn h0
  have h3 : 0 ≤ Int.tmod turn ((l.length : Nat) : Int) + ((l.length : Nat) : Int) := by omega
  have h4 := Int.tmod_lt_of_pos (Int.tmod turn ((l.length : Nat) : Int) + ((l.length : Nat) : Int)) h0
  have h5 := Int.tmod_nonneg ((l.length : Nat) : Int) h3
  exact ⟨(Int.tmod (Int.tmod turn ((l.length : Nat) : Int) + ((l.length : Nat) : Int)) ((l.length : Nat) : Int)).toNat, by omega, by omega⟩
theorem turned (l : List Lbl) (k : Nat) : ((l.take (l.length)).drop k) ++ ((l.take k).drop 0) = l.drop k ++ l.take k := by rw [List.take_length, List.drop_zero]
theorem turn_tidy (l : List Lbl) (k : Nat) : tidyL (((l.take (l.length)).drop k) ++ ((l.take k).drop 0)) = tidyL l ∧ tidyE (((l.take (l.length)).drop k) ++ ((l.take k).drop 0)) = tidyE l := by
  rw [turned]; exact tidy_perm (turn_perm l k)
theorem turn_len (l : List Lbl) (k : Nat) : (((l.take (l.length)).drop k) ++ ((l.take k).drop 0)).length = l.length := by
  rw [turned]; exact (turn_perm l k).length_eq
theorem turn_dead {l m : List Lbl} (h : tidyL m = tidyL l ∧ tidyE m = tidyE l) (hc : ((decide (tidyE l = 0) != decide (tidyE m = 0)) = true) ∨ ¬ tidyL l = tidyL m) : False := by
  rw [h.1, h.2] at hc; simp at hc
theorem order_dead {l a b : List Lbl} (h : (cmpLs l a ≤ 0 ∧ cmpLs a b ≤ 0) ∧ 0 < cmpLs l b) : False := by
  have := (cmpLs_tr l a b).le h.1.1 h.1.2; omega
theorem texts_dead {a b : List Lbl} (ha : tidyE a = 0) (hb : tidyE b = 0) (h : (decide (textB (tidyL a) = textB (tidyL b)) != decide (tidyL a = tidyL b)) = true) : False := by
  by_cases e : tidyL a = tidyL b
  · rw [e] at h; simp at h
  · have : ¬ textB (tidyL a) = textB (tidyL b) := fun t => e (textB_inj ha hb t)
    simp [e, this] at h
end Lp
