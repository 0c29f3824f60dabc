/-
  Sorting in little room, as plain data: what the steps leave.
-/
import Derived.Test.YtjhkajkickngmaaPSorter
set_option linter.unusedVariables false
namespace Lp
open Go

/-! ### a merge is there -/
theorem BestTo.ex (o : Int) (L : LLs) : ∀ i, ∃ b, BestTo o L i b
  | 0 => ⟨-1, BestTo.zero o L⟩
  | i + 1 => by
    obtain ⟨b, h⟩ := BestTo.ex o L i
    rcases hi : hd L i with _ | x
    · exact ⟨b, h.skip hi⟩
    · by_cases hb : b < 0
      · exact ⟨_, h.first hb hi⟩
      · obtain ⟨m, y, e, _, hy, _⟩ := h.nat hb
        subst e
        rcases hl : less o x y with _ | _
        · exact ⟨_, h.keep hi hy hl⟩
        · exact ⟨_, h.take hi hy hl⟩
theorem Run.ex (o : Int) : ∀ (n : Nat) (ll : LLs), total ll = n → ∃ rs hs, Run o ll rs hs := by
  intro n
  induction n using Nat.strongRecOn with
  | _ n ih =>
    intro ll hn
    obtain ⟨b, h⟩ := BestTo.ex o ll ll.length
    have far : ∀ k, ll.length ≤ k → hd ll k = none := fun k hk => hd_far hk
    rcases h with ⟨_, h⟩ | ⟨m, _, _, ⟨x, hx⟩, hw⟩
    · refine ⟨[], [], .done fun k => ?_⟩
      rcases Nat.lt_or_ge k ll.length with hk | hk
      · exact h k hk
      · exact far k hk
    · have ht := total_pop hx
      obtain ⟨rs, hs, hr⟩ := ih (total (pop ll m)) (by omega) _ rfl
      refine ⟨x :: rs, m :: hs, .step hx (fun j => ?_) hr⟩
      rcases Nat.lt_or_ge j ll.length with hj | hj
      · exact hw j hj
      · exact Wins.of_none (far j hj)
theorem runR_run (o : Int) (ll : LLs) : Run o ll (runR o ll).1 (runR o ll).2 := by
  obtain ⟨rs, hs, h⟩ := Run.ex o _ ll rfl
  rw [runR_eq h]; exact h
theorem total_done {ll : LLs} (h : ∀ k, hd ll k = none) : total ll = 0 := by
  rcases Nat.eq_zero_or_pos (total ll) with h0 | h0
  · exact h0
  · exfalso
    have : ∃ x ∈ ll, 0 < x.length := by
      unfold total at h0
      induction ll with
      | nil => simp at h0
      | cons y r ih =>
        by_cases hy : 0 < y.length
        · exact ⟨y, List.mem_cons_self, hy⟩
        · simp only [List.map_cons, List.sum_cons] at h0
          obtain ⟨x, hx, hl⟩ := ih (fun k => by have := h (k + 1); unfold hd at this ⊢; simpa using this) (by omega)
          exact ⟨x, List.mem_cons_of_mem _ hx, hl⟩
    obtain ⟨x, hx, hl⟩ := this
    obtain ⟨k, hk⟩ := List.mem_iff_getElem?.1 hx
    have := h k
    rw [hd_at hk] at this
    cases x with
    | nil => simp at hl
    | cons a b => cases this
theorem Run.len {o : Int} {ll : LLs} {rs : List RowD} {hs : List Nat} (h : Run o ll rs hs) : rs.length = total ll ∧ hs.length = total ll := by
  induction h with
  | done h => rw [total_done h]; exact ⟨rfl, rfl⟩
  | step hx _ _ ih => have := total_pop hx; simp only [List.length_cons]; omega
theorem total_mem {ll : LLs} {x : List RowD} (h : x ∈ ll) : x.length ≤ total ll := by
  unfold total
  induction ll with
  | nil => cases h
  | cons y r ih =>
    simp only [List.map_cons, List.sum_cons]
    rcases List.mem_cons.1 h with e | e
    · rw [e]; omega
    · have := ih e; omega
end Lp
