/-
  Texts of labels tell labels apart; names in tidy labels are all different.
-/
import Derived.Test.YtjhkajkickngmaaPLaw2
set_option linter.unusedVariables false
namespace Lp
open Go

/-! ### names in tidy labels -/
def NSrt (l : List Lbl) : Prop := l.Pairwise (fun a b => cmpS a.n b.n < 0)
theorem cmpLbl_n {a b : Lbl} (h : cmpLbl a b ≤ 0) : cmpS a.n b.n ≤ 0 := by
  unfold cmpLbl or2 at h; split at h <;> omega
theorem tidyFrom_n : ∀ (l : List Lbl) (p : Option ByteArray), Srt cmpLbl l → tidyFrom p l = true → NSrt l ∧ ∀ x ∈ l, okL x = true
  | [], _, _, _ => ⟨List.Pairwise.nil, fun _ h => by cases h⟩
  | x :: r, p, hs, ht => by
    have hs' := List.pairwise_cons.1 hs
    unfold tidyFrom at ht
    simp only [Bool.and_eq_true] at ht
    obtain ⟨h1, h2, h3⟩ := ht
    have ih := tidyFrom_n r (some x.n) hs'.2 h3
    refine ⟨List.pairwise_cons.2 ⟨?_, ih.1⟩, ?_⟩
    · intro y hy
      cases r with
      | nil => cases hy
      | cons z r =>
        have hxz : cmpS x.n z.n < 0 := by
          have h4 := cmpLbl_n (hs'.1 z List.mem_cons_self)
          have h5 : ¬ x.n = z.n := by
            unfold tidyFrom at h3; simp only [Bool.and_eq_true, Bool.not_eq_true', decide_eq_false_iff_not] at h3
            intro e; exact h3.2.1 (congrArg some e)
          have h6 : cmpS x.n z.n ≠ 0 := fun e => h5 ((cmpS_eq _ _).1 e)
          omega
        rcases List.mem_cons.1 hy with e | e
        · rw [e]; exact hxz
        · have h7 := (List.pairwise_cons.1 ih.1).1 y e
          exact (cmpS_tr x.n z.n y.n).lt1 hxz (by omega)
    · intro y hy
      rcases List.mem_cons.1 hy with e | e
      · rw [e]; exact h1
      · exact ih.2 y e
theorem tidy_n {l : List Lbl} (h : tidyE l = 0) : NSrt (tidyL l) ∧ ∀ x ∈ tidyL l, okL x = true := by
  rcases tidyE_cases l with ⟨_, h2, h3⟩ | ⟨h2, _⟩
  · have hs := tidy_srt l
    rw [h3] at hs ⊢
    exact tidyFrom_n _ none hs (tidy_ok_b h2)
  · omega
theorem tidyL_mem {l : List Lbl} {x : Lbl} (h : x ∈ tidyL l) : x ∈ l := by
  rcases tidyE_cases l with ⟨_, _, h3⟩ | ⟨_, h3⟩ <;> rw [h3] at h
  · exact ((isort_stab cmpLbl_cmp _ l rfl).mem cmpLbl_cmp x).1 h
  · cases h
theorem light_sizes {l : List Lbl} (h : lightL l = true) : ∀ x ∈ l, x.n.size ≤ 200 ∧ x.v.size ≤ 200 := by
  intro x hx
  have hl := lightL_len h
  unfold lightL at h
  rw [Bool.and_eq_true, List.take_of_length_le (by omega), List.all_eq_true] at h
  have := h.1 x hx
  simpa using this
end Lp
