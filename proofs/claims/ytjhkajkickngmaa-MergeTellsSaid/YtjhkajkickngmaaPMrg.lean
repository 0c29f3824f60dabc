/-
  Where a merge stands, with the rows that are to come.
-/
import Derived.Test.YtjhkajkickngmaaPBook
set_option linter.unusedVariables false
namespace Lp
open Go
theorem drop_head {α : Type} {xs r : List α} {j : Nat} {x : α} (h : xs.drop j = x :: r) : xs[j]? = some x ∧ xs.drop (j + 1) = r := by
  constructor
  · have := List.getElem?_drop (xs := xs) (i := j) (j := 0)
    rw [h] at this; simpa using this.symm
  · rw [← List.drop_drop, h]; rfl
theorem run_at2 {o : Int} {ll : LLs} {rs : List RowD} {c hs : List Nat} {j m : Nat} (hr : Run o (rest ll c) (rs.drop j) (hs.drop j)) (hm : hs[j]? = some m) : ∃ z q u, ll[m]? = some z ∧ c[m]? = some q ∧ z[q]? = some u ∧ rs[j]? = some u ∧ Run o (rest ll (c.set m (q + 1))) (rs.drop (j + 1)) (hs.drop (j + 1)) := by
  rw [drop_cons hm] at hr
  generalize e : rs.drop j = r at hr
  cases hr with
  | step hx hw hr =>
    obtain ⟨z, q, hz, hq, hu⟩ := hd_rest_some hx
    rw [pop_rest hz hq] at hr
    obtain ⟨e1, e2⟩ := drop_head e
    exact ⟨z, q, _, hz, hq, hu, e1, by rw [e2]; exact hr⟩
theorem lents {L : List Hp} : ∀ ll : LLs, ArgCs L (ll.map dLent) (ll.map (D.ls 2 RowD.d))
  | [] => .nil
  | x :: r => .cons ArgC.lent (lents r)
def nI (l : List Nat) : List Int := l.map (fun n => ((n : Nat) : Int))
theorem map_nI (l : List Nat) : l.map dN = (nI l).map dI := by unfold nI; rw [List.map_map]; rfl
def num (n : Int) : RowD := ⟨[], n⟩
theorem less_num (a b : Int) : less 1 (num a) (num b) = decide (a < b) := by
  unfold less cmpRow or2 cmpI num
  simp only [if_true, cmpLs]
  by_cases h : a < b
  · simp [h]
  · by_cases h2 : b < a <;> simp [h, h2]
theorem alive_run : Run 1 [[num 1, num 4], [num 1, num 2]] [num 1, num 1, num 2, num 4] [0, 1, 1, 0] := by
  have two : ∀ {ll : LLs} {m j : Nat} {a b : Int}, hd ll m = some (num a) → hd ll j = some (num b) → (a ≤ b) → (j < m → a < b) → Wins 1 ll m j := by
    intro ll m j a b h1 h2 h3 h4 y hy
    rw [h2] at hy; injection hy with e; subst e
    exact ⟨_, h1, by rw [less_num]; simp; omega, fun h => by rw [less_num]; simpa using h4 h⟩
  refine .step (m := 0) (x := num 1) rfl (fun j => ?_) (.step (m := 1) (x := num 1) rfl (fun j => ?_) (.step (m := 1) (x := num 2) rfl (fun j => ?_) (.step (m := 0) (x := num 4) rfl (fun j => ?_) (.done (fun k => ?_)))))
  · match j with
    | 0 => exact Wins.refl _ _ _
    | 1 => exact two rfl rfl (by omega) (by omega)
    | n + 2 => exact Wins.of_none rfl
  · match j with
    | 0 => exact two rfl rfl (by omega) (by omega)
    | 1 => exact Wins.refl _ _ _
    | n + 2 => exact Wins.of_none rfl
  · match j with
    | 0 => exact two rfl rfl (by omega) (by omega)
    | 1 => exact Wins.refl _ _ _
    | n + 2 => exact Wins.of_none rfl
  · match j with
    | 0 => exact Wins.refl _ _ _
    | 1 => exact Wins.of_none rfl
    | n + 2 => exact Wins.of_none rfl
  · match k with
    | 0 => rfl
    | 1 => rfl
    | n + 2 => rfl
theorem sortedB_one {o : Int} {l : List RowD} : sortedB o (l.take 1) = true := by
  rw [sortedB_iff]
  cases l with
  | nil => trivial
  | cons x r => exact ⟨by simp, trivial⟩
theorem sortedB_snoc {o : Int} {l : List RowD} {k j : Nat} {x y : RowD} (hj : j + 1 = k) (hx : l[j]? = some x) (hy : l[k]? = some y) : sortedB o (l.take (k + 1)) = (sortedB o (l.take k) && !less o y x) := by
  have hk := get_lt hy
  rw [Bool.eq_iff_iff, Bool.and_eq_true, sortedB_iff, sortedB_iff]
  have hxt : (l.take (k + 1))[j]? = some x := by rw [List.getElem?_take_of_lt (by omega)]; exact hx
  have hyt : (l.take (k + 1))[k]? = some y := by rw [List.getElem?_take_of_lt (by omega)]; exact hy
  constructor
  · intro h
    refine ⟨?_, ?_⟩
    · have := h.take k
      rwa [List.take_take, Nat.min_eq_left (by omega)] at this
    · have := h.get (by omega : j ≤ k) hxt hyt
      rw [leR_iff] at this; simp [this]
  · rintro ⟨h1, h2⟩
    have h2' : less o y x = false := by simpa using h2
    refine sorted_of (fun i a b ha hb => ?_)
    have hi := get_lt hb
    rw [List.length_take] at hi
    rcases Nat.lt_or_ge (i + 1) k with h' | h'
    · rw [List.getElem?_take_of_lt (by omega)] at ha hb
      exact h1.get (by omega : i ≤ i + 1) (by rw [List.getElem?_take_of_lt (by omega)]; exact ha) (by rw [List.getElem?_take_of_lt h']; exact hb)
    · obtain rfl : i = j := by omega
      rw [hxt] at ha; injection ha with ha; subst ha
      rw [hj, hyt] at hb; injection hb with hb; subst hb
      exact leR_iff.2 h2'
end Lp
