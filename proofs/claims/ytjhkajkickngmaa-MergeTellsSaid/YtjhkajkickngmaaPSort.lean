/-
  Rows in order, as plain data: what a stable sort is; a merge of lists that are in order is one; it is the only one.
-/
import Derived.Test.YtjhkajkickngmaaPRun
set_option linter.unusedVariables false
namespace Lp
open Go

/-- a stands no later than b. -/
def leR (o : Int) (a b : RowD) : Prop := cmpRow o a b ≤ 0
theorem leR.trans {o : Int} {a b c : RowD} (h : leR o a b) (k : leR o b c) : leR o a c := (cmpRow_tr o a b c).le h k
theorem leR.refl (o : Int) (a : RowD) : leR o a a := by unfold leR; have := cmpRow_neg o a a; omega
theorem leR_iff {o : Int} {a b : RowD} : leR o a b ↔ less o b a = false := less_false.symm
def Sorted (o : Int) : List RowD → Prop
  | [] => True
  | a :: r => (∀ b ∈ r, leR o a b) ∧ Sorted o r
theorem Sorted.append {o : Int} : ∀ {a b : List RowD}, Sorted o a → Sorted o b → (∀ x ∈ a, ∀ y ∈ b, leR o x y) → Sorted o (a ++ b)
  | [], _, _, hb, _ => hb
  | x :: a, b, ha, hb, h => ⟨fun y hy => by
      rcases List.mem_append.1 hy with hy | hy
      · exact ha.1 y hy
      · exact h x List.mem_cons_self y hy, Sorted.append ha.2 hb (fun u hu y hy => h u (List.mem_cons_of_mem _ hu) y hy)⟩
theorem Sorted.get {o : Int} : ∀ {a : List RowD}, Sorted o a → ∀ {i j : Nat} {x y : RowD}, i ≤ j → a[i]? = some x → a[j]? = some y → leR o x y
  | [], _, _, _, _, _, _, h, _ => by cases h
  | u :: a, ha, 0, 0, x, y, _, h1, h2 => by rw [h1] at h2; injection h2 with e; subst e; exact leR.refl o x
  | u :: a, ha, 0, j + 1, x, y, _, h1, h2 => by
    simp at h1 h2; subst h1; exact ha.1 y (List.mem_of_getElem? h2)
  | u :: a, ha, i + 1, j + 1, x, y, h, h1, h2 => by simp at h1 h2; exact Sorted.get ha.2 (by omega) h1 h2
  | u :: a, ha, i + 1, 0, x, y, h, _, _ => by omega
theorem Sorted.take {o : Int} : ∀ {a : List RowD} (n : Nat), Sorted o a → Sorted o (a.take n)
  | [], n, _ => by simp [Sorted]
  | x :: a, 0, _ => trivial
  | x :: a, n + 1, h => ⟨fun y hy => h.1 y (List.mem_of_mem_take hy), Sorted.take n h.2⟩
theorem Sorted.drop {o : Int} : ∀ {a : List RowD} (n : Nat), Sorted o a → Sorted o (a.drop n)
  | [], n, _ => by simp [Sorted]
  | x :: a, 0, h => h
  | x :: a, n + 1, h => Sorted.drop n h.2
end Lp
namespace Lp
open Go
noncomputable def sortedB (o : Int) (l : List RowD) : Bool := @decide (Sorted o l) (Classical.propDecidable _)
theorem sortedB_iff {o : Int} {l : List RowD} : sortedB o l = true ↔ Sorted o l := by unfold sortedB; simp
theorem sorted_of {o : Int} : ∀ {l : List RowD}, (∀ i x y, l[i]? = some x → l[i + 1]? = some y → leR o x y) → Sorted o l
  | [], _ => trivial
  | [x], _ => ⟨by simp, trivial⟩
  | x :: y :: r, h => by
    have hs : Sorted o (y :: r) := sorted_of (fun i a b ha hb => h (i + 1) a b (by simpa using ha) (by simpa using hb))
    have hxy : leR o x y := h 0 x y rfl rfl
    refine ⟨fun b hb => ?_, hs⟩
    rcases List.mem_cons.1 hb with rfl | hb
    · exact hxy
    · exact hxy.trans (hs.1 b hb)
theorem sortedB_true {o : Int} {l : List RowD} {k : Nat} (h : ∀ i, i + 1 < k → ∀ x y, l[i]? = some x → l[i + 1]? = some y → leR o x y) (hk : l.length ≤ k) : sortedB o l = true :=
  sortedB_iff.2 (sorted_of (fun i x y hx hy => h i (by have := get_lt hy; omega) x y hx hy))
theorem sortedB_false {o : Int} {l : List RowD} {i k : Nat} {x y : RowD} (hx : l[i]? = some x) (hy : l[k]? = some y) (hik : i + 1 = k) (h : less o y x = true) : sortedB o l = false := by
  cases e : sortedB o l with
  | false => rfl
  | true =>
    have := (sortedB_iff.1 e).get (by omega : i ≤ k) hx hy
    rw [leR_iff, h] at this; cases this
theorem sorted_next {o : Int} {l : List RowD} {i k : Nat} {u v : RowD} (h : ∀ i, i + 1 < k → ∀ x y, l[i]? = some x → l[i + 1]? = some y → leR o x y) (hx : l[i]? = some u) (hy : l[k]? = some v) (hik : i + 1 = k) (hl : less o v u = false) :
    ∀ i, i + 1 < k + 1 → ∀ x y, l[i]? = some x → l[i + 1]? = some y → leR o x y := by
  intro j hj x y h1 h2
  rcases Nat.lt_or_ge (j + 1) k with h' | h'
  · exact h j h' x y h1 h2
  · have : j = i := by omega
    subst this
    rw [hx] at h1; injection h1 with e; subst e
    rw [hik, hy] at h2; injection h2 with e; subst e
    exact leR_iff.2 hl
end Lp
namespace Lp
open Go
end Lp
namespace Lp
open Go
end Lp
