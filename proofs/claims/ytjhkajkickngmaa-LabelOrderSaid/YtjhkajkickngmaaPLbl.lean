/-
  Tidy labels, as plain data.
-/
import Derived.Test.YtjhkajkickngmaaPStab
set_option linter.unusedVariables false
namespace Lp
open Go

def okL (x : Lbl) : Bool := nameB x.n && (!decide (x.v = ByteArray.empty) && decide (x.v.size ≤ 60))
def tidyFrom : Option ByteArray → List Lbl → Bool
  | _, [] => true
  | p, x :: r => okL x && (!decide (p = some x.n) && tidyFrom (some x.n) r)
def prevN (o : List Lbl) : Nat → Option ByteArray
  | 0 => none
  | k + 1 => (o[k]?).map (·.n)
def tidyAt (o : List Lbl) (k : Nat) : Bool := tidyFrom (prevN o k) (o.drop k)
def tidyB (o : List Lbl) : Bool := tidyAt o 0
def tidyOk (l : List Lbl) : Bool := decide (l.length ≤ 8) && tidyB (isort cmpLbl l)
def tidyL (l : List Lbl) : List Lbl := bif tidyOk l then isort cmpLbl l else []
def tidyE (l : List Lbl) : Int := bif tidyOk l then 0 else 1

theorem okL_f1 {x : Lbl} (h : nameB x.n = false) : okL x = false := by simp [okL, h]
theorem okL_f2 {x : Lbl} (h : x.v = ByteArray.empty) : okL x = false := by simp [okL, h]
theorem okL_f3 {x : Lbl} (h : (60 : Int) < ((x.v.size : Nat) : Int)) : okL x = false := by
  have : ¬ x.v.size ≤ 60 := by omega
  simp [okL, this]
theorem okL_t {x : Lbl} (h1 : nameB x.n = true) (h2 : ¬ x.v = ByteArray.empty) (h3 : ¬ (60 : Int) < ((x.v.size : Nat) : Int)) : okL x = true := by
  have : x.v.size ≤ 60 := by omega
  simp [okL, h1, h2, this]
theorem prevN_pos {o : List Lbl} {k : Nat} {y : Lbl} (h : (0 : Int) < ((k : Nat) : Int)) (hy : o[k - 1]? = some y) : prevN o k = some y.n := by
  cases k with
  | zero => simp at h
  | succ k => simp at hy; simp [prevN, hy]
theorem prevN_zero {o : List Lbl} {k : Nat} (h : ¬ (0 : Int) < ((k : Nat) : Int)) : prevN o k = none := by
  have : k = 0 := by omega
  subst this; rfl
theorem drop_at {α : Type} {o : List α} {k : Nat} {x : α} (h : o[k]? = some x) : o.drop k = x :: o.drop (k + 1) := by
  obtain ⟨hk, e⟩ := List.getElem?_eq_some_iff.1 h
  rw [← e]; exact List.drop_eq_getElem_cons hk
theorem tidyAt_next {o : List Lbl} {k : Nat} {x : Lbl} (h : o[k]? = some x) : tidyAt o k = (okL x && (!decide (prevN o k = some x.n) && tidyAt o (k + 1))) := by
  unfold tidyAt
  rw [drop_at h]
  simp only [tidyFrom, prevN, h, Option.map_some]
theorem tidyAt_end {o : List Lbl} {k : Nat} (h : o.length ≤ k) : tidyAt o k = true := by
  unfold tidyAt; rw [List.drop_eq_nil_iff.2 h]; rfl
section
variable {l : List Lbl} {k : Nat} {x : Lbl}
theorem tidy_ok (h : tidyOk l = false) : [] = tidyL l ∧ 1 = tidyE l := by simp [tidyL, tidyE, h]
theorem tidy_long (h : (8 : Int) < ((l.length : Nat) : Int)) : [] = tidyL l ∧ 1 = tidyE l := tidy_ok (by
  have : ¬ l.length ≤ 8 := by omega
  simp [tidyOk, this])
theorem tidy_bad1 (hk : tidyB (isort cmpLbl l) = tidyAt (isort cmpLbl l) k) (hx : (isort cmpLbl l)[k]? = some x) (h : okL x = false) : [] = tidyL l ∧ 1 = tidyE l := tidy_ok (by simp [tidyOk, hk, tidyAt_next hx, h])
theorem tidy_bad2 (hk : tidyB (isort cmpLbl l) = tidyAt (isort cmpLbl l) k) (hx : (isort cmpLbl l)[k]? = some x) {n : ByteArray} (h : prevN (isort cmpLbl l) k = some n) (hn : n = x.n) : [] = tidyL l ∧ 1 = tidyE l := tidy_ok (by simp [tidyOk, hk, tidyAt_next hx, h, hn])
theorem tidy_good (hk : tidyB (isort cmpLbl l) = tidyAt (isort cmpLbl l) k) (hx : (isort cmpLbl l).length ≤ k) (h : l.length ≤ 8) : isort cmpLbl l = tidyL l ∧ 0 = tidyE l := by
  have : tidyOk l = true := by simp [tidyOk, hk, tidyAt_end hx, h]
  simp [tidyL, tidyE, this]
theorem tidy_step0 (hk : tidyB (isort cmpLbl l) = tidyAt (isort cmpLbl l) k) (hx : (isort cmpLbl l)[k]? = some x) (h : okL x = true) (hp : prevN (isort cmpLbl l) k = none) : tidyB (isort cmpLbl l) = tidyAt (isort cmpLbl l) (k + 1) := by
  rw [hk, tidyAt_next hx, h, hp]; simp
theorem tidy_step (hk : tidyB (isort cmpLbl l) = tidyAt (isort cmpLbl l) k) (hx : (isort cmpLbl l)[k]? = some x) (h : okL x = true) {n : ByteArray} (hp : prevN (isort cmpLbl l) k = some n) (hn : ¬ n = x.n) : tidyB (isort cmpLbl l) = tidyAt (isort cmpLbl l) (k + 1) := by
  rw [hk, tidyAt_next hx, h, hp]; simp [hn]
end

/-! ### picking -/
def hasN (ns : List ByteArray) (n : ByteArray) : Bool := ns.any (fun m => decide (m = n))
def pickL (l : List Lbl) (ns : List ByteArray) (w : Bool) : List Lbl := l.filter (fun x => hasN ns x.n == w)
def getL (l : List Lbl) (n : ByteArray) : ByteArray := ((l.find? (fun x => decide (x.n = n))).map (·.v)).getD ByteArray.empty
def idxN (n : ByteArray) : Nat → List ByteArray → Int
  | _, [] => -1
  | k, m :: r => if n = m then (k : Int) else idxN n (k + 1) r
theorem idxN_has (n : ByteArray) : ∀ (ns : List ByteArray) (k : Nat), decide (0 ≤ idxN n k ns) = hasN ns n
  | [], k => rfl
  | m :: r, k => by
    unfold idxN hasN
    by_cases h : n = m
    · have h0 : (0 : Int) ≤ (k : Nat) := by omega
      simp [h, h0]
    · have h' : ¬ m = n := fun e => h e.symm
      have := idxN_has n r (k + 1)
      unfold hasN at this
      rw [if_neg h, this]; simp [h']
theorem idxN_at {n m : ByteArray} {ns : List ByteArray} {k : Nat} (hm : ns[k]? = some m) (h : idxN n 0 ns = idxN n k (ns.drop k)) (e : n = m) : ((k : Nat) : Int) = idxN n 0 ns := by
  rw [h, drop_at hm]; unfold idxN; rw [if_pos e]
theorem idxN_next {n m : ByteArray} {ns : List ByteArray} {k : Nat} (hm : ns[k]? = some m) (h : idxN n 0 ns = idxN n k (ns.drop k)) (e : ¬ n = m) : idxN n 0 ns = idxN n (k + 1) (ns.drop (k + 1)) := by
  rw [h, drop_at hm]; conv => lhs; unfold idxN
  rw [if_neg e]
theorem idxN_end {n : ByteArray} {ns : List ByteArray} {k : Nat} (hk : ns.length ≤ k) (h : idxN n 0 ns = idxN n k (ns.drop k)) : -1 = idxN n 0 ns := by
  rw [h, List.drop_eq_nil_iff.2 hk]; rfl
theorem idxN_bd (n : ByteArray) : ∀ (ns : List ByteArray) (k : Nat), -1 ≤ idxN n k ns ∧ idxN n k ns ≤ ((k + ns.length : Nat) : Int)
  | [], k => by show (-1 : Int) ≤ -1 ∧ (-1 : Int) ≤ _; omega
  | m :: r, k => by
    unfold idxN; split
    · simp only [List.length_cons]; omega
    · have := idxN_bd n r (k + 1); simp only [List.length_cons]; omega
theorem getL_at {l : List Lbl} {n : ByteArray} {k : Nat} {x : Lbl} (hx : l[k]? = some x) (h : getL l n = getL (l.drop k) n) (e : x.n = n) : x.v = getL l n := by
  rw [h, drop_at hx]; unfold getL; rw [List.find?_cons_of_pos (by simp [e])]; rfl
theorem getL_next {l : List Lbl} {n : ByteArray} {k : Nat} {x : Lbl} (hx : l[k]? = some x) (h : getL l n = getL (l.drop k) n) (e : ¬ x.n = n) : getL l n = getL (l.drop (k + 1)) n := by
  rw [h, drop_at hx]; unfold getL; rw [List.find?_cons_of_neg (by simp [e])]
theorem getL_end {l : List Lbl} {n : ByteArray} {k : Nat} (hk : l.length ≤ k) (h : getL l n = getL (l.drop k) n) : ByteArray.empty = getL l n := by
  rw [h, List.drop_eq_nil_iff.2 hk]; rfl
theorem pickL_snoc {l : List Lbl} {ns : List ByteArray} {w : Bool} {k : Nat} {x : Lbl} (hx : l[k]? = some x) (h : (hasN ns x.n == w) = true) : pickL (l.take (k + 1)) ns w = pickL (l.take k) ns w ++ [x] := by
  rw [take_snoc hx]; unfold pickL; rw [List.filter_append]; simp [h]
theorem pickL_skip {l : List Lbl} {ns : List ByteArray} {w : Bool} {k : Nat} {x : Lbl} (hx : l[k]? = some x) (h : (hasN ns x.n == w) = false) : pickL (l.take (k + 1)) ns w = pickL (l.take k) ns w := by
  rw [take_snoc hx]; unfold pickL; rw [List.filter_append]; simp [h]
theorem pickL_len (l : List Lbl) (ns : List ByteArray) (w : Bool) : (pickL l ns w).length ≤ l.length := List.length_filter_le _ _
end Lp
