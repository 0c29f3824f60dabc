/-
  Rows and their order, as plain data: how two labels, two lists of labels, two rows stand.
-/
import Derived.Test.YtjhkajkickngmaaDG
namespace Lp
open Go

abbrev dN (n : Nat) : D := .v (.int .i64 (n : Int))
/-- A row as data. -/
structure RowD where
  ls : List Lbl
  v : Int
  deriving DecidableEq
abbrev LLs := List (List RowD)
def Lbl.d (x : Lbl) : D := .agg [.s x.n, .s x.v]
def RowD.d (x : RowD) : D := .agg [.sh 2 (x.ls.map Lbl.d), .v (.int .i64 x.v)]

def or2 (a b : Int) : Int := if a ≠ 0 then a else b
def firstNZ : List Int → Int
  | [] => 0
  | a :: r => if a ≠ 0 then a else firstNZ r
theorem firstNZ_two (a b : Int) : firstNZ [a, b] = or2 a b := by
  unfold firstNZ firstNZ firstNZ or2; split
  · rfl
  · split <;> omega
def cmpLbl (a b : Lbl) : Int := or2 (cmpS a.n b.n) (cmpS a.v b.v)
def cmpLs : List Lbl → List Lbl → Int
  | [], [] => 0
  | [], _ :: _ => -1
  | _ :: _, [] => 1
  | a :: r, b :: s => if cmpLbl a b ≠ 0 then cmpLbl a b else cmpLs r s
def cmpI (a b : Int) : Int := if a < b then -1 else if b < a then 1 else 0
def cmpRow (o : Int) (a b : RowD) : Int :=
  if o = 1 then or2 (cmpI a.v b.v) (cmpLs a.ls b.ls) else if o = 2 then or2 (cmpI b.v a.v) (cmpLs a.ls b.ls) else cmpLs a.ls b.ls
def less (o : Int) (a b : RowD) : Bool := decide (cmpRow o a b < 0)

theorem drop_cons {α : Type} {xs : List α} {k : Nat} {x : α} (h : xs[k]? = some x) : xs.drop k = x :: xs.drop (k + 1) := by
  have hk := get_lt h
  rw [List.drop_eq_getElem_cons hk]
  congr 1
  exact (List.getElem?_eq_some_iff.1 h).2
/-- The first that part. -/
theorem cmpLs_at {a b : List Lbl} {k : Nat} {x y : Lbl} (hx : a[k]? = some x) (hy : b[k]? = some y) (hd : cmpLs a b = cmpLs (a.drop k) (b.drop k)) (hc : cmpLbl x y ≠ 0) : cmpLs a b = cmpLbl x y := by
  rw [hd, drop_cons hx, drop_cons hy]; unfold cmpLs; rw [if_pos hc]
theorem cmpLs_next {a b : List Lbl} {k : Nat} {x y : Lbl} (hx : a[k]? = some x) (hy : b[k]? = some y) (hd : cmpLs a b = cmpLs (a.drop k) (b.drop k)) (hc : cmpLbl x y = 0) : cmpLs a b = cmpLs (a.drop (k + 1)) (b.drop (k + 1)) := by
  rw [hd, drop_cons hx, drop_cons hy]
  conv => lhs; unfold cmpLs
  rw [if_neg (by omega)]
theorem cmpLs_right {a b : List Lbl} {k : Nat} {x : Lbl} (hx : a[k]? = some x) (hy : b.length ≤ k) (hd : cmpLs a b = cmpLs (a.drop k) (b.drop k)) : cmpLs a b = 1 := by
  rw [hd, drop_cons hx, List.drop_eq_nil_of_le hy]; rfl
theorem cmpLs_end {a b : List Lbl} {k : Nat} (hx : a.length ≤ k) (hd : cmpLs a b = cmpLs (a.drop k) (b.drop k)) (hk : k ≤ a.length) : cmpLs a b = if a.length < b.length then -1 else 0 := by
  rw [hd, List.drop_eq_nil_of_le hx]
  split
  · have : b.drop k ≠ [] := by intro h; have := congrArg List.length h; simp at this; omega
    cases h : b.drop k with
    | nil => exact absurd h this
    | cons y s => rfl
  · rw [List.drop_eq_nil_of_le (by omega)]; rfl

theorem less_ref1 {o : Int} {a b : RowD} (h1 : o = 1) (h2 : a.v ≠ b.v) : less o a b = decide (a.v < b.v) := by
  unfold less cmpRow or2 cmpI
  rw [if_pos h1]
  by_cases h : a.v < b.v
  · simp [h]
  · have : b.v < a.v := by omega
    simp [h, this]
theorem less_ref2 {o : Int} {a b : RowD} (h1 : o = 2) (h2 : a.v ≠ b.v) : less o a b = decide (b.v < a.v) := by
  unfold less cmpRow or2 cmpI
  rw [if_neg (by omega), if_pos h1]
  by_cases h : b.v < a.v
  · simp [h]
  · have : a.v < b.v := by omega
    simp [h, this]
theorem less_ref3 {o : Int} {a b : RowD} (h1 : ¬ (o = 1 ∧ a.v ≠ b.v)) (h2 : ¬ (o = 2 ∧ a.v ≠ b.v)) : less o a b = decide (cmpLs a.ls b.ls < 0) := by
  unfold less cmpRow or2 cmpI
  by_cases e1 : o = 1
  · have : a.v = b.v := by have := h1; omega
    simp [e1, this]
  · by_cases e2 : o = 2
    · have : a.v = b.v := by omega
      simp [e2, this]
    · simp [e1, e2]
theorem firstNZ_next {ns : List Int} {k : Nat} {x : Int} (hx : ns[k]? = some x) (h : firstNZ ns = firstNZ (ns.drop k)) (hz : x = 0) : firstNZ ns = firstNZ (ns.drop (k + 1)) := by
  rw [h, drop_cons hx]; conv => lhs; unfold firstNZ
  rw [if_neg (by omega)]
theorem firstNZ_at {ns : List Int} {k : Nat} {x : Int} (hx : ns[k]? = some x) (h : firstNZ ns = firstNZ (ns.drop k)) (hz : x ≠ 0) : firstNZ ns = x := by
  rw [h, drop_cons hx]; unfold firstNZ; rw [if_pos hz]
theorem cmpLs_nil {a b : List Lbl} {k : Nat} (h1 : a.length ≤ k) (h2 : b.length ≤ k) (_h : k ≤ a.length) : cmpLs (a.drop k) (b.drop k) = 0 := by
  rw [List.drop_eq_nil_of_le h1, List.drop_eq_nil_of_le h2]; rfl
theorem cmpLs_nil_l {a b : List Lbl} {k : Nat} (h1 : a.length ≤ k) (h2 : k < b.length) : cmpLs (a.drop k) (b.drop k) = -1 := by
  obtain ⟨y, hy⟩ := get_some b k h2
  rw [List.drop_eq_nil_of_le h1, drop_cons hy]; rfl
theorem cmpLs_nil_r {a b : List Lbl} {k : Nat} (h1 : k < a.length) (h2 : b.length ≤ k) : cmpLs (a.drop k) (b.drop k) = 1 := by
  obtain ⟨y, hy⟩ := get_some a k h1
  rw [List.drop_eq_nil_of_le h2, drop_cons hy]; rfl

def lightL (ls : List Lbl) : Bool := (ls.take 30).all (fun x => decide (x.n.size ≤ 200) && decide (x.v.size ≤ 200)) && decide (ls.length ≤ 20)
def lightR (rs : List RowD) : Bool := (rs.take 100).all (fun r => lightL r.ls) && decide (rs.length ≤ 60)

def totalR (ll : LLs) : Nat := (ll.map List.length).sum
def lightLL (ll : LLs) : Bool := (ll.take 30).all (fun x => lightR x) && (decide (ll.length ≤ 20) && decide (totalR (ll.take 30) ≤ 200))

theorem all_take_snoc {α : Type} {f : α → Bool} {xs : List α} {k : Nat} {x : α} (hx : xs[k]? = some x) (h : (xs.take k).all f = true) (hf : f x = true) : (xs.take (k + 1)).all f = true := by
  rw [take_snoc hx, List.all_append, h]; simp [hf]
theorem all_take_bad {α : Type} {f : α → Bool} {xs : List α} {k n : Nat} {x : α} (hx : xs[k]? = some x) (hk : k < n) (hf : f x = false) : (xs.take n).all f = false := by
  rw [List.all_eq_false]
  refine ⟨x, ?_, by simp [hf]⟩
  have : (xs.take n)[k]? = some x := by rw [List.getElem?_take, if_pos hk]; exact hx
  exact List.mem_of_getElem? this
theorem all_take_le {α : Type} {f : α → Bool} {xs : List α} {k n : Nat} (h : (xs.take k).all f = true) (hk : xs.length ≤ k ∨ n ≤ k) : (xs.take n).all f = true := by
  rw [List.all_eq_true] at h ⊢
  intro x hx
  refine h x ?_
  rcases hk with hk | hk
  · rw [List.take_of_length_le hk]; exact List.mem_of_mem_take hx
  · have : xs.take n = (xs.take k).take n := by rw [List.take_take, Nat.min_eq_left hk]
    rw [this] at hx; exact List.mem_of_mem_take hx
theorem totalR_snoc (ll : LLs) (x : List RowD) : totalR (ll ++ [x]) = totalR ll + x.length := by simp [totalR]

theorem mem_get {α : Type} {xs : List α} {k : Nat} {x : α} (h : xs[k]? = some x) : x ∈ xs := List.mem_of_getElem? h
theorem same_ne_len {α : Type} [DecidableEq α] {a b : List α} (h : a.length ≠ b.length) : decide (a = b) = false := by
  rw [decide_eq_false]; rintro rfl; exact h rfl
theorem same_ne_at {α : Type} [DecidableEq α] {a b : List α} {k : Nat} {x y : α} (hx : a[k]? = some x) (hy : b[k]? = some y) (h : x ≠ y) : decide (a = b) = false := by
  rw [decide_eq_false]; rintro rfl; rw [hx] at hy; cases hy; exact h rfl
theorem same_all {α : Type} [DecidableEq α] {a b : List α} {k : Nat} (hl : a.length = b.length) (hk : a.length ≤ k) (h : a.take k = b.take k) : decide (a = b) = true := by
  rw [decide_eq_true]; rwa [List.take_of_length_le hk, List.take_of_length_le (by omega)] at h
theorem same_snoc {α : Type} {a b : List α} {k : Nat} {x y : α} (hx : a[k]? = some x) (hy : b[k]? = some y) (h : a.take k = b.take k) (he : x = y) : a.take (k + 1) = b.take (k + 1) := by rw [take_snoc hx, take_snoc hy, h, he]

theorem lightL_bad {xs : List Lbl} {k : Nat} {x : Lbl} (hx : xs[k]? = some x) (hk : k < 30) (h : 200 < x.n.size ∨ 200 < x.v.size) : lightL xs = false := by
  unfold lightL; rw [all_take_bad hx hk]; · rfl
  rw [Bool.and_eq_false_iff, decide_eq_false_iff_not, decide_eq_false_iff_not]; omega
theorem lightL_end {xs : List Lbl} {k : Nat} (h : (xs.take k).all (fun x => decide (x.n.size ≤ 200) && decide (x.v.size ≤ 200)) = true) (hk : xs.length ≤ k ∨ 30 ≤ k) : lightL xs = decide (xs.length ≤ 20) := by
  unfold lightL; rw [all_take_le h hk, Bool.true_and]
theorem lightR_bad {xs : List RowD} {k : Nat} {x : RowD} (hx : xs[k]? = some x) (hk : k < 100) (h : lightL x.ls = false) : lightR xs = false := by
  unfold lightR; rw [all_take_bad hx hk h]; rfl
theorem lightR_end {xs : List RowD} {k : Nat} (h : (xs.take k).all (fun r => lightL r.ls) = true) (hk : xs.length ≤ k ∨ 100 ≤ k) : lightR xs = decide (xs.length ≤ 60) := by
  unfold lightR; rw [all_take_le h hk, Bool.true_and]
theorem lightLL_bad {xs : LLs} {k : Nat} {x : List RowD} (hx : xs[k]? = some x) (hk : k < 30) (h : lightR x = false) : lightLL xs = false := by
  unfold lightLL; rw [all_take_bad hx hk h]; rfl
theorem lightLL_end {xs : LLs} {k : Nat} (h : (xs.take k).all (fun x => lightR x) = true) (hk : xs.length ≤ k ∨ 30 ≤ k) (hk2 : k ≤ 30) : lightLL xs = (decide (xs.length ≤ 20) && decide (totalR (xs.take k) ≤ 200)) := by
  unfold lightLL; rw [all_take_le h hk, Bool.true_and]
  rcases hk with hk | hk
  · rw [List.take_of_length_le (Nat.le_trans hk hk2), List.take_of_length_le hk]
  · have : k = 30 := by omega
    rw [this]
theorem lightR_len {rs : List RowD} (h : lightR rs = true) : rs.length ≤ 60 := by
  unfold lightR at h; simp only [Bool.and_eq_true, decide_eq_true_eq] at h; exact h.2
theorem lightL_len {ls : List Lbl} (h : lightL ls = true) : ls.length ≤ 20 := by
  unfold lightL at h; simp only [Bool.and_eq_true, decide_eq_true_eq] at h; exact h.2
theorem lightR_row {rs : List RowD} (h : lightR rs = true) {r : RowD} (hr : r ∈ rs) : lightL r.ls = true := by
  have hl := lightR_len h
  unfold lightR at h
  simp only [Bool.and_eq_true] at h
  have h1 := h.1
  rw [List.take_of_length_le (by omega), List.all_eq_true] at h1
  exact h1 r hr
theorem lightLL_len {ll : LLs} (h : lightLL ll = true) : ll.length ≤ 20 := by
  unfold lightLL at h; simp only [Bool.and_eq_true, decide_eq_true_eq] at h; exact h.2.1
theorem lightLL_row {ll : LLs} (h : lightLL ll = true) {x : List RowD} (hx : x ∈ ll) : lightR x = true := by
  have hl := lightLL_len h
  unfold lightLL at h
  simp only [Bool.and_eq_true] at h
  have h1 := h.1
  rw [List.take_of_length_le (by omega), List.all_eq_true] at h1
  exact h1 x hx
theorem lightLL_total {ll : LLs} (h : lightLL ll = true) : totalR ll ≤ 200 := by
  have hl := lightLL_len h
  unfold lightLL at h
  simp only [Bool.and_eq_true, decide_eq_true_eq] at h
  have h1 := h.2.2
  rwa [List.take_of_length_le (by omega)] at h1

end Lp
