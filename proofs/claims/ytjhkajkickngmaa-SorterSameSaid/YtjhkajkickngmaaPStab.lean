/-
  Stable sorting, as plain data, for any way of comparing: what comes out is one list alone; insertion sort as Go's library does it.
-/
import Derived.Test.YtjhkajkickngmaaPGlyph
set_option linter.unusedVariables false
namespace Lp
open Go
section
variable {α : Type} {c : α → α → Int}

structure Cmp (c : α → α → Int) : Prop where
  neg : ∀ a b, c b a = - c a b
  tr : ∀ a b d, Tr (c a b) (c b d) (c a d)
theorem Cmp.self (h : Cmp c) (a : α) : c a a = 0 := by have := h.neg a a; omega
def Srt (c : α → α → Int) (l : List α) : Prop := l.Pairwise (fun a b => c a b ≤ 0)
def eqv (c : α → α → Int) (k x : α) : Bool := decide (c k x = 0)
structure Stab (c : α → α → Int) (l r : List α) : Prop where
  srt : Srt c r
  same : ∀ k, r.filter (eqv c k) = l.filter (eqv c k)

theorem eqv_self (h : Cmp c) (a : α) : eqv c a a = true := by unfold eqv; simp [h.self a]
theorem Srt.unique (h : Cmp c) : ∀ a b : List α, Srt c a → Srt c b → (∀ k, a.filter (eqv c k) = b.filter (eqv c k)) → a = b
  | [], [], _, _, _ => rfl
  | [], y :: b, _, _, hs => by
    have := hs y; rw [List.filter_cons_of_pos (eqv_self h y)] at this; cases this
  | x :: a, [], _, _, hs => by
    have := hs x; rw [List.filter_cons_of_pos (eqv_self h x)] at this; cases this
  | x :: a, y :: b, ha, hb, hs => by
    have hx : x ∈ y :: b := by
      have : x ∈ (y :: b).filter (eqv c x) := by rw [← hs x, List.filter_cons_of_pos (eqv_self h x)]; exact List.mem_cons_self
      exact (List.mem_filter.1 this).1
    have hy : y ∈ x :: a := by
      have : y ∈ (x :: a).filter (eqv c y) := by rw [hs y, List.filter_cons_of_pos (eqv_self h y)]; exact List.mem_cons_self
      exact (List.mem_filter.1 this).1
    have h1 : c y x ≤ 0 := by
      rcases List.mem_cons.1 hx with e | e
      · rw [e, h.self]; exact Int.le_refl _
      · exact (List.pairwise_cons.1 hb).1 x e
    have h2 : c x y ≤ 0 := by
      rcases List.mem_cons.1 hy with e | e
      · rw [e, h.self]; exact Int.le_refl _
      · exact (List.pairwise_cons.1 ha).1 y e
    have h3 : c x y = 0 := by have := h.neg x y; omega
    have e1 : eqv c x y = true := by unfold eqv; simp [h3]
    have := hs x
    rw [List.filter_cons_of_pos (eqv_self h x), List.filter_cons_of_pos e1] at this
    injection this with hxy _
    subst hxy
    congr 1
    refine Srt.unique h a b (List.pairwise_cons.1 ha).2 (List.pairwise_cons.1 hb).2 (fun k => ?_)
    have := hs k
    simp only [List.filter_cons] at this
    split at this
    · injection this
    · exact this
theorem Stab.eq (h : Cmp c) {l a b : List α} (ha : Stab c l a) (hb : Stab c l b) : a = b := Srt.unique h a b ha.srt hb.srt (fun k => (ha.same k).trans (hb.same k).symm)
theorem Stab.trans {l a b : List α} (ha : Stab c l a) (hb : Stab c a b) : Stab c l b := ⟨hb.srt, fun k => (hb.same k).trans (ha.same k)⟩
theorem Stab.mem (h : Cmp c) {l a : List α} (ha : Stab c l a) (x : α) : x ∈ a ↔ x ∈ l := by
  have := ha.same x
  constructor
  · intro hx
    have : x ∈ l.filter (eqv c x) := by rw [← this]; exact List.mem_filter.2 ⟨hx, eqv_self h x⟩
    exact (List.mem_filter.1 this).1
  · intro hx
    have : x ∈ a.filter (eqv c x) := by rw [this]; exact List.mem_filter.2 ⟨hx, eqv_self h x⟩
    exact (List.mem_filter.1 this).1

/-! ### insertion -/
/-- into a list the other way round -/
def insB (c : α → α → Int) (x : α) : List α → List α
  | [] => [x]
  | y :: r => if c x y < 0 then y :: insB c x r else x :: y :: r
def ins (c : α → α → Int) (x : α) (l : List α) : List α := (insB c x l.reverse).reverse
theorem ins_nil (x : α) : ins c x [] = [x] := rfl
theorem ins_lt {x y : α} {l : List α} (h : c x y < 0) : ins c x (l ++ [y]) = ins c x l ++ [y] := by
  unfold ins; rw [List.reverse_append]; simp [insB, h]
theorem ins_ge {x y : α} {l : List α} (h : ¬ c x y < 0) : ins c x (l ++ [y]) = l ++ [y, x] := by
  unfold ins; rw [List.reverse_append]; simp [insB, h]
theorem insB_len (x : α) : ∀ l : List α, (insB c x l).length = l.length + 1
  | [] => rfl
  | y :: r => by unfold insB; split <;> simp [insB_len x r]
theorem ins_len (x : α) (l : List α) : (ins c x l).length = l.length + 1 := by unfold ins; simp [insB_len]
theorem ins_stab (h : Cmp c) (x : α) : ∀ (n : Nat) (l : List α), l.length = n → Srt c l → Srt c (ins c x l) ∧ (∀ k, (ins c x l).filter (eqv c k) = (l ++ [x]).filter (eqv c k)) ∧ ∀ z ∈ ins c x l, z = x ∨ z ∈ l := by
  intro n
  induction n with
  | zero =>
    intro l hl _
    have : l = [] := List.eq_nil_of_length_eq_zero hl
    subst this
    exact ⟨by simp [Srt, ins_nil], fun k => rfl, fun z hz => by simp [ins_nil] at hz; exact .inl hz⟩
  | succ n ih =>
    intro l hl hs
    obtain ⟨l, y, rfl⟩ : ∃ q y, l = q ++ [y] := by
      have hne : l ≠ [] := by intro e; rw [e] at hl; simp at hl
      exact ⟨l.dropLast, l.getLast hne, (List.dropLast_concat_getLast hne).symm⟩
    have hq := List.pairwise_append.1 hs
    by_cases hc : c x y < 0
    · obtain ⟨i1, i2, i3⟩ := ih l (by simpa using hl) hq.1
      rw [ins_lt hc]
      refine ⟨List.pairwise_append.2 ⟨i1, by simp, fun a ha b hb => ?_⟩, fun k => ?_, fun z hz => ?_⟩
      · simp at hb; subst hb
        rcases i3 a ha with rfl | ha'
        · omega
        · exact hq.2.2 a ha' b (by simp)
      · rw [List.filter_append, i2 k]
        simp only [List.filter_append, List.append_assoc]
        congr 1
        by_cases hx : eqv c k x = true
        · have hy : eqv c k y = false := by
            unfold eqv at hx ⊢
            simp only [decide_eq_true_eq, decide_eq_false_iff_not] at hx ⊢
            intro hy
            have e1 := (h.tr k x y).e1 hx
            have e2 : c k y = 0 := hy
            omega
          simp [hx, hy]
        · simp [hx]
      · rcases List.mem_append.1 hz with hz | hz
        · rcases i3 z hz with e | e
          · exact .inl e
          · exact .inr (List.mem_append_left _ e)
        · exact .inr (List.mem_append_right _ hz)
    · rw [ins_ge hc]
      refine ⟨?_, fun k => by simp, fun z hz => by simp at hz ⊢; rcases hz with h | h | h <;> simp [h]⟩
      have hyx : c y x ≤ 0 := by have := h.neg x y; omega
      rw [show l ++ [y, x] = (l ++ [y]) ++ [x] by simp]
      refine List.pairwise_append.2 ⟨hs, by simp, fun a ha b hb => ?_⟩
      simp at hb; subst hb
      rcases List.mem_append.1 ha with ha | ha
      · exact (h.tr a y b).le (hq.2.2 a ha y (by simp)) hyx
      · simp at ha; subst ha; exact hyx
/-- insertion sort -/
def isort (c : α → α → Int) (l : List α) : List α := l.foldl (fun r x => ins c x r) []
theorem isort_snoc (l : List α) (x : α) : isort c (l ++ [x]) = ins c x (isort c l) := by unfold isort; rw [List.foldl_append]; rfl
theorem isort_len : ∀ (n : Nat) (l : List α), l.length = n → (isort c l).length = n
  | 0, l, h => by rw [List.eq_nil_of_length_eq_zero h]; rfl
  | n + 1, l, h => by
    have hne : l ≠ [] := by intro e; rw [e] at h; simp at h
    rw [← List.dropLast_concat_getLast hne, isort_snoc, ins_len, isort_len n _ (by simp [h])]
theorem isort_stab (h : Cmp c) : ∀ (n : Nat) (l : List α), l.length = n → Stab c l (isort c l)
  | 0, l, hl => by rw [List.eq_nil_of_length_eq_zero hl]; exact ⟨by simp [Srt, isort], fun _ => rfl⟩
  | n + 1, l, hl => by
    have hne : l ≠ [] := by intro e; rw [e] at hl; simp at hl
    have ih := isort_stab h n l.dropLast (by simp [hl])
    have hi := ins_stab h (l.getLast hne) _ (isort c l.dropLast) rfl ih.srt
    conv => arg 2; rw [← List.dropLast_concat_getLast hne]
    conv => arg 3; rw [← List.dropLast_concat_getLast hne]
    rw [isort_snoc]
    refine ⟨hi.1, fun k => ?_⟩
    rw [hi.2.1 k, List.filter_append, List.filter_append, ih.same k]

/-! ### as the library does it -/
/-- The element at j goes down to its place, no further than a. -/
def bub (c : α → α → Int) (a : Nat) : Nat → List α → List α
  | 0, L => L
  | j + 1, L => if a < j + 1 then match L[j + 1]?, L[j]? with
    | some x, some y => if c x y < 0 then bub c a j ((L.set (j + 1) y).set j x) else L
    | _, _ => L
  else L
theorem bub_lt {a j : Nat} {L : List α} {x y : α} (h : a < j + 1) (hx : L[j + 1]? = some x) (hy : L[j]? = some y) (hc : c x y < 0) : bub c a (j + 1) L = bub c a j ((L.set (j + 1) y).set j x) := by
  conv => lhs; unfold bub
  rw [if_pos h, hx, hy]; simp only; rw [if_pos hc]
theorem bub_ge {a j : Nat} {L : List α} {x y : α} (hx : L[j + 1]? = some x) (hy : L[j]? = some y) (hc : ¬ c x y < 0) : bub c a (j + 1) L = L := by
  unfold bub; split
  · rw [hx, hy]; simp only; rw [if_neg hc]
  · rfl
theorem bub_lt' {a j : Nat} {L : List α} {x y : α} (h : a < j) (hx : L[j]? = some x) (hy : L[j - 1]? = some y) (hc : c x y < 0) : bub c a j L = bub c a (j - 1) ((L.set j y).set (j - 1) x) := by
  obtain ⟨m, rfl⟩ : ∃ m, j = m + 1 := ⟨j - 1, by omega⟩
  exact bub_lt h hx hy hc
theorem bub_ge' {a j : Nat} {L : List α} {x y : α} (hx : L[j]? = some x) (hy : L[j - 1]? = some y) (hc : ¬ c x y < 0) : bub c a j L = L := by
  cases j with
  | zero => rfl
  | succ j => exact bub_ge hx hy hc
theorem bub_end {a j : Nat} {L : List α} (h : j ≤ a) : bub c a j L = L := by
  cases j with
  | zero => rfl
  | succ j => unfold bub; rw [if_neg (by omega)]
theorem set_swap {A R : List α} {x y : α} : ((A ++ y :: x :: R).set (A.length + 1) y).set A.length x = A ++ x :: y :: R := by
  rw [List.set_append_right _ _ (by omega), List.set_append_right _ _ (by omega)]
  simp
theorem bub_ins {A R : List α} {x : α} : ∀ (n : Nat) (P : List α), P.length = n → bub c A.length (A.length + n) (A ++ P ++ x :: R) = A ++ ins c x P ++ R := by
  intro n
  induction n generalizing R with
  | zero => intro P hP; rw [List.eq_nil_of_length_eq_zero hP, bub_end (by omega), ins_nil]; simp
  | succ n ih =>
    intro P hP
    obtain ⟨P, y, rfl⟩ : ∃ q y, P = q ++ [y] := by
      have hne : P ≠ [] := by intro e; rw [e] at hP; simp at hP
      exact ⟨P.dropLast, P.getLast hne, (List.dropLast_concat_getLast hne).symm⟩
    have hPn : P.length = n := by simpa using hP
    have e : A ++ (P ++ [y]) ++ x :: R = (A ++ P) ++ y :: x :: R := by simp
    have hx : ((A ++ P) ++ y :: x :: R)[A.length + n + 1]? = some x := by rw [List.getElem?_append_right (by simp; omega)]; simp [hPn]
    have hy : ((A ++ P) ++ y :: x :: R)[A.length + n]? = some y := by rw [List.getElem?_append_right (by simp; omega)]; simp [hPn]
    rw [e, show A.length + (n + 1) = A.length + n + 1 by omega]
    by_cases hc : c x y < 0
    · rw [bub_lt (by omega) hx hy hc, ins_lt hc]
      have := set_swap (A := A ++ P) (R := R) (x := x) (y := y)
      rw [List.length_append, hPn] at this
      rw [this]
      have := ih (R := y :: R) P hPn
      rw [List.append_assoc A P] at this ⊢
      rw [this]; simp
    · rw [bub_ge hx hy hc, ins_ge hc]; simp
/-- insertion sort from i on -/
def isrt (c : α → α → Int) (a b : Nat) : Nat → Nat → List α → List α
  | 0, _, L => L
  | n + 1, i, L => if i < b then isrt c a b n (i + 1) (bub c a i L) else L
theorem isrt_next {a b n i : Nat} {L : List α} (h : i < b) : isrt c a b (n + 1) i L = isrt c a b n (i + 1) (bub c a i L) := by
  conv => lhs; unfold isrt
  rw [if_pos h]
theorem isrt_end {a b n i : Nat} {L : List α} (h : b ≤ i) : isrt c a b n i L = L := by
  cases n with
  | zero => rfl
  | succ n => unfold isrt; rw [if_neg (by omega)]
theorem isrt_isort {A R : List α} : ∀ (n : Nat) (S T : List α), T.length = n → isrt c A.length (A.length + S.length + n) n (A.length + S.length) (A ++ isort c S ++ T ++ R) = A ++ isort c (S ++ T) ++ R := by
  intro n
  induction n with
  | zero => intro S T hT; rw [List.eq_nil_of_length_eq_zero hT]; simp [isrt]
  | succ n ih =>
    intro S T hT
    cases T with
    | nil => simp at hT
    | cons x T =>
      have hTn : T.length = n := by simpa using hT
      rw [isrt_next (by omega)]
      have hb := bub_ins (c := c) (A := A) (R := T ++ R) (x := x) S.length (isort c S) (isort_len _ _ rfl)
      rw [show A ++ isort c S ++ (x :: T) ++ R = A ++ isort c S ++ x :: (T ++ R) by simp, hb]
      have := ih (S ++ [x]) T hTn
      rw [isort_snoc, List.length_append, List.length_singleton] at this
      rw [show A.length + S.length + (n + 1) = A.length + (S.length + 1) + n by omega, show A.length + S.length + 1 = A.length + (S.length + 1) by omega]
      rw [show A ++ ins c x (isort c S) ++ (T ++ R) = A ++ ins c x (isort c S) ++ T ++ R by simp, this]
      simp
theorem cmpLbl_cmp : Cmp cmpLbl := ⟨fun a b => cmpLbl_neg a b, fun a b d => cmpLbl_tr a b d⟩
end
end Lp
