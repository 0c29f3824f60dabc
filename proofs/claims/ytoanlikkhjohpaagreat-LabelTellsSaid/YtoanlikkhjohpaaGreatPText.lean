/-
  Stable sorting, as plain data, for any way of comparing: what comes out is one list alone; insertion sort as Go's library does it.
-/
import Derived.Test.YtoanlikkhjohpaaGreatPGlyph
set_option linter.unusedVariables false
namespace Lp
open Go
section
variable {α : Type} {c : α → α → Int}

structure Cmp (c : α → α → Int) : Prop where
  neg : ∀ a b, c b a = - c a b
  tr : ∀ a b d, Tr (c a b) (c b d) (c a d)
theorem Cmp.self (h : Cmp c) (a : α) : c a a = 0 := by have := h.neg a a; omega
def Srt (c : α → α → Int) (l : List α) : Prop := l.Pairwise (fun a b => c a b ≤ 0)
def eqv (c : α → α → Int) (k x : α) : Bool := decide (c k x = 0)
structure Stab (c : α → α → Int) (l r : List α) : Prop where
  srt : Srt c r
  same : ∀ k, r.filter (eqv c k) = l.filter (eqv c k)

theorem zb9 (h : Cmp c) (a : α) : eqv c a a = true := by unfold eqv; simp [h.self a]
theorem Srt.unique (h : Cmp c) : ∀ a b : List α, Srt c a → Srt c b → (∀ k, a.filter (eqv c k) = b.filter (eqv c k)) → a = b
  | [], [], _, _, _ => rfl
  | [], y :: b, _, _, hs => by
    have := hs y; rw [List.filter_cons_of_pos (zb9 h y)] at this; cases this
  | x :: a, [], _, _, hs => by
    have := hs x; rw [List.filter_cons_of_pos (zb9 h x)] at this; cases this
  | x :: a, y :: b, ha, hb, hs => by
    have hx : x ∈ y :: b := by
      have : x ∈ (y :: b).filter (eqv c x) := by rw [← hs x, List.filter_cons_of_pos (zb9 h x)]; exact List.mem_cons_self
      exact (List.mem_filter.1 this).1
    have hy : y ∈ x :: a := by
      have : y ∈ (x :: a).filter (eqv c y) := by rw [hs y, List.filter_cons_of_pos (zb9 h y)]; exact List.mem_cons_self
      exact (List.mem_filter.1 this).1
    have h1 : c y x ≤ 0 := by
      rcases List.mem_cons.1 hx with e | e
      · rw [e, h.self]; exact Int.le_refl _
      · exact (List.pairwise_cons.1 hb).1 x e
    have h2 : c x y ≤ 0 := by
      rcases List.mem_cons.1 hy with e | e
      · rw [e, h.self]; exact Int.le_refl _
      · exact (List.pairwise_cons.1 ha).1 y e
    have h3 : c x y = 0 := by have := h.neg x y; omega
    have e1 : eqv c x y = true := by unfold eqv; simp [h3]
    have := hs x
    rw [List.filter_cons_of_pos (zb9 h x), List.filter_cons_of_pos e1] at this
    injection this with hxy _
    subst hxy
    congr 1
    refine Srt.unique h a b (List.pairwise_cons.1 ha).2 (List.pairwise_cons.1 hb).2 (fun k => ?_)
    have := hs k
    simp only [List.filter_cons] at this
    split at this
    · injection this
    · exact this
theorem Stab.eq (h : Cmp c) {l a b : List α} (ha : Stab c l a) (hb : Stab c l b) : a = b := Srt.unique h a b ha.srt hb.srt (fun k => (ha.same k).trans (hb.same k).symm)
theorem Stab.trans {l a b : List α} (ha : Stab c l a) (hb : Stab c a b) : Stab c l b := ⟨hb.srt, fun k => (hb.same k).trans (ha.same k)⟩
theorem Stab.mem (h : Cmp c) {l a : List α} (ha : Stab c l a) (x : α) : x ∈ a ↔ x ∈ l := by
  have := ha.same x
  constructor
  · intro hx
    have : x ∈ l.filter (eqv c x) := by rw [← this]; exact List.mem_filter.2 ⟨hx, zb9 h x⟩
    exact (List.mem_filter.1 this).1
  · intro hx
    have : x ∈ a.filter (eqv c x) := by rw [this]; exact List.mem_filter.2 ⟨hx, zb9 h x⟩
    exact (List.mem_filter.1 this).1

/-! ### insertion -/
/-- into a list the other way round -/
def insB (c : α → α → Int) (x : α) : List α → List α
  | [] => [x]
  | y :: r => if c x y < 0 then y :: insB c x r else x :: y :: r
def ins (c : α → α → Int) (x : α) (l : List α) : List α := (insB c x l.reverse).reverse
theorem ins_nil (x : α) : ins c x [] = [x] := rfl
theorem ins_lt {x y : α} {l : List α} (h : c x y < 0) : ins c x (l ++ [y]) = ins c x l ++ [y] := by
  unfold ins; rw [List.reverse_append]; simp [insB, h]
theorem ins_ge {x y : α} {l : List α} (h : ¬ c x y < 0) : ins c x (l ++ [y]) = l ++ [y, x] := by
  unfold ins; rw [List.reverse_append]; simp [insB, h]
theorem insB_len (x : α) : ∀ l : List α, (insB c x l).length = l.length + 1
  | [] => rfl
  | y :: r => by unfold insB; split <;> simp [insB_len x r]
theorem ins_len (x : α) (l : List α) : (ins c x l).length = l.length + 1 := by unfold ins; simp [insB_len]
theorem ins_stab (h : Cmp c) (x : α) : ∀ (n : Nat) (l : List α), l.length = n → Srt c l → Srt c (ins c x l) ∧ (∀ k, (ins c x l).filter (eqv c k) = (l ++ [x]).filter (eqv c k)) ∧ ∀ z ∈ ins c x l, z = x ∨ z ∈ l := by
  intro n
  induction n with
  | zero =>
    intro l hl _
    have : l = [] := List.eq_nil_of_length_eq_zero hl
    subst this
    exact ⟨by simp [Srt, ins_nil], fun k => rfl, fun z hz => by simp [ins_nil] at hz; exact .inl hz⟩
  | succ n ih =>
    intro l hl hs
    obtain ⟨l, y, rfl⟩ : ∃ q y, l = q ++ [y] := by
      have hne : l ≠ [] := by intro e; rw [e] at hl; simp at hl
      exact ⟨l.dropLast, l.getLast hne, (List.dropLast_concat_getLast hne).symm⟩
    have hq := List.pairwise_append.1 hs
    by_cases hc : c x y < 0
    · obtain ⟨i1, i2, i3⟩ := ih l (by simpa using hl) hq.1
      rw [ins_lt hc]
      refine ⟨List.pairwise_append.2 ⟨i1, by simp, fun a ha b hb => ?_⟩, fun k => ?_, fun z hz => ?_⟩
      · simp at hb; subst hb
        rcases i3 a ha with rfl | ha'
        · omega
        · exact hq.2.2 a ha' b (by simp)
      · rw [List.filter_append, i2 k]
        simp only [List.filter_append, List.append_assoc]
        congr 1
        by_cases hx : eqv c k x = true
        · have hy : eqv c k y = false := by
            unfold eqv at hx ⊢
            simp only [decide_eq_true_eq, decide_eq_false_iff_not] at hx ⊢
            intro hy
            have e1 := (h.tr k x y).e1 hx
            have e2 : c k y = 0 := hy
            omega
          simp [hx, hy]
        · simp [hx]
      · rcases List.mem_append.1 hz with hz | hz
        · rcases i3 z hz with e | e
          · exact .inl e
          · exact .inr (List.mem_append_left _ e)
        · exact .inr (List.mem_append_right _ hz)
    · rw [ins_ge hc]
      refine ⟨?_, fun k => by simp, fun z hz => by simp at hz ⊢; rcases hz with h | h | h <;> simp [h]⟩
      have hyx : c y x ≤ 0 := by have := h.neg x y; omega
      rw [show l ++ [y, x] = (l ++ [y]) ++ [x] by simp]
      refine List.pairwise_append.2 ⟨hs, by simp, fun a ha b hb => ?_⟩
      simp at hb; subst hb
      rcases List.mem_append.1 ha with ha | ha
      · exact (h.tr a y b).le (hq.2.2 a ha y (by simp)) hyx
      · simp at ha; subst ha; exact hyx
/-- insertion sort -/
def zQ (c : α → α → Int) (l : List α) : List α := l.foldl (fun r x => ins c x r) []
theorem isort_snoc (l : List α) (x : α) : zQ c (l ++ [x]) = ins c x (zQ c l) := by unfold zQ; rw [List.foldl_append]; rfl
theorem isort_len : ∀ (n : Nat) (l : List α), l.length = n → (zQ c l).length = n
  | 0, l, h => by rw [List.eq_nil_of_length_eq_zero h]; rfl
  | n + 1, l, h => by
    have hne : l ≠ [] := by intro e; rw [e] at h; simp at h
    rw [← List.dropLast_concat_getLast hne, isort_snoc, ins_len, isort_len n _ (by simp [h])]
theorem zb5 (h : Cmp c) : ∀ (n : Nat) (l : List α), l.length = n → Stab c l (zQ c l)
  | 0, l, hl => by rw [List.eq_nil_of_length_eq_zero hl]; exact ⟨by simp [Srt, zQ], fun _ => rfl⟩
  | n + 1, l, hl => by
    have hne : l ≠ [] := by intro e; rw [e] at hl; simp at hl
    have ih := zb5 h n l.dropLast (by simp [hl])
    have hi := ins_stab h (l.getLast hne) _ (zQ c l.dropLast) rfl ih.srt
    conv => arg 2; rw [← List.dropLast_concat_getLast hne]
    conv => arg 3; rw [← List.dropLast_concat_getLast hne]
    rw [isort_snoc]
    refine ⟨hi.1, fun k => ?_⟩
    rw [hi.2.1 k, List.filter_append, List.filter_append, ih.same k]

/-! ### as the library does it -/
/-- The element at j goes down to its place, no further than a. -/
def bub (c : α → α → Int) (a : Nat) : Nat → List α → List α
  | 0, L => L
  | j + 1, L => if a < j + 1 then match L[j + 1]?, L[j]? with
    | some x, some y => if c x y < 0 then bub c a j ((L.set (j + 1) y).set j x) else L
    | _, _ => L
  else L
theorem bub_lt {a j : Nat} {L : List α} {x y : α} (h : a < j + 1) (hx : L[j + 1]? = some x) (hy : L[j]? = some y) (hc : c x y < 0) : bub c a (j + 1) L = bub c a j ((L.set (j + 1) y).set j x) := by
  conv => lhs; unfold bub
  rw [if_pos h, hx, hy]; simp only; rw [if_pos hc]
theorem bub_ge {a j : Nat} {L : List α} {x y : α} (hx : L[j + 1]? = some x) (hy : L[j]? = some y) (hc : ¬ c x y < 0) : bub c a (j + 1) L = L := by
  unfold bub; split
  · rw [hx, hy]; simp only; rw [if_neg hc]
  · rfl
theorem bub_lt' {a j : Nat} {L : List α} {x y : α} (h : a < j) (hx : L[j]? = some x) (hy : L[j - 1]? = some y) (hc : c x y < 0) : bub c a j L = bub c a (j - 1) ((L.set j y).set (j - 1) x) := by
  obtain ⟨m, rfl⟩ : ∃ m, j = m + 1 := ⟨j - 1, by omega⟩
  exact bub_lt h hx hy hc
theorem bub_ge' {a j : Nat} {L : List α} {x y : α} (hx : L[j]? = some x) (hy : L[j - 1]? = some y) (hc : ¬ c x y < 0) : bub c a j L = L := by
  cases j with
  | zero => rfl
  | succ j => exact bub_ge hx hy hc
theorem bub_end {a j : Nat} {L : List α} (h : j ≤ a) : bub c a j L = L := by
  cases j with
  | zero => rfl
  | succ j => unfold bub; rw [if_neg (by omega)]
theorem set_swap {A R : List α} {x y : α} : ((A ++ y :: x :: R).set (A.length + 1) y).set A.length x = A ++ x :: y :: R := by
  rw [List.set_append_right _ _ (by omega), List.set_append_right _ _ (by omega)]
  simp
theorem bub_ins {A R : List α} {x : α} : ∀ (n : Nat) (P : List α), P.length = n → bub c A.length (A.length + n) (A ++ P ++ x :: R) = A ++ ins c x P ++ R := by
  intro n
  induction n generalizing R with
  | zero => intro P hP; rw [List.eq_nil_of_length_eq_zero hP, bub_end (by omega), ins_nil]; simp
  | succ n ih =>
    intro P hP
    obtain ⟨P, y, rfl⟩ : ∃ q y, P = q ++ [y] := by
      have hne : P ≠ [] := by intro e; rw [e] at hP; simp at hP
      exact ⟨P.dropLast, P.getLast hne, (List.dropLast_concat_getLast hne).symm⟩
    have hPn : P.length = n := by simpa using hP
    have e : A ++ (P ++ [y]) ++ x :: R = (A ++ P) ++ y :: x :: R := by simp
    have hx : ((A ++ P) ++ y :: x :: R)[A.length + n + 1]? = some x := by rw [List.getElem?_append_right (by simp; omega)]; simp [hPn]
    have hy : ((A ++ P) ++ y :: x :: R)[A.length + n]? = some y := by rw [List.getElem?_append_right (by simp; omega)]; simp [hPn]
    rw [e, show A.length + (n + 1) = A.length + n + 1 by omega]
    by_cases hc : c x y < 0
    · rw [bub_lt (by omega) hx hy hc, ins_lt hc]
      have := set_swap (A := A ++ P) (R := R) (x := x) (y := y)
      rw [List.length_append, hPn] at this
      rw [this]
      have := ih (R := y :: R) P hPn
      rw [List.append_assoc A P] at this ⊢
      rw [this]; simp
    · rw [bub_ge hx hy hc, ins_ge hc]; simp
/-- insertion sort from i on -/
def isrt (c : α → α → Int) (a b : Nat) : Nat → Nat → List α → List α
  | 0, _, L => L
  | n + 1, i, L => if i < b then isrt c a b n (i + 1) (bub c a i L) else L
theorem zck {a b n i : Nat} {L : List α} (h : i < b) : isrt c a b (n + 1) i L = isrt c a b n (i + 1) (bub c a i L) := by
  conv => lhs; unfold isrt
  rw [if_pos h]
theorem zb4 {a b n i : Nat} {L : List α} (h : b ≤ i) : isrt c a b n i L = L := by
  cases n with
  | zero => rfl
  | succ n => unfold isrt; rw [if_neg (by omega)]
theorem isrt_isort {A R : List α} : ∀ (n : Nat) (S T : List α), T.length = n → isrt c A.length (A.length + S.length + n) n (A.length + S.length) (A ++ zQ c S ++ T ++ R) = A ++ zQ c (S ++ T) ++ R := by
  intro n
  induction n with
  | zero => intro S T hT; rw [List.eq_nil_of_length_eq_zero hT]; simp [isrt]
  | succ n ih =>
    intro S T hT
    cases T with
    | nil => simp at hT
    | cons x T =>
      have hTn : T.length = n := by simpa using hT
      rw [zck (by omega)]
      have hb := bub_ins (c := c) (A := A) (R := T ++ R) (x := x) S.length (zQ c S) (isort_len _ _ rfl)
      rw [show A ++ zQ c S ++ (x :: T) ++ R = A ++ zQ c S ++ x :: (T ++ R) by simp, hb]
      have := ih (S ++ [x]) T hTn
      rw [isort_snoc, List.length_append, List.length_singleton] at this
      rw [show A.length + S.length + (n + 1) = A.length + (S.length + 1) + n by omega, show A.length + S.length + 1 = A.length + (S.length + 1) by omega]
      rw [show A ++ ins c x (zQ c S) ++ (T ++ R) = A ++ ins c x (zQ c S) ++ T ++ R by simp, this]
      simp
theorem isrt_all (l : List α) : isrt c 0 l.length l.length 1 l = zQ c l := by
  cases l with
  | nil => rfl
  | cons x r =>
    have := isrt_isort (c := c) (A := []) (R := []) r.length [x] r rfl
    simp only [List.length_nil, Nat.zero_add, List.length_singleton, List.nil_append, List.append_nil] at this
    have e : zQ c [x] = [x] := rfl
    rw [e] at this
    have h2 : isrt c 0 (x :: r).length (x :: r).length 1 (x :: r) = isrt c 0 (1 + r.length) r.length 1 ([x] ++ r) := by
      rw [List.length_cons, Nat.add_comm]
      cases hr : r.length with
      | zero => rw [zb4 (by omega), zb4 (by omega)]; rfl
      | succ n =>
        -- one round more is none
        have more : ∀ (k i : Nat) (L : List α), 1 + (n + 1) ≤ i + k → isrt c 0 (1 + (n + 1)) (k + 1) i L = isrt c 0 (1 + (n + 1)) k i L := by
          intro k
          induction k with
          | zero => intro i L hk; rw [zb4 (by omega), zb4 (by omega)]
          | succ k ih =>
            intro i L hk
            by_cases hi : i < 1 + (n + 1)
            · rw [zck hi, zck hi, ih (i + 1) _ (by omega)]
            · rw [zb4 (by omega), zb4 (by omega)]
        have := more (n + 1) 1 (x :: r) (by omega)
        have e1 : 1 + (n + 1) = n + 1 + 1 := by omega
        rw [e1] at this ⊢
        exact this
    rw [h2, this]
    rfl
theorem zbC : Cmp zG := ⟨fun a b => cmpLbl_neg a b, fun a b d => cmpLbl_tr a b d⟩
end
end Lp
/-
  Tidy labels, as plain data.
-/
set_option linter.unusedVariables false
namespace Lp
open Go

def okL (x : Lbl) : Bool := zbz x.n && (!decide (x.v = ByteArray.empty) && decide (x.v.size ≤ 60))
def za3 : Option ByteArray → List Lbl → Bool
  | _, [] => true
  | p, x :: r => okL x && (!decide (p = some x.n) && za3 (some x.n) r)
def zcS (o : List Lbl) : Nat → Option ByteArray
  | 0 => none
  | k + 1 => (o[k]?).map (·.n)
def zbi (o : List Lbl) (k : Nat) : Bool := za3 (zcS o k) (o.drop k)
def zcx (o : List Lbl) : Bool := zbi o 0
def zY (l : List Lbl) : Bool := decide (l.length ≤ 8) && zcx (zQ zG l)
def zj (l : List Lbl) : List Lbl := bif zY l then zQ zG l else []
def zM (l : List Lbl) : Int := bif zY l then 0 else 1

theorem zcH {x : Lbl} (h : zbz x.n = false) : okL x = false := by simp [okL, h]
theorem zcG {x : Lbl} (h : x.v = ByteArray.empty) : okL x = false := by simp [okL, h]
theorem zcF {x : Lbl} (h : (60 : Int) < ((x.v.size : Nat) : Int)) : okL x = false := by
  have : ¬ x.v.size ≤ 60 := by omega
  simp [okL, this]
theorem okL_t {x : Lbl} (h1 : zbz x.n = true) (h2 : ¬ x.v = ByteArray.empty) (h3 : ¬ (60 : Int) < ((x.v.size : Nat) : Int)) : okL x = true := by
  have : x.v.size ≤ 60 := by omega
  simp [okL, h1, h2, this]
theorem zch {o : List Lbl} {k : Nat} {y : Lbl} (h : (0 : Int) < ((k : Nat) : Int)) (hy : o[k - 1]? = some y) : zcS o k = some y.n := by
  cases k with
  | zero => simp at h
  | succ k => simp at hy; simp [zcS, hy]
theorem prevN_zero {o : List Lbl} {k : Nat} (h : ¬ (0 : Int) < ((k : Nat) : Int)) : zcS o k = none := by
  have : k = 0 := by omega
  subst this; rfl
theorem zc2 {α : Type} {o : List α} {k : Nat} {x : α} (h : o[k]? = some x) : o.drop k = x :: o.drop (k + 1) := by
  obtain ⟨hk, e⟩ := List.getElem?_eq_some_iff.1 h
  rw [← e]; exact List.drop_eq_getElem_cons hk
theorem tidyAt_next {o : List Lbl} {k : Nat} {x : Lbl} (h : o[k]? = some x) : zbi o k = (okL x && (!decide (zcS o k = some x.n) && zbi o (k + 1))) := by
  unfold zbi
  rw [zc2 h]
  simp only [za3, zcS, h, Option.map_some]
theorem tidyAt_end {o : List Lbl} {k : Nat} (h : o.length ≤ k) : zbi o k = true := by
  unfold zbi; rw [List.drop_eq_nil_iff.2 h]; rfl
section
variable {l : List Lbl} {k : Nat} {x : Lbl}
theorem tidy_ok (h : zY l = false) : [] = zj l ∧ 1 = zM l := by simp [zj, zM, h]
theorem tidy_long (h : (8 : Int) < ((l.length : Nat) : Int)) : [] = zj l ∧ 1 = zM l := tidy_ok (by
  have : ¬ l.length ≤ 8 := by omega
  simp [zY, this])
theorem zaS (hk : zcx (zQ zG l) = zbi (zQ zG l) k) (hx : (zQ zG l)[k]? = some x) (h : okL x = false) : [] = zj l ∧ 1 = zM l := tidy_ok (by simp [zY, hk, tidyAt_next hx, h])
theorem tidy_bad2 (hk : zcx (zQ zG l) = zbi (zQ zG l) k) (hx : (zQ zG l)[k]? = some x) {n : ByteArray} (h : zcS (zQ zG l) k = some n) (hn : n = x.n) : [] = zj l ∧ 1 = zM l := tidy_ok (by simp [zY, hk, tidyAt_next hx, h, hn])
theorem tidy_good (hk : zcx (zQ zG l) = zbi (zQ zG l) k) (hx : (zQ zG l).length ≤ k) (h : l.length ≤ 8) : zQ zG l = zj l ∧ 0 = zM l := by
  have : zY l = true := by simp [zY, hk, tidyAt_end hx, h]
  simp [zj, zM, this]
theorem tidy_step0 (hk : zcx (zQ zG l) = zbi (zQ zG l) k) (hx : (zQ zG l)[k]? = some x) (h : okL x = true) (hp : zcS (zQ zG l) k = none) : zcx (zQ zG l) = zbi (zQ zG l) (k + 1) := by
  rw [hk, tidyAt_next hx, h, hp]; simp
theorem tidy_step (hk : zcx (zQ zG l) = zbi (zQ zG l) k) (hx : (zQ zG l)[k]? = some x) (h : okL x = true) {n : ByteArray} (hp : zcS (zQ zG l) k = some n) (hn : ¬ n = x.n) : zcx (zQ zG l) = zbi (zQ zG l) (k + 1) := by
  rw [hk, tidyAt_next hx, h, hp]; simp [hn]
end

/-! ### picking -/
def hasN (ns : List ByteArray) (n : ByteArray) : Bool := ns.any (fun m => decide (m = n))
def zs (l : List Lbl) (ns : List ByteArray) (w : Bool) : List Lbl := l.filter (fun x => hasN ns x.n == w)
def getL (l : List Lbl) (n : ByteArray) : ByteArray := ((l.find? (fun x => decide (x.n = n))).map (·.v)).getD ByteArray.empty
def idxN (n : ByteArray) : Nat → List ByteArray → Int
  | _, [] => -1
  | k, m :: r => if n = m then (k : Int) else idxN n (k + 1) r
theorem idxN_has (n : ByteArray) : ∀ (ns : List ByteArray) (k : Nat), decide (0 ≤ idxN n k ns) = hasN ns n
  | [], k => rfl
  | m :: r, k => by
    unfold idxN hasN
    by_cases h : n = m
    · have h0 : (0 : Int) ≤ (k : Nat) := by omega
      simp [h, h0]
    · have h' : ¬ m = n := fun e => h e.symm
      have := idxN_has n r (k + 1)
      unfold hasN at this
      rw [if_neg h, this]; simp [h']
theorem idxN_at {n m : ByteArray} {ns : List ByteArray} {k : Nat} (hm : ns[k]? = some m) (h : idxN n 0 ns = idxN n k (ns.drop k)) (e : n = m) : ((k : Nat) : Int) = idxN n 0 ns := by
  rw [h, zc2 hm]; unfold idxN; rw [if_pos e]
theorem idxN_next {n m : ByteArray} {ns : List ByteArray} {k : Nat} (hm : ns[k]? = some m) (h : idxN n 0 ns = idxN n k (ns.drop k)) (e : ¬ n = m) : idxN n 0 ns = idxN n (k + 1) (ns.drop (k + 1)) := by
  rw [h, zc2 hm]; conv => lhs; unfold idxN
  rw [if_neg e]
theorem idxN_end {n : ByteArray} {ns : List ByteArray} {k : Nat} (hk : ns.length ≤ k) (h : idxN n 0 ns = idxN n k (ns.drop k)) : -1 = idxN n 0 ns := by
  rw [h, List.drop_eq_nil_iff.2 hk]; rfl
theorem getL_at {l : List Lbl} {n : ByteArray} {k : Nat} {x : Lbl} (hx : l[k]? = some x) (h : getL l n = getL (l.drop k) n) (e : x.n = n) : x.v = getL l n := by
  rw [h, zc2 hx]; unfold getL; rw [List.find?_cons_of_pos (by simp [e])]; rfl
theorem getL_next {l : List Lbl} {n : ByteArray} {k : Nat} {x : Lbl} (hx : l[k]? = some x) (h : getL l n = getL (l.drop k) n) (e : ¬ x.n = n) : getL l n = getL (l.drop (k + 1)) n := by
  rw [h, zc2 hx]; unfold getL; rw [List.find?_cons_of_neg (by simp [e])]
theorem getL_end {l : List Lbl} {n : ByteArray} {k : Nat} (hk : l.length ≤ k) (h : getL l n = getL (l.drop k) n) : ByteArray.empty = getL l n := by
  rw [h, List.drop_eq_nil_iff.2 hk]; rfl
theorem pickL_snoc {l : List Lbl} {ns : List ByteArray} {w : Bool} {k : Nat} {x : Lbl} (hx : l[k]? = some x) (h : (hasN ns x.n == w) = true) : zs (l.take (k + 1)) ns w = zs (l.take k) ns w ++ [x] := by
  rw [zap hx]; unfold zs; rw [List.filter_append]; simp [h]
theorem pickL_skip {l : List Lbl} {ns : List ByteArray} {w : Bool} {k : Nat} {x : Lbl} (hx : l[k]? = some x) (h : (hasN ns x.n == w) = false) : zs (l.take (k + 1)) ns w = zs (l.take k) ns w := by
  rw [zap hx]; unfold zs; rw [List.filter_append]; simp [h]
theorem zbT (l : List Lbl) (ns : List ByteArray) (w : Bool) : (zs l ns w).length ≤ l.length := List.length_filter_le _ _
end Lp
/-
  Texts of labels, as plain data: zav as bytes, quotation marks, joining.
-/
set_option linter.unusedVariables false
namespace Lp
open Go

/-- a rune as bytes -/
def encR (x : Nat) : List UInt8 :=
  if x ≤ 127 then [UInt8.ofNat (x % 256)]
  else if x ≤ 2047 then [UInt8.ofNat (192 + x / 64 % 256), UInt8.ofNat (128 + x % 256 % 64)]
  else if x < 55296 ∨ (57343 < x ∧ x ≤ 65535) then [UInt8.ofNat (224 + x / 4096 % 256), UInt8.ofNat (128 + x / 64 % 256 % 64), UInt8.ofNat (128 + x % 256 % 64)]
  else if 65535 < x ∧ x ≤ 1114111 then [UInt8.ofNat (240 + x / 262144 % 256), UInt8.ofNat (128 + x / 4096 % 256 % 64), UInt8.ofNat (128 + x / 64 % 256 % 64), UInt8.ofNat (128 + x % 256 % 64)]
  else [239, 191, 189]
theorem zcp (x : Nat) : (encR x).length ≤ 4 := by unfold encR; (repeat' split) <;> simp
def hasP (a b : ByteArray) : Bool := decide (b.size ≤ a.size) && decide (a.extract 0 b.size = b)
def wide : ByteArray := ⟨#[239, 191, 189]⟩
def hexd : ByteArray := ⟨#[48, 49, 50, 51, 52, 53, 54, 55, 56, 57, 97, 98, 99, 100, 101, 102]⟩
def hexB (n : Nat) : UInt8 := hexd[n]?.getD 0
def zbO (s : ByteArray) (p : Nat) : Nat := (s[p]?.getD 0).toNat
/-- what a rune becomes between quotation marks -/
def zbr (s : ByteArray) (p : Nat) : List UInt8 :=
  if decR s p = 34 ∨ decR s p = 92 then 92 :: encR (decR s p)
  else if decR s p = 10 then [92, 110]
  else if decR s p = 65533 ∧ hasP (s.extract p s.size) wide = false then [92, 120, hexB (zbO s p / 16), hexB (zbO s p % 16)]
  else encR (decR s p)
theorem piece_len (s : ByteArray) (p : Nat) : (zbr s p).length ≤ 5 := by
  have := zcp (decR s p)
  unfold zbr
  (repeat' split) <;> simp <;> omega
def zaD (s : ByteArray) (p : Nat) : List UInt8 := if h : p < s.size then zbr s p ++ zaD s (p + decW s p) else []
termination_by s.size - p
decreasing_by have := zai s p; omega
theorem zbj {s : ByteArray} {p : Nat} (h : p < s.size) : zaD s p = zbr s p ++ zaD s (p + decW s p) := by
  conv => lhs; unfold zaD
  rw [dif_pos h]
theorem quoteAt_ge {s : ByteArray} {p : Nat} (h : s.size ≤ p) : zaD s p = [] := by
  unfold zaD; rw [dif_neg (by omega)]
def zcW (s : ByteArray) : List UInt8 := 34 :: (zaD s 0 ++ [34])
def zaV (s : ByteArray) : ByteArray := ⟨(zcW s).toArray⟩
/-- texts, something between them -/
def zbo (sep : ByteArray) : List ByteArray → List UInt8
  | [] => []
  | [x] => x.data.toList
  | x :: y :: r => x.data.toList ++ sep.data.toList ++ zbo sep (y :: r)
def zcc (sep : ByteArray) (l : List ByteArray) : ByteArray := ⟨(zbo sep l).toArray⟩
def zbe (x : Lbl) : ByteArray := x.n ++ (⟨#[61]⟩ : ByteArray) ++ zaV x.v
def zbx (l : List Lbl) : ByteArray := (⟨#[123]⟩ : ByteArray) ++ zcc ⟨#[44]⟩ (l.map zbe) ++ (⟨#[125]⟩ : ByteArray)

theorem piece_1 {s : ByteArray} {p : Nat} (h : decR s p = 34 ∨ decR s p = 92) : zbr s p = [92] ++ encR (decR s p) := by unfold zbr; rw [if_pos h]; rfl
theorem piece_2 {s : ByteArray} {p : Nat} (h : ¬ (decR s p = 34 ∨ decR s p = 92)) (h2 : decR s p = 10) : zbr s p = [92, 110] := by unfold zbr; rw [if_neg h, if_pos h2]
theorem piece_3 {s : ByteArray} {p : Nat} (h : ¬ (decR s p = 34 ∨ decR s p = 92)) (h2 : ¬ decR s p = 10) (h3 : decR s p = 65533 ∧ hasP (s.extract p s.size) wide = false) : zbr s p = [92, 120, hexB (zbO s p / 16), hexB (zbO s p % 16)] := by unfold zbr; rw [if_neg h, if_neg h2, if_pos h3]
theorem piece_4 {s : ByteArray} {p : Nat} (h : ¬ (decR s p = 34 ∨ decR s p = 92)) (h2 : ¬ decR s p = 10) (h3 : ¬ (decR s p = 65533 ∧ hasP (s.extract p s.size) wide = false)) : zbr s p = encR (decR s p) := by unfold zbr; rw [if_neg h, if_neg h2, if_neg h3]
theorem hexB_at {n : Nat} {u : UInt8} (h : hexd[n]? = some u) : u = hexB n := by unfold hexB; rw [h]; rfl
theorem byteAt_at {s : ByteArray} {p : Nat} {u : UInt8} (h : s[p]? = some u) : u.toNat = zbO s p := by unfold zbO; rw [h]; rfl
def zaP (l : List ByteArray) : Nat := (l.map ByteArray.size).sum
theorem zbA {l : List ByteArray} {k : Nat} {x : ByteArray} (h : l[k]? = some x) : zaP (l.take (k + 1)) = zaP (l.take k) + x.size := by
  rw [zap h]; simp [zaP]
theorem zcB (l : List ByteArray) (k : Nat) : zaP (l.take k) ≤ zaP l := by
  conv => rhs; rw [← List.take_append_drop k l]
  unfold zaP; rw [List.map_append, List.sum_append]; omega
theorem joinL_snoc (sep : ByteArray) : ∀ (l : List ByteArray) (x : ByteArray), l ≠ [] → zbo sep (l ++ [x]) = zbo sep l ++ sep.data.toList ++ x.data.toList
  | [], x, h => absurd rfl h
  | [a], x, _ => by simp [zbo]
  | a :: b :: r, x, _ => by
    have := joinL_snoc sep (b :: r) x (by simp)
    show a.data.toList ++ sep.data.toList ++ zbo sep ((b :: r) ++ [x]) = _
    rw [this]; simp [zbo, List.append_assoc]
theorem joinL_take {sep : ByteArray} {l : List ByteArray} {k : Nat} {x : ByteArray} (h : l[k + 1]? = some x) : zbo sep (l.take (k + 2)) = zbo sep (l.take (k + 1)) ++ sep.data.toList ++ x.data.toList := by
  rw [zap h, joinL_snoc]
  intro e
  have h0 : (l.take (k + 1)).length = 0 := by rw [e]; rfl
  have hk := (List.getElem?_eq_some_iff.1 h).1
  rw [List.length_take] at h0
  omega
theorem joinL_one {sep : ByteArray} {l : List ByteArray} {x : ByteArray} (h : l[0]? = some x) : zbo sep (l.take 1) = x.data.toList := by
  rw [show (1 : Nat) = 0 + 1 from rfl, zap h]; simp [zbo]
theorem joinB_none {sep : ByteArray} {l : List ByteArray} (h : l.length = 0) : ByteArray.empty = zcc sep l := by
  rw [List.eq_nil_of_length_eq_zero h]; rfl
theorem joinB_one {sep : ByteArray} {l : List ByteArray} {x : ByteArray} (h : l[0]? = some x) (hl : l.length = 1) : x = zcc sep l := by
  have := joinL_one (sep := sep) h
  rw [List.take_of_length_le (by omega)] at this
  unfold zcc; rw [this]
theorem joinB_all {sep : ByteArray} {l : List ByteArray} {k : Nat} {bs : List UInt8} (h : bs = zbo sep (l.take (k + 1))) (hl : l.length ≤ k + 1) : (⟨bs.toArray⟩ : ByteArray) = zcc sep l := by
  rw [h, List.take_of_length_le hl]; rfl
theorem zbk (x : ByteArray) : x.data.toList.length = x.size := by simp
theorem quoteAt_len (s : ByteArray) : ∀ (n p : Nat), s.size - p = n → (zaD s p).length ≤ 5 * (s.size - p) := by
  intro n
  induction n using Nat.strongRecOn with
  | _ n ih =>
    intro p hp
    rcases Nat.lt_or_ge p s.size with h | h
    · have h1 := zai s p
      have h2 := piece_len s p
      rw [zbj h, List.length_append]
      have := ih (s.size - (p + decW s p)) (by omega) _ rfl
      omega
    · rw [quoteAt_ge h]; simp
theorem quoteB_size (s : ByteArray) : (zaV s).size ≤ 5 * s.size + 2 := by
  have := quoteAt_len s _ 0 rfl
  show (zcW s).toArray.size ≤ _
  unfold zcW
  simp only [List.size_toArray, List.length_cons, List.length_append, List.length_nil]
  omega
theorem partB_size (x : Lbl) : (zbe x).size ≤ x.n.size + 5 * x.v.size + 3 := by
  have := quoteB_size x.v
  unfold zbe
  simp only [ByteArray.size_append]
  have e : (⟨#[61]⟩ : ByteArray).size = 1 := rfl
  omega
theorem joinL_len {sep : ByteArray} (h : sep.size = 1) : ∀ l : List ByteArray, (zbo sep l).length ≤ zaP l + l.length
  | [] => by simp [zbo]
  | [x] => by simp [zbo, zaP]
  | x :: y :: r => by
    have := joinL_len h (y :: r)
    simp only [zbo, List.length_append, zbk, zaP, List.map_cons, List.sum_cons, List.length_cons] at *
    omega
theorem zb3 {sep : ByteArray} (h : sep.size = 1) (l : List ByteArray) : (zcc sep l).size ≤ zaP l + l.length := by
  have := joinL_len h l
  show (zbo sep l).toArray.size ≤ _
  simpa using this
theorem sumSz_part {l : List Lbl} (hz : ∀ x ∈ l, x.n.size ≤ 100000 ∧ x.v.size ≤ 100000) : zaP (l.map zbe) ≤ l.length * 600003 := by
  induction l with
  | nil => simp [zaP]
  | cons x r ih =>
    have h1 := partB_size x
    have h2 := hz x List.mem_cons_self
    have h3 := ih (fun y hy => hz y (List.mem_cons_of_mem _ hy))
    simp only [zaP, List.map_cons, List.sum_cons, List.length_cons] at *
    omega
theorem sumSz_parts {l : List Lbl} (hl : l.length ≤ 1000) (hz : ∀ x ∈ l, x.n.size ≤ 100000 ∧ x.v.size ≤ 100000) (k : Nat) : zaP ((l.take k).map zbe) ≤ 1000000000 := by
  have h1 := sumSz_part (l := l.take k) (fun x hx => hz x (List.mem_of_mem_take hx))
  rw [List.length_take] at h1
  omega
end Lp
