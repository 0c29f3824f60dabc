/-
  Stable sorting, as plain data, for any way of comparing: what comes out is one list alone; insertion sort as Go's library does it.
-/
import Derived.Test.YtfjinapgehafiaaGreatV5
set_option linter.unusedVariables false
namespace Lp
open Go
section
variable {α : Type} {c : α → α → Int}

structure Cmp (c : α → α → Int) : Prop where
  neg : ∀ a b, c b a = - c a b
  tr : ∀ a b d, Tr (c a b) (c b d) (c a d)
theorem Cmp.self (h : Cmp c) (a : α) : c a a = 0 := by have := h.neg a a; omega
def Srt (c : α → α → Int) (l : List α) : Prop := l.Pairwise (fun a b => c a b ≤ 0)
def eqv (c : α → α → Int) (k x : α) : Bool := decide (c k x = 0)
structure Stab (c : α → α → Int) (l r : List α) : Prop where
  srt : Srt c r
  same : ∀ k, r.filter (eqv c k) = l.filter (eqv c k)

theorem zcK (h : Cmp c) (a : α) : eqv c a a = true := by unfold eqv; simp [h.self a]
theorem Srt.unique (h : Cmp c) : ∀ a b : List α, Srt c a → Srt c b → (∀ k, a.filter (eqv c k) = b.filter (eqv c k)) → a = b
  | [], [], _, _, _ => rfl
  | [], y :: b, _, _, hs => by
    have := hs y; rw [List.filter_cons_of_pos (zcK h y)] at this; cases this
  | x :: a, [], _, _, hs => by
    have := hs x; rw [List.filter_cons_of_pos (zcK h x)] at this; cases this
  | x :: a, y :: b, ha, hb, hs => by
    have hx : x ∈ y :: b := by
      have : x ∈ (y :: b).filter (eqv c x) := by rw [← hs x, List.filter_cons_of_pos (zcK h x)]; exact List.mem_cons_self
      exact (List.mem_filter.1 this).1
    have hy : y ∈ x :: a := by
      have : y ∈ (x :: a).filter (eqv c y) := by rw [hs y, List.filter_cons_of_pos (zcK h y)]; exact List.mem_cons_self
      exact (List.mem_filter.1 this).1
    have h1 : c y x ≤ 0 := by
      rcases List.mem_cons.1 hx with e | e
      · rw [e, h.self]; exact Int.le_refl _
      · exact (List.pairwise_cons.1 hb).1 x e
    have h2 : c x y ≤ 0 := by
      rcases List.mem_cons.1 hy with e | e
      · rw [e, h.self]; exact Int.le_refl _
      · exact (List.pairwise_cons.1 ha).1 y e
    have h3 : c x y = 0 := by have := h.neg x y; omega
    have e1 : eqv c x y = true := by unfold eqv; simp [h3]
    have := hs x
    rw [List.filter_cons_of_pos (zcK h x), List.filter_cons_of_pos e1] at this
    injection this with hxy _
    subst hxy
    congr 1
    refine Srt.unique h a b (List.pairwise_cons.1 ha).2 (List.pairwise_cons.1 hb).2 (fun k => ?_)
    have := hs k
    simp only [List.filter_cons] at this
    split at this
    · injection this
    · exact this
theorem Stab.eq (h : Cmp c) {l a b : List α} (ha : Stab c l a) (hb : Stab c l b) : a = b := Srt.unique h a b ha.srt hb.srt (fun k => (ha.same k).trans (hb.same k).symm)
theorem Stab.trans {l a b : List α} (ha : Stab c l a) (hb : Stab c a b) : Stab c l b := ⟨hb.srt, fun k => (hb.same k).trans (ha.same k)⟩
theorem Stab.mem (h : Cmp c) {l a : List α} (ha : Stab c l a) (x : α) : x ∈ a ↔ x ∈ l := by
  have := ha.same x
  constructor
  · intro hx
    have : x ∈ l.filter (eqv c x) := by rw [← this]; exact List.mem_filter.2 ⟨hx, zcK h x⟩
    exact (List.mem_filter.1 this).1
  · intro hx
    have : x ∈ a.filter (eqv c x) := by rw [this]; exact List.mem_filter.2 ⟨hx, zcK h x⟩
    exact (List.mem_filter.1 this).1

/-! ### insertion -/
/-- into a list the other way round -/
def insB (c : α → α → Int) (x : α) : List α → List α
  | [] => [x]
  | y :: r => if c x y < 0 then y :: insB c x r else x :: y :: r
def ins (c : α → α → Int) (x : α) (l : List α) : List α := (insB c x l.reverse).reverse
theorem ins_nil (x : α) : ins c x [] = [x] := rfl
theorem ins_lt {x y : α} {l : List α} (h : c x y < 0) : ins c x (l ++ [y]) = ins c x l ++ [y] := by
  unfold ins; rw [List.reverse_append]; simp [insB, h]
theorem ins_ge {x y : α} {l : List α} (h : ¬ c x y < 0) : ins c x (l ++ [y]) = l ++ [y, x] := by
  unfold ins; rw [List.reverse_append]; simp [insB, h]
theorem insB_len (x : α) : ∀ l : List α, (insB c x l).length = l.length + 1
  | [] => rfl
  | y :: r => by unfold insB; split <;> simp [insB_len x r]
theorem ins_len (x : α) (l : List α) : (ins c x l).length = l.length + 1 := by unfold ins; simp [insB_len]
theorem ins_stab (h : Cmp c) (x : α) : ∀ (n : Nat) (l : List α), l.length = n → Srt c l → Srt c (ins c x l) ∧ (∀ k, (ins c x l).filter (eqv c k) = (l ++ [x]).filter (eqv c k)) ∧ ∀ z ∈ ins c x l, z = x ∨ z ∈ l := by
  intro n
  induction n with
  | zero =>
    intro l hl _
    have : l = [] := List.eq_nil_of_length_eq_zero hl
    subst this
    exact ⟨by simp [Srt, ins_nil], fun k => rfl, fun z hz => by simp [ins_nil] at hz; exact .inl hz⟩
  | succ n ih =>
    intro l hl hs
    obtain ⟨l, y, rfl⟩ : ∃ q y, l = q ++ [y] := by
      have hne : l ≠ [] := by intro e; rw [e] at hl; simp at hl
      exact ⟨l.dropLast, l.getLast hne, (List.dropLast_concat_getLast hne).symm⟩
    have hq := List.pairwise_append.1 hs
    by_cases hc : c x y < 0
    · obtain ⟨i1, i2, i3⟩ := ih l (by simpa using hl) hq.1
      rw [ins_lt hc]
      refine ⟨List.pairwise_append.2 ⟨i1, by simp, fun a ha b hb => ?_⟩, fun k => ?_, fun z hz => ?_⟩
      · simp at hb; subst hb
        rcases i3 a ha with rfl | ha'
        · omega
        · exact hq.2.2 a ha' b (by simp)
      · rw [List.filter_append, i2 k]
        simp only [List.filter_append, List.append_assoc]
        congr 1
        by_cases hx : eqv c k x = true
        · have hy : eqv c k y = false := by
            unfold eqv at hx ⊢
            simp only [decide_eq_true_eq, decide_eq_false_iff_not] at hx ⊢
            intro hy
            have e1 := (h.tr k x y).e1 hx
            have e2 : c k y = 0 := hy
            omega
          simp [hx, hy]
        · simp [hx]
      · rcases List.mem_append.1 hz with hz | hz
        · rcases i3 z hz with e | e
          · exact .inl e
          · exact .inr (List.mem_append_left _ e)
        · exact .inr (List.mem_append_right _ hz)
    · rw [ins_ge hc]
      refine ⟨?_, fun k => by simp, fun z hz => by simp at hz ⊢; rcases hz with h | h | h <;> simp [h]⟩
      have hyx : c y x ≤ 0 := by have := h.neg x y; omega
      rw [show l ++ [y, x] = (l ++ [y]) ++ [x] by simp]
      refine List.pairwise_append.2 ⟨hs, by simp, fun a ha b hb => ?_⟩
      simp at hb; subst hb
      rcases List.mem_append.1 ha with ha | ha
      · exact (h.tr a y b).le (hq.2.2 a ha y (by simp)) hyx
      · simp at ha; subst ha; exact hyx
/-- insertion sort -/
def zR (c : α → α → Int) (l : List α) : List α := l.foldl (fun r x => ins c x r) []
theorem isort_snoc (l : List α) (x : α) : zR c (l ++ [x]) = ins c x (zR c l) := by unfold zR; rw [List.foldl_append]; rfl
theorem zcA : ∀ (n : Nat) (l : List α), l.length = n → (zR c l).length = n
  | 0, l, h => by rw [List.eq_nil_of_length_eq_zero h]; rfl
  | n + 1, l, h => by
    have hne : l ≠ [] := by intro e; rw [e] at h; simp at h
    rw [← List.dropLast_concat_getLast hne, isort_snoc, ins_len, zcA n _ (by simp [h])]
theorem zaB (h : Cmp c) : ∀ (n : Nat) (l : List α), l.length = n → Stab c l (zR c l)
  | 0, l, hl => by rw [List.eq_nil_of_length_eq_zero hl]; exact ⟨by simp [Srt, zR], fun _ => rfl⟩
  | n + 1, l, hl => by
    have hne : l ≠ [] := by intro e; rw [e] at hl; simp at hl
    have ih := zaB h n l.dropLast (by simp [hl])
    have hi := ins_stab h (l.getLast hne) _ (zR c l.dropLast) rfl ih.srt
    conv => arg 2; rw [← List.dropLast_concat_getLast hne]
    conv => arg 3; rw [← List.dropLast_concat_getLast hne]
    rw [isort_snoc]
    refine ⟨hi.1, fun k => ?_⟩
    rw [hi.2.1 k, List.filter_append, List.filter_append, ih.same k]

/-! ### as the library does it -/
/-- The element at j goes down to its place, no further than a. -/
def bub (c : α → α → Int) (a : Nat) : Nat → List α → List α
  | 0, L => L
  | j + 1, L => if a < j + 1 then match L[j + 1]?, L[j]? with
    | some x, some y => if c x y < 0 then bub c a j ((L.set (j + 1) y).set j x) else L
    | _, _ => L
  else L
theorem bub_lt {a j : Nat} {L : List α} {x y : α} (h : a < j + 1) (hx : L[j + 1]? = some x) (hy : L[j]? = some y) (hc : c x y < 0) : bub c a (j + 1) L = bub c a j ((L.set (j + 1) y).set j x) := by
  conv => lhs; unfold bub
  rw [if_pos h, hx, hy]; simp only; rw [if_pos hc]
theorem bub_ge {a j : Nat} {L : List α} {x y : α} (hx : L[j + 1]? = some x) (hy : L[j]? = some y) (hc : ¬ c x y < 0) : bub c a (j + 1) L = L := by
  unfold bub; split
  · rw [hx, hy]; simp only; rw [if_neg hc]
  · rfl
theorem bub_lt' {a j : Nat} {L : List α} {x y : α} (h : a < j) (hx : L[j]? = some x) (hy : L[j - 1]? = some y) (hc : c x y < 0) : bub c a j L = bub c a (j - 1) ((L.set j y).set (j - 1) x) := by
  obtain ⟨m, rfl⟩ : ∃ m, j = m + 1 := ⟨j - 1, by omega⟩
  exact bub_lt h hx hy hc
theorem bub_ge' {a j : Nat} {L : List α} {x y : α} (hx : L[j]? = some x) (hy : L[j - 1]? = some y) (hc : ¬ c x y < 0) : bub c a j L = L := by
  cases j with
  | zero => rfl
  | succ j => exact bub_ge hx hy hc
theorem bub_end {a j : Nat} {L : List α} (h : j ≤ a) : bub c a j L = L := by
  cases j with
  | zero => rfl
  | succ j => unfold bub; rw [if_neg (by omega)]
theorem set_swap {A R : List α} {x y : α} : ((A ++ y :: x :: R).set (A.length + 1) y).set A.length x = A ++ x :: y :: R := by
  rw [List.set_append_right _ _ (by omega), List.set_append_right _ _ (by omega)]
  simp
theorem bub_ins {A R : List α} {x : α} : ∀ (n : Nat) (P : List α), P.length = n → bub c A.length (A.length + n) (A ++ P ++ x :: R) = A ++ ins c x P ++ R := by
  intro n
  induction n generalizing R with
  | zero => intro P hP; rw [List.eq_nil_of_length_eq_zero hP, bub_end (by omega), ins_nil]; simp
  | succ n ih =>
    intro P hP
    obtain ⟨P, y, rfl⟩ : ∃ q y, P = q ++ [y] := by
      have hne : P ≠ [] := by intro e; rw [e] at hP; simp at hP
      exact ⟨P.dropLast, P.getLast hne, (List.dropLast_concat_getLast hne).symm⟩
    have hPn : P.length = n := by simpa using hP
    have e : A ++ (P ++ [y]) ++ x :: R = (A ++ P) ++ y :: x :: R := by simp
    have hx : ((A ++ P) ++ y :: x :: R)[A.length + n + 1]? = some x := by rw [List.getElem?_append_right (by simp; omega)]; simp [hPn]
    have hy : ((A ++ P) ++ y :: x :: R)[A.length + n]? = some y := by rw [List.getElem?_append_right (by simp; omega)]; simp [hPn]
    rw [e, show A.length + (n + 1) = A.length + n + 1 by omega]
    by_cases hc : c x y < 0
    · rw [bub_lt (by omega) hx hy hc, ins_lt hc]
      have := set_swap (A := A ++ P) (R := R) (x := x) (y := y)
      rw [List.length_append, hPn] at this
      rw [this]
      have := ih (R := y :: R) P hPn
      rw [List.append_assoc A P] at this ⊢
      rw [this]; simp
    · rw [bub_ge hx hy hc, ins_ge hc]; simp
/-- insertion sort from i on -/
def isrt (c : α → α → Int) (a b : Nat) : Nat → Nat → List α → List α
  | 0, _, L => L
  | n + 1, i, L => if i < b then isrt c a b n (i + 1) (bub c a i L) else L
theorem zbI {a b n i : Nat} {L : List α} (h : i < b) : isrt c a b (n + 1) i L = isrt c a b n (i + 1) (bub c a i L) := by
  conv => lhs; unfold isrt
  rw [if_pos h]
theorem zbm {a b n i : Nat} {L : List α} (h : b ≤ i) : isrt c a b n i L = L := by
  cases n with
  | zero => rfl
  | succ n => unfold isrt; rw [if_neg (by omega)]
theorem isrt_isort {A R : List α} : ∀ (n : Nat) (S T : List α), T.length = n → isrt c A.length (A.length + S.length + n) n (A.length + S.length) (A ++ zR c S ++ T ++ R) = A ++ zR c (S ++ T) ++ R := by
  intro n
  induction n with
  | zero => intro S T hT; rw [List.eq_nil_of_length_eq_zero hT]; simp [isrt]
  | succ n ih =>
    intro S T hT
    cases T with
    | nil => simp at hT
    | cons x T =>
      have hTn : T.length = n := by simpa using hT
      rw [zbI (by omega)]
      have hb := bub_ins (c := c) (A := A) (R := T ++ R) (x := x) S.length (zR c S) (zcA _ _ rfl)
      rw [show A ++ zR c S ++ (x :: T) ++ R = A ++ zR c S ++ x :: (T ++ R) by simp, hb]
      have := ih (S ++ [x]) T hTn
      rw [isort_snoc, List.length_append, List.length_singleton] at this
      rw [show A.length + S.length + (n + 1) = A.length + (S.length + 1) + n by omega, show A.length + S.length + 1 = A.length + (S.length + 1) by omega]
      rw [show A ++ ins c x (zR c S) ++ (T ++ R) = A ++ ins c x (zR c S) ++ T ++ R by simp, this]
      simp
theorem isrt_all (l : List α) : isrt c 0 l.length l.length 1 l = zR c l := by
  cases l with
  | nil => rfl
  | cons x r =>
    have := isrt_isort (c := c) (A := []) (R := []) r.length [x] r rfl
    simp only [List.length_nil, Nat.zero_add, List.length_singleton, List.nil_append, List.append_nil] at this
    have e : zR c [x] = [x] := rfl
    rw [e] at this
    have h2 : isrt c 0 (x :: r).length (x :: r).length 1 (x :: r) = isrt c 0 (1 + r.length) r.length 1 ([x] ++ r) := by
      rw [List.length_cons, Nat.add_comm]
      cases hr : r.length with
      | zero => rw [zbm (by omega), zbm (by omega)]; rfl
      | succ n =>
        -- one round more is none
        have more : ∀ (k i : Nat) (L : List α), 1 + (n + 1) ≤ i + k → isrt c 0 (1 + (n + 1)) (k + 1) i L = isrt c 0 (1 + (n + 1)) k i L := by
          intro k
          induction k with
          | zero => intro i L hk; rw [zbm (by omega), zbm (by omega)]
          | succ k ih =>
            intro i L hk
            by_cases hi : i < 1 + (n + 1)
            · rw [zbI hi, zbI hi, ih (i + 1) _ (by omega)]
            · rw [zbm (by omega), zbm (by omega)]
        have := more (n + 1) 1 (x :: r) (by omega)
        have e1 : 1 + (n + 1) = n + 1 + 1 := by omega
        rw [e1] at this ⊢
        exact this
    rw [h2, this]
    rfl
theorem zcj : Cmp zN := ⟨fun a b => cmpLbl_neg a b, fun a b d => cmpLbl_tr a b d⟩
end
end Lp
/-
  Tidy labels, as plain data.
-/
set_option linter.unusedVariables false
namespace Lp
open Go

def okL (x : Lbl) : Bool := zb8 x.n && (!decide (x.v = ByteArray.empty) && decide (x.v.size ≤ 60))
def zcm : Option ByteArray → List Lbl → Bool
  | _, [] => true
  | p, x :: r => okL x && (!decide (p = some x.n) && zcm (some x.n) r)
def zdQ (o : List Lbl) : Nat → Option ByteArray
  | 0 => none
  | k + 1 => (o[k]?).map (·.n)
def zbW (o : List Lbl) (k : Nat) : Bool := zcm (zdQ o k) (o.drop k)
def zdn (o : List Lbl) : Bool := zbW o 0
def zaa (l : List Lbl) : Bool := decide (l.length ≤ 8) && zdn (zR zN l)
def zP (l : List Lbl) : List Lbl := bif zaa l then zR zN l else []
def zaY (l : List Lbl) : Int := bif zaa l then 0 else 1

theorem zdz {x : Lbl} (h : zb8 x.n = false) : okL x = false := by simp [okL, h]
theorem zdy {x : Lbl} (h : x.v = ByteArray.empty) : okL x = false := by simp [okL, h]
theorem zdx {x : Lbl} (h : (60 : Int) < ((x.v.size : Nat) : Int)) : okL x = false := by
  have : ¬ x.v.size ≤ 60 := by omega
  simp [okL, this]
theorem okL_t {x : Lbl} (h1 : zb8 x.n = true) (h2 : ¬ x.v = ByteArray.empty) (h3 : ¬ (60 : Int) < ((x.v.size : Nat) : Int)) : okL x = true := by
  have : x.v.size ≤ 60 := by omega
  simp [okL, h1, h2, this]
theorem zc1 {o : List Lbl} {k : Nat} {y : Lbl} (h : (0 : Int) < ((k : Nat) : Int)) (hy : o[k - 1]? = some y) : zdQ o k = some y.n := by
  cases k with
  | zero => simp at h
  | succ k => simp at hy; simp [zdQ, hy]
theorem prevN_zero {o : List Lbl} {k : Nat} (h : ¬ (0 : Int) < ((k : Nat) : Int)) : zdQ o k = none := by
  have : k = 0 := by omega
  subst this; rfl
theorem drop_at {α : Type} {o : List α} {k : Nat} {x : α} (h : o[k]? = some x) : o.drop k = x :: o.drop (k + 1) := by
  obtain ⟨hk, e⟩ := List.getElem?_eq_some_iff.1 h
  rw [← e]; exact List.drop_eq_getElem_cons hk
theorem tidyAt_next {o : List Lbl} {k : Nat} {x : Lbl} (h : o[k]? = some x) : zbW o k = (okL x && (!decide (zdQ o k = some x.n) && zbW o (k + 1))) := by
  unfold zbW
  rw [drop_at h]
  simp only [zcm, zdQ, h, Option.map_some]
theorem tidyAt_end {o : List Lbl} {k : Nat} (h : o.length ≤ k) : zbW o k = true := by
  unfold zbW; rw [List.drop_eq_nil_iff.2 h]; rfl
section
variable {l : List Lbl} {k : Nat} {x : Lbl}
theorem tidy_ok (h : zaa l = false) : [] = zP l ∧ 1 = zaY l := by simp [zP, zaY, h]
theorem tidy_long (h : (8 : Int) < ((l.length : Nat) : Int)) : [] = zP l ∧ 1 = zaY l := tidy_ok (by
  have : ¬ l.length ≤ 8 := by omega
  simp [zaa, this])
theorem zbb (hk : zdn (zR zN l) = zbW (zR zN l) k) (hx : (zR zN l)[k]? = some x) (h : okL x = false) : [] = zP l ∧ 1 = zaY l := tidy_ok (by simp [zaa, hk, tidyAt_next hx, h])
theorem tidy_bad2 (hk : zdn (zR zN l) = zbW (zR zN l) k) (hx : (zR zN l)[k]? = some x) {n : ByteArray} (h : zdQ (zR zN l) k = some n) (hn : n = x.n) : [] = zP l ∧ 1 = zaY l := tidy_ok (by simp [zaa, hk, tidyAt_next hx, h, hn])
theorem tidy_good (hk : zdn (zR zN l) = zbW (zR zN l) k) (hx : (zR zN l).length ≤ k) (h : l.length ≤ 8) : zR zN l = zP l ∧ 0 = zaY l := by
  have : zaa l = true := by simp [zaa, hk, tidyAt_end hx, h]
  simp [zP, zaY, this]
theorem tidy_step0 (hk : zdn (zR zN l) = zbW (zR zN l) k) (hx : (zR zN l)[k]? = some x) (h : okL x = true) (hp : zdQ (zR zN l) k = none) : zdn (zR zN l) = zbW (zR zN l) (k + 1) := by
  rw [hk, tidyAt_next hx, h, hp]; simp
theorem tidy_step (hk : zdn (zR zN l) = zbW (zR zN l) k) (hx : (zR zN l)[k]? = some x) (h : okL x = true) {n : ByteArray} (hp : zdQ (zR zN l) k = some n) (hn : ¬ n = x.n) : zdn (zR zN l) = zbW (zR zN l) (k + 1) := by
  rw [hk, tidyAt_next hx, h, hp]; simp [hn]
end

/-! ### picking -/
def hasN (ns : List ByteArray) (n : ByteArray) : Bool := ns.any (fun m => decide (m = n))
def zaQ (l : List Lbl) (ns : List ByteArray) (w : Bool) : List Lbl := l.filter (fun x => hasN ns x.n == w)
def idxN (n : ByteArray) : Nat → List ByteArray → Int
  | _, [] => -1
  | k, m :: r => if n = m then (k : Int) else idxN n (k + 1) r
theorem idxN_has (n : ByteArray) : ∀ (ns : List ByteArray) (k : Nat), decide (0 ≤ idxN n k ns) = hasN ns n
  | [], k => rfl
  | m :: r, k => by
    unfold idxN hasN
    by_cases h : n = m
    · have h0 : (0 : Int) ≤ (k : Nat) := by omega
      simp [h, h0]
    · have h' : ¬ m = n := fun e => h e.symm
      have := idxN_has n r (k + 1)
      unfold hasN at this
      rw [if_neg h, this]; simp [h']
theorem idxN_at {n m : ByteArray} {ns : List ByteArray} {k : Nat} (hm : ns[k]? = some m) (h : idxN n 0 ns = idxN n k (ns.drop k)) (e : n = m) : ((k : Nat) : Int) = idxN n 0 ns := by
  rw [h, drop_at hm]; unfold idxN; rw [if_pos e]
theorem idxN_next {n m : ByteArray} {ns : List ByteArray} {k : Nat} (hm : ns[k]? = some m) (h : idxN n 0 ns = idxN n k (ns.drop k)) (e : ¬ n = m) : idxN n 0 ns = idxN n (k + 1) (ns.drop (k + 1)) := by
  rw [h, drop_at hm]; conv => lhs; unfold idxN
  rw [if_neg e]
theorem idxN_end {n : ByteArray} {ns : List ByteArray} {k : Nat} (hk : ns.length ≤ k) (h : idxN n 0 ns = idxN n k (ns.drop k)) : -1 = idxN n 0 ns := by
  rw [h, List.drop_eq_nil_iff.2 hk]; rfl
theorem pickL_snoc {l : List Lbl} {ns : List ByteArray} {w : Bool} {k : Nat} {x : Lbl} (hx : l[k]? = some x) (h : (hasN ns x.n == w) = true) : zaQ (l.take (k + 1)) ns w = zaQ (l.take k) ns w ++ [x] := by
  rw [z0 hx]; unfold zaQ; rw [List.filter_append]; simp [h]
theorem pickL_skip {l : List Lbl} {ns : List ByteArray} {w : Bool} {k : Nat} {x : Lbl} (hx : l[k]? = some x) (h : (hasN ns x.n == w) = false) : zaQ (l.take (k + 1)) ns w = zaQ (l.take k) ns w := by
  rw [z0 hx]; unfold zaQ; rw [List.filter_append]; simp [h]
theorem zbB (l : List Lbl) (ns : List ByteArray) (w : Bool) : (zaQ l ns w).length ≤ l.length := List.length_filter_le _ _
end Lp
/- Walks, printed by a program of mine. -/
set_option linter.unusedSimpArgs false
set_option linter.unusedVariables false
set_option maxHeartbeats 4000000
set_option maxRecDepth 100000
namespace Lp
open Go Go.RowKit Go.Proofs

namespace HdYtfjinapgehafiaaGreatV6
theorem cv_207_5 {a : Int} (h : 0 ≤ a ∧ a ≤ 255) : ∀ w, (convert 207 5 (.int .u64 a)).run Tryz.prog w = .ok (.int .u8 a) w := fun w => by
  have e : IntKind.u8.wrap a = a := by simp [IntKind.wrap, IntKind.bits, IntKind.signed]; omega
  simp [convert, run_underlying (show Tryz.prog.underlying 207 = some _ by kernel_rfl), run_underlying (show Tryz.prog.underlying 5 = some _ by kernel_rfl), Conv.intToInt, e]
theorem zde {a : Int} (h : 0 ≤ a ∧ a ≤ 18446744073709551615) : ∀ w, (convert 3 165 (.int .i64 a)).run Tryz.prog w = .ok (.int .u64 a) w := fun w => by
  have e : IntKind.u64.wrap a = a := by simp [IntKind.wrap, IntKind.bits, IntKind.signed]; omega
  simp [convert, run_underlying (show Tryz.prog.underlying 3 = some _ by kernel_rfl), run_underlying (show Tryz.prog.underlying 165 = some _ by kernel_rfl), Conv.intToInt, e]
theorem cv_5_3 {a : Int} (h : -9223372036854775808 ≤ a ∧ a ≤ 9223372036854775807) : ∀ w, (convert 5 3 (.int .u8 a)).run Tryz.prog w = .ok (.int .i64 a) w := fun w => by
  have e : IntKind.i64.wrap a = a := by exact w64 (by omega)
  simp [convert, run_underlying (show Tryz.prog.underlying 5 = some _ by kernel_rfl), run_underlying (show Tryz.prog.underlying 3 = some _ by kernel_rfl), Conv.intToInt, e]
theorem eqn_50 (x : Operand) (A : Option Addr) (n c : Nat) (w : World) : (do eqGuard .eql 50 x (.const (.slice none 0 0)) (.slice A n c) (.slice none 0 0); binOp .eql 50 (.slice A n c) (.slice none 0 0) : Sem Value).run Tryz.prog w = .ok (.bool A.isNone) w := by cases A <;> kernel_rfl
theorem zax (b o : Nat) : ∀ w, (Instr.fieldAt 62 (.pointer (some ⟨b, o, none⟩)) 0).run Tryz.prog w = .ok (.pointer (some ⟨b, o + 0, none⟩)) w := fun _ => by kernel_rfl
theorem za3 (b o : Nat) : ∀ w, (Instr.fieldAt 62 (.pointer (some ⟨b, o, none⟩)) 1).run Tryz.prog w = .ok (.pointer (some ⟨b, o + 1, none⟩)) w := fun _ => by kernel_rfl
theorem zbF : ∃ i, Tryz.prog.info? 62 = some i ∧ i.zero = some (.agg #[(.string ByteArray.empty), (.string ByteArray.empty)]) ∧ i.size = 2 ∧ i.bytes = 32 := zaS (by kernel_rfl)
theorem zb4 : Tryz.prog.underlying 50 = some (.slice 62) := by kernel_rfl
end HdYtfjinapgehafiaaGreatV6
open HdYtfjinapgehafiaaGreatV6

theorem len64_c (x : Nat) (hx : x < 256) :
    CD Tryz.prog 182 [] [.v (.int .u64 ((x : Nat) : Int))] (fun r H' => ∃ k : Nat, r = dN k ∧ H' = []) := by
  refine zy Tryz.func182 rfl (N := 25) rfl rfl (fun C => ?_)
  refine jk [0] rfl (jT rfl (oR 1 rfl (oZ rfl (jS rfl (jT rfl (oR 1 rfl (oP rfl (z8 rfl rfl rfl) (oZ rfl ?_))))))))
  refine jD rfl (fun hc1 => ?_) (fun hc1 => ?_)
  · skip
    exfalso; omega
  · skip
    refine zq rfl (zc (jS rfl (jT rfl (oR 1 rfl (oP rfl (z8 rfl rfl rfl) (oZ rfl ?_))))))
    refine jD rfl (fun hc2 => ?_) (fun hc2 => ?_)
    · skip
      exfalso; omega
    · skip
      refine zq rfl (zc (jS rfl (jT rfl (oR 1 rfl (oP rfl (z8 rfl rfl rfl) (oZ rfl ?_))))))
      refine jD rfl (fun hc3 => ?_) (fun hc3 => ?_)
      · skip
        exfalso; omega
      · skip
        refine zq rfl (zc (jT rfl (oR 2 rfl (oP rfl (zaM rfl (c := ((x : Nat) : Int)) (cv_207_5 (by omega))) ?_))))
        obtain ⟨u1, hu1⟩ := get_byte (⟨#[0, 1, 2, 2, 3, 3, 3, 3, 4, 4, 4, 4, 4, 4, 4, 4, 5, 5, 5, 5, 5, 5, 5, 5, 5, 5, 5, 5, 5, 5, 5, 5, 6, 6, 6, 6, 6, 6, 6, 6, 6, 6, 6, 6, 6, 6, 6, 6, 6, 6, 6, 6, 6, 6, 6, 6, 6, 6, 6, 6, 6, 6, 6, 6, 7, 7, 7, 7, 7, 7, 7, 7, 7, 7, 7, 7, 7, 7, 7, 7, 7, 7, 7, 7, 7, 7, 7, 7, 7, 7, 7, 7, 7, 7, 7, 7, 7, 7, 7, 7, 7, 7, 7, 7, 7, 7, 7, 7, 7, 7, 7, 7, 7, 7, 7, 7, 7, 7, 7, 7, 7, 7, 7, 7, 7, 7, 7, 7, 8, 8, 8, 8, 8, 8, 8, 8, 8, 8, 8, 8, 8, 8, 8, 8, 8, 8, 8, 8, 8, 8, 8, 8, 8, 8, 8, 8, 8, 8, 8, 8, 8, 8, 8, 8, 8, 8, 8, 8, 8, 8, 8, 8, 8, 8, 8, 8, 8, 8, 8, 8, 8, 8, 8, 8, 8, 8, 8, 8, 8, 8, 8, 8, 8, 8, 8, 8, 8, 8, 8, 8, 8, 8, 8, 8, 8, 8, 8, 8, 8, 8, 8, 8, 8, 8, 8, 8, 8, 8, 8, 8, 8, 8, 8, 8, 8, 8, 8, 8, 8, 8, 8, 8, 8, 8, 8, 8, 8, 8, 8, 8, 8, 8, 8, 8, 8, 8, 8, 8, 8, 8, 8, 8, 8, 8, 8, 8]⟩ : ByteArray) x (by show _ < 256; omega)
        have hlu1 := u1.toNat_lt
        refine oP rfl (zcp (k := x) rfl rfl Tryz.runUnderlying9 (by first | rfl | omega) hu1) (oP rfl (zaM rfl (c := ((u1.toNat : Nat) : Int)) (cv_5_3 (by omega))) (oP rfl (zS (c := ((0 + u1.toNat : Nat) : Int)) rfl rfl (zF (by omega) (by omega))) (oR 1 rfl (oZ rfl (jk [2] rfl (zs rfl ?_))))))
        exact zj Tryz.results182 (.cons (zf rfl) .nil) rfl (HSub.fst 0 rfl) ⟨_, rfl, rfl⟩

theorem len_c (x : Nat) (hx : x < 256) :
    CD Tryz.prog 145 [] [.v (.int .u64 ((x : Nat) : Int))] (fun r H' => ∃ k : Nat, r = dN k ∧ H' = []) := by
  refine zy Tryz.func145 rfl (N := 8) rfl rfl (fun C => ?_)
  refine jk [0] rfl (jT rfl (oR 1 rfl (oZ rfl (jS rfl (jCf rfl (zq rfl (zc (jT rfl (oR 1 rfl (oE rfl (zx [] [] [] rfl rfl (.cons ArgC.id .nil) zo Tryz.call182 (len64_c x (by omega)) (.inl rfl)) ?_))))))))))
  rintro _ _ ⟨_, ⟨k, rfl, rfl⟩, rfl⟩
  refine on rfl (oR 1 rfl (oZ rfl (zs rfl ?_)))
  exact zj Tryz.results145 (.cons (zf rfl) .nil) rfl (HSub.fst 0 rfl) ⟨_, rfl, rfl⟩

theorem cloneL_c (l : List Lbl) (hl : l.length ≤ 1000000) :
    CD Tryz.prog 108 [] [.sh 2 (l.map Lbl.d)] (zc7 2 62 (l.map Lbl.d)) := by
  refine zy Tryz.func108 rfl (N := 8) rfl rfl (fun C => ?_)
  refine jk [0] rfl ?_
  refine JD.bd 0 rfl (fun bd0 => ?_)
  have nl0 := zZ bd0
  refine jT rfl (oR 1 rfl (oZ rfl (jS rfl (jT rfl (oR 1 rfl (oE rfl (ef_isNil rfl (eqn_50 _)) ?_))))))
  rintro _ _ ⟨b1, rfl, rfl, hb1⟩
  refine oZ rfl ?_
  refine jC rfl (fun hc2 => ?_) (fun hc2 => ?_)
  · skip
    refine jT rfl (oR 1 rfl (oZ rfl (zs rfl (ze ?_))))
    refine PD.drop (PD.subH (HSub.nil 2 62) ?_)
    refine PD.subH (HSub.turn (h' := .sl (.slice none 0 0) 2 62 (l.map Lbl.d)) rfl (Hp.eq_sl (show List.map Lbl.d [] = List.map Lbl.d l from congrArg _ (by exact (List.map_eq_nil_iff.1 (hb1 hc2)).symm)))) ?_
    exact zbP Tryz.results108 (.cons (zB (zf rfl) (Cv.ov rfl)) .nil) rfl ⟨_, rfl, rfl⟩
  · skip
    refine zq rfl (zc (jT rfl (oE rfl (ef_buildSlice0 Tryz.runUnderlying50 Tryz.sizeOf62) ?_)))
    rintro _ _ ⟨g3, rfl, rfl⟩
    refine oR 1 rfl (oE rfl (zK (f := Lbl.d) (l := []) (l' := l) (i := 0) rfl rfl rfl (SrcD.sh) zb4 zbF rfl rfl (by unfold maxLen; (try simp only [la, lc, ln, lm, lt', ld, ls, lr]); omega) (by (try simp only [la, lc, ln, lm, lt', ld, ls, lr]); omega)) ?_)
    rintro _ _ ⟨v4, rfl, rfl⟩
    refine on rfl (oR 1 rfl (oZ rfl (zs rfl (PD.subH (HSub.less (zbu (i := 0) rfl)) (PD.subH (HSub.turn (h' := .sl v4 2 62 (l.map Lbl.d)) rfl (Hp.eq_sl (show List.map Lbl.d ([] ++ l) = List.map Lbl.d l from congrArg _ (by rfl)))) ?_)))))
    exact zbP Tryz.results108 (.cons (zf rfl) .nil) rfl ⟨_, rfl, rfl⟩

theorem insortL_c (v : Value) (l : List Lbl) (a b : Nat) (ha : a ≤ 1000000) (hb : b ≤ l.length) (hl : l.length ≤ 1000000) :
    CD Tryz.prog 222 [.sl v 2 62 (l.map Lbl.d)] [.ov v, dN a, dN b, .fn 154 [] []] (fun r H' => r = .tup [] ∧ H' = [.sl v 2 62 ((isrt zN a b b (a + 1) l).map Lbl.d)]) := by
  refine zy Tryz.func222 rfl (N := 53) rfl rfl (fun C => ?_)
  refine jk [0, 1, 2, 3] rfl (jT rfl (oR 1 rfl (oP rfl (zS (c := ((a + 1 : Nat) : Int)) rfl rfl (zF (by omega) (by omega))) (oR 1 rfl (oZ rfl (jB rfl (jl3 (fun (a_ : Nat) (b_ : Nat) (c_ : List Lbl) => [(0, .ov v), (1, dN a), (2, dN b), (3, .fn 154 [] []), (8, dN a_)]) (fun a_ b_ c_ => [.sl v 2 62 (c_.map Lbl.d)]) (fun a_ b_ c_ => (a + 1 ≤ a_) ∧ (b ≤ a_ + b_) ∧ ((c_).length = l.length) ∧ (isrt zN a b b_ (a_) c_ = isrt zN a b b (a + 1) l)) (fun a_ b_ c_ => b - a_) (a + 1) b l rfl (sa rfl) HSub.rfl' ⟨Nat.le_refl _, by show b ≤ a + 1 + b; omega, rfl, rfl⟩ ?_)))))))
  rintro i n L ⟨hi, hn, hL, hr⟩
  refine ja rfl (jn rfl (jS rfl (jT rfl (oR 2 rfl (oP rfl (zL rfl rfl rfl) (oZ rfl ?_))))))
  refine jD rfl (fun hc1 => ?_) (fun hc1 => ?_)
  · skip
    refine zq rfl (zc (jS rfl (jB rfl (jT rfl (oR 2 rfl (oZ rfl (jB rfl (jl2 (fun (a_ : Nat) (b_ : List Lbl) => [(0, .ov v), (1, dN a), (2, dN b), (3, .fn 154 [] []), (8, dN i), (12, dN i), (13, dN b), (14, dB (decide (((i : Nat) : Int) < ((b : Nat) : Int)))), (17, dN i), (9, dN a_)]) (fun a_ b_ => [.sl v 2 62 (b_.map Lbl.d)]) (fun a_ b_ => (a_ ≤ i) ∧ ((b_).length = l.length) ∧ (bub zN a (a_) b_ = bub zN a i L)) (fun a_ b_ => a_) i L rfl (sa rfl) HSub.rfl' ⟨Nat.le_refl _, hL, rfl⟩ ?_))))))))
    rintro j M ⟨hj, hlM, hM⟩
    refine ja rfl (jn rfl (jS rfl (jS rfl ?_)))
    by_cases hg2 : ((a : Nat) : Int) < ((j : Nat) : Int)
    · skip
      refine jk [0, 1, 2, 3, 8, 9, 12, 13, 14, 17] rfl (jn rfl ?_)
      obtain ⟨x1, hx1⟩ := zG M j (by (try simp only [ls]); omega)
      obtain ⟨x2, hx2⟩ := zG M (j - 1) (by (try simp only [ls]); omega)
      refine z3 14 [(18, dN j, none), (19, dN a, none), (20, dB true, none), (21, dB true, none), (22, .fn 154 [] [], none), (23, .ov v, none), (24, dN j, none), (25, .v (.pointer (some ⟨bl v, j * 2 + 0, none⟩)), none), (26, Lbl.d x1, none), (27, .ov v, none), (28, dN j, none), (29, dN (j - 1), none), (30, .v (.pointer (some ⟨bl v, (j - 1) * 2 + 0, none⟩)), none), (31, Lbl.d x2, none)] [.sl v 2 62 (M.map Lbl.d)] (Hn := [.sl v 2 62 (M.map Lbl.d)]) zah rfl rfl rfl rfl HSub.rfl' rfl ⟨sa_p rfl rfl rfl (zm rfl), sa_p rfl rfl rfl (zm rfl), sa_p rfl rfl rfl (zaz rfl rfl (decide_eq_true hg2)), sa_p rfl rfl rfl (zm rfl), zM rfl rfl rfl rfl rfl rfl (zm rfl).qu, zM rfl rfl rfl rfl rfl rfl (zm rfl).qu, zM rfl rfl rfl rfl rfl rfl (zm rfl).qu, zM rfl rfl rfl rfl rfl rfl (zA (k := j) (j := 0) rfl rfl rfl Tryz.runUnderlying50 Tryz.sizeOf62 (by first | rfl | omega) (zt hx1)).qu, zM rfl rfl rfl rfl rfl rfl (zai (d := Lbl.d x1) rfl (i := 0) rfl (zt hx1) Tryz.isAgg62 Tryz.sizeOf62 rfl rfl).qu, zM rfl rfl rfl rfl rfl rfl (zm rfl).qu, zM rfl rfl rfl rfl rfl rfl (zm rfl).qu, zM rfl rfl rfl rfl rfl rfl (zaG (c := ((j - 1 : Nat) : Int)) rfl rfl (zF (by omega) (by omega))).qu, zM rfl rfl rfl rfl rfl rfl (zA (k := j - 1) (j := 0) rfl rfl rfl Tryz.runUnderlying50 Tryz.sizeOf62 (by first | rfl | omega) (zt hx2)).qu, zM rfl rfl rfl rfl rfl rfl (zai (d := Lbl.d x2) rfl (i := 0) rfl (zt hx2) Tryz.isAgg62 Tryz.sizeOf62 rfl rfl).qu, trivial⟩ ?_
      refine ok [0, 1, 2, 3, 8, 9, 12, 13, 14, 17, 18, 19, 20, 21, 22, 23, 24, 25, 26, 27, 28, 29, 30, 31] rfl (oF rfl (zdd [] _ [] rfl rfl rfl (.cons ArgC.id (.cons ArgC.id .nil)) zo Tryz.call154 (order_c x1 x2) (.inl rfl)) ?_)
      rintro _ _ ⟨_, ⟨rfl, rfl⟩, rfl⟩
      refine on rfl (oG rfl (zL rfl rfl rfl) (oR 1 rfl (oZ rfl ?_)))
      refine jD rfl (fun hc3 => ?_) (fun hc3 => ?_)
      · skip
        refine zq rfl (zc (jS rfl (jB rfl (jk [0, 1, 2, 3, 8, 9, 12, 13, 14, 17, 18, 19, 20, 21, 22, 23, 24, 25, 26, 27, 28, 29, 30, 31, 32, 33, 34] rfl (jn rfl ?_)))))
        refine zbA 16 [(37, .q (.ov v)), (38, .q (dN j)), (39, .q (.ov v)), (40, .q (dN j)), (41, .q (dN (j - 1))), (42, .q (.ov v)), (43, .q (dN j)), (44, .q (dN (j - 1))), (45, .r (.v (.pointer (some ⟨bl v, (j - 1) * 2 + 0, none⟩)))), (46, .r (Lbl.d x2)), (47, .q (.ov v)), (48, .q (dN j)), (49, .r (.v (.pointer (some ⟨bl v, j * 2 + 0, none⟩)))), (50, .r (Lbl.d x1)), (51, .r (.v (.pointer (some ⟨bl v, j * 2 + 0, none⟩)))), (68, .s (fun γ => [.sl v 2 62 ((M.set j x2).map Lbl.d)]))] [] (Hn := fun γ => [.sl v 2 62 ((M.set j x2).map Lbl.d)]) zah rfl rfl (by kernel_rfl) (by kernel_rfl) (by kernel_rfl) HSub.none (fun _ => rfl) (fun γ => ⟨so_p rfl rfl rfl (zm rfl), so_p rfl rfl rfl (zm rfl), so_p rfl rfl rfl (zm rfl), so_p rfl rfl rfl (zm rfl), so_p rfl rfl rfl (zaG (c := ((j - 1 : Nat) : Int)) rfl rfl (zF (by omega) (by omega))), so_p rfl rfl rfl (zm rfl), so_p rfl rfl rfl (zm rfl), so_p rfl rfl rfl (zaG (c := ((j - 1 : Nat) : Int)) rfl rfl (zF (by omega) (by omega))), so_r rfl rfl rfl rfl (zA (k := j - 1) (j := 0) rfl rfl rfl Tryz.runUnderlying50 Tryz.sizeOf62 (by first | rfl | omega) (zt hx2)), so_r rfl rfl rfl rfl (zai (d := Lbl.d x2) rfl (i := 0) rfl (zt hx2) Tryz.isAgg62 Tryz.sizeOf62 rfl rfl), so_p rfl rfl rfl (zm rfl), so_p rfl rfl rfl (zm rfl), so_r rfl rfl rfl rfl (zA (k := j) (j := 0) rfl rfl rfl Tryz.runUnderlying50 Tryz.sizeOf62 (by first | rfl | omega) (zt hx1)), so_r rfl rfl rfl rfl (zai (d := Lbl.d x1) rfl (i := 0) rfl (zt hx1) Tryz.isAgg62 Tryz.sizeOf62 rfl rfl), so_r rfl rfl rfl rfl (zA (k := j) (j := 0) rfl rfl rfl Tryz.runUnderlying50 Tryz.sizeOf62 (by first | rfl | omega) (zt hx1)), zep rfl rfl rfl rfl rfl ((zaT (f := Lbl.d) (k := j) (z := 2) (o := 0) (i := 0) (a' := x2) rfl rfl hx1 rfl (CellD.agg) Tryz.sizeOf62 rfl rfl rfl).mono (by rintro _ _ ⟨_, rfl⟩; rfl)) HSub.none, trivial⟩) (fun γ => ?_)
        refine ok [0, 1, 2, 3, 8, 9, 12, 13, 14, 17, 18, 19, 20, 21, 22, 23, 24, 25, 26, 27, 28, 29, 30, 31, 32, 33, 34, 37, 38, 39, 40, 41, 42, 43, 44, 45, 46, 47, 48, 49, 50, 51] rfl ?_
        obtain ⟨x3, hx3⟩ := zG (M.set j x2) (j - 1) (by (try simp only [ls]); omega)
        refine oP rfl (zA (k := j - 1) (j := 0) rfl rfl rfl Tryz.runUnderlying50 Tryz.sizeOf62 (by first | rfl | omega) (zt hx3)) (oE rfl (zaT (f := Lbl.d) (k := j - 1) (z := 2) (o := 0) (i := 0) (a' := x1) rfl rfl hx3 rfl (CellD.agg) Tryz.sizeOf62 rfl rfl rfl) ?_)
        rintro _ _ ⟨rfl, rfl⟩
        refine on rfl (zg rfl (zw (zc (za rfl (oR 1 rfl (oP rfl (zaG (c := ((j - 1 : Nat) : Int)) rfl rfl (zF (by omega) (by omega))) (oR 1 rfl (zg rfl ?_))))))))
        exact pl2 (j - 1) ((M.set j x2).set (j - 1) x1) (sa rfl) HSub.rfl' ⟨by omega, by simp only [ls]; omega, by rw [← hM]; exact (bub_lt' (by omega) hx1 hx2 hc3).symm⟩ (by omega)
      · skip
        refine zE rfl (zr (zn (zh (zw (zc (za rfl (oR 1 rfl (oP rfl (zS (c := ((i + 1 : Nat) : Int)) rfl rfl (zF (by omega) (by omega))) (oR 1 rfl (zg rfl ?_))))))))))
        exact pl3 (i + 1) (n - 1) M (sa rfl) HSub.rfl' ⟨by show a + 1 ≤ i + 1; omega, by show b ≤ i + 1 + (n - 1); omega, hlM, by show isrt zN a b (n - 1) (i + 1) M = _; have hb : bub zN a j M = M := bub_ge' hx1 hx2 hc3; rw [← hr]; obtain ⟨m, rfl⟩ : ∃ m, n = m + 1 := ⟨n - 1, by omega⟩; rw [zbI (by omega), ← hM, hb]; rfl⟩ (by omega)
    · skip
      refine jk [0, 1, 2, 3, 8, 9, 12, 13, 14, 17] rfl (jn rfl (z3 14 [(18, dN j, none), (19, dN a, none), (20, dB false, none), (21, dB false, none), (22, .v undef, none), (23, .v undef, none), (24, .v undef, none), (25, .v undef, none), (26, .v undef, none), (27, .v undef, none), (28, .v undef, none), (29, .v undef, none), (30, .v undef, none), (31, .v undef, none)] [.sl v 2 62 (M.map Lbl.d)] (Hn := [.sl v 2 62 (M.map Lbl.d)]) zah rfl rfl rfl rfl HSub.rfl' rfl ⟨sa_p rfl rfl rfl (zm rfl), sa_p rfl rfl rfl (zm rfl), sa_p rfl rfl rfl (zaz rfl rfl (decide_eq_false hg2)), sa_p rfl rfl rfl (zm rfl), sa_s rfl rfl rfl rfl rfl rfl (by decide), sa_s rfl rfl rfl rfl rfl rfl (by decide), sa_s rfl rfl rfl rfl rfl rfl (by decide), sa_s rfl rfl rfl rfl rfl rfl (by decide), sa_s rfl rfl rfl rfl rfl rfl (by decide), sa_s rfl rfl rfl rfl rfl rfl (by decide), sa_s rfl rfl rfl rfl rfl rfl (by decide), sa_s rfl rfl rfl rfl rfl rfl (by decide), sa_s rfl rfl rfl rfl rfl rfl (by decide), sa_s rfl rfl rfl rfl rfl rfl (by decide), trivial⟩ (ok [0, 1, 2, 3, 8, 9, 12, 13, 14, 17, 18, 19, 20, 21, 22, 23, 24, 25, 26, 27, 28, 29, 30, 31] rfl (oR 3 rfl (oZ rfl (jCf rfl (zE rfl (zr (zn (zh (zw (zc (za rfl (oR 1 rfl (oP rfl (zS (c := ((i + 1 : Nat) : Int)) rfl rfl (zF (by omega) (by omega))) (oR 1 rfl ?_))))))))))))))))
      refine zg rfl ?_
      exact pl3 (i + 1) (n - 1) M (sa rfl) HSub.rfl' ⟨by show a + 1 ≤ i + 1; omega, by show b ≤ i + 1 + (n - 1); omega, hlM, by show isrt zN a b (n - 1) (i + 1) M = _; have hb : bub zN a j M = M := bub_end (by omega); rw [← hr]; obtain ⟨m, rfl⟩ : ∃ m, n = m + 1 := ⟨n - 1, by omega⟩; rw [zbI (by omega), ← hM, hb]; rfl⟩ (by omega)
  · skip
    refine zE rfl (zr (zn (zh (PD.norm [.sl v 2 62 ((isrt zN a b b (a + 1) l).map Lbl.d)] (by rw [← hr, zbm (by omega)]) ?_))))
    exact zaR Tryz.results222 .nil rfl (HSub.fst 1 rfl) ⟨rfl, rfl⟩

theorem pdqL_c (v : Value) (l : List Lbl) (k : Nat) (hl : l.length ≤ 12) :
    CD Tryz.prog 205 [.sl v 2 62 (l.map Lbl.d)] [.ov v, dI 0, dN l.length, dN k, .fn 154 [] []] (fun r H' => r = .tup [] ∧ H' = [.sl v 2 62 ((zR zN l).map Lbl.d)]) := by
  refine zy Tryz.func205 rfl (N := 148) rfl rfl (fun C => ?_)
  refine jk [0, 1, 2, 3, 4] rfl (jT rfl (oR 1 rfl (oZ rfl (jT rfl (oR 1 rfl (oZ rfl (jB rfl (jl1 (fun (_ : Unit) => [(0, .ov v), (4, .fn 154 [] []), (1, dN 0), (2, dN l.length), (3, dN k), (10, dB true), (11, dB true)]) (fun _ => [.sl v 2 62 (l.map Lbl.d)]) (fun _ => True) (fun _ => 0) () rfl (sa rfl) HSub.rfl' trivial ?_))))))))
  rintro _ _
  refine ja rfl (jn rfl (jB rfl (jT rfl (oR 2 rfl (oP rfl (zaG (c := (((l.length : Nat) : Int) - ((0 : Nat) : Int))) rfl rfl (zF (by omega) (by omega))) (oR 1 rfl (oZ rfl (jS rfl (jT rfl (oR 1 rfl (oP rfl (zaK rfl rfl rfl) (oZ rfl ?_))))))))))))
  refine jD rfl (fun hc1 => ?_) (fun hc1 => ?_)
  · skip
    refine jT rfl (oR 4 rfl (oE rfl (zx [.sl v 2 62 (l.map Lbl.d)] [] [] rfl rfl (.cons ArgC.id (.cons ArgC.id (.cons ArgC.id (.cons ArgC.id .nil)))) zo Tryz.call222 (insortL_c v l 0 l.length (by omega) (by first | exact Nat.le_refl _ | omega) (by omega)) (.inl rfl)) ?_))
    rintro _ _ ⟨_, ⟨rfl, rfl⟩, rfl⟩
    refine on rfl (oZ rfl (zs rfl (ze (zi (zQ (zi (PD.norm [.sl v 2 62 ((zR zN l).map Lbl.d)] (by rw [isrt_all]) ?_)))))))
    exact zj Tryz.results205 .nil rfl (HSub.fst 1 rfl) ⟨rfl, rfl⟩
  · skip
    exfalso; omega

theorem sortL_c (v : Value) (l : List Lbl) (hl : l.length ≤ 12) :
    CD Tryz.prog 190 [.sl v 2 62 (l.map Lbl.d)] [.ov v, .fn 154 [] []] (fun r H' => r = .tup [] ∧ H' = [.sl v 2 62 ((zR zN l).map Lbl.d)]) := by
  refine zy Tryz.func190 rfl (N := 14) rfl rfl (fun C => ?_)
  refine jk [0, 1] rfl (jT rfl (oR 1 rfl (oP rfl (zY (n := l.length) (j := 0) rfl rfl Tryz.runUnderlying50 (List.length_map _)) (oR 1 rfl (oZ rfl (za rfl (oR 3 rfl (oP rfl (zaM rfl (c := ((l.length : Nat) : Int)) (zde (by omega))) (oE rfl (zx [] [.sl v 2 62 (l.map Lbl.d)] [] rfl rfl (.cons ArgC.id .nil) zo Tryz.call145 (len_c l.length (by omega)) (.inl rfl)) ?_)))))))))
  rintro _ _ ⟨_, ⟨k, rfl, rfl⟩, rfl⟩
  refine on rfl (oR 1 rfl (oE rfl (zx [.sl v 2 62 (l.map Lbl.d)] [] [] rfl rfl (.cons ArgC.id (.cons ArgC.id (.cons ArgC.id (.cons ArgC.id (.cons ArgC.id .nil))))) zo Tryz.call205 (pdqL_c v l k (by omega)) (.inl rfl)) ?_))
  rintro _ _ ⟨_, ⟨rfl, rfl⟩, rfl⟩
  refine on rfl (zg rfl ?_)
  exact zaR Tryz.results190 .nil rfl (HSub.fst 1 rfl) ⟨rfl, rfl⟩

theorem tidy_c (l : List Lbl)  :
    CD Tryz.prog 159 [] [.sh 2 (l.map Lbl.d)] (fun r H' => ∃ v0_, r = .tup [.ov v0_, dI (zaY l)] ∧ H' = [.sl v0_ 2 62 ((zP l).map Lbl.d)]) := by
  refine zy Tryz.func159 rfl (N := 53) rfl rfl (fun C => ?_)
  refine jk [0] rfl ?_
  refine JD.bd 0 rfl (fun bd0 => ?_)
  have nl0 := zZ bd0
  have hil := zcA (c := zN) _ l rfl
  refine jT rfl (oR 2 rfl (oZ rfl (jS rfl (jT rfl (oR 1 rfl (oP rfl (zae (n := l.length) rfl Tryz.runUnderlying50 (by simp only [lm, lc, ln])) (oP rfl (zaz rfl rfl rfl) (oZ rfl ?_))))))))
  refine jD rfl (fun hc1 => ?_) (fun hc1 => ?_)
  · skip
    refine jT rfl (oR 2 rfl (oZ rfl (zs rfl (ze (PD.subH (HSub.nil 2 62) (PD.norm [.sl (.slice none 0 0) 2 62 ((zP l).map Lbl.d)] (by have hw : [] = zP l := (by first | exact (tidy_long hc1).1 | exact (tidy_long hc1).2); rw [show ([] : List D) = List.map Lbl.d (zP l) from congrArg (List.map Lbl.d) hw]) ?_))))))
    exact zj Tryz.results159 (.cons (zB (zf rfl) (Cv.ov rfl)) (.cons (zB (zf rfl) (Cv.eq (congrArg (fun n => D.v (.int .i64 n)) (by first | exact (tidy_long hc1).1 | exact (tidy_long hc1).2)))) .nil)) rfl (HSub.fst 1 rfl) ⟨(.slice none 0 0), rfl, rfl⟩
  · skip
    refine zq rfl (zc (jT rfl (oR 1 rfl (oE rfl (zx [] _ [] rfl rfl (.cons ArgC.id .nil) zo Tryz.call108 (cloneL_c l (by omega)) (.inl rfl)) ?_))))
    rintro _ _ ⟨_, ⟨v2, rfl, rfl⟩, rfl⟩
    refine on rfl (oR 1 rfl (oZ rfl (jT rfl (oR 1 rfl (oE rfl (zx [.sl v2 2 62 (l.map Lbl.d)] [] [] rfl rfl (.cons ArgC.id (.cons ArgC.id .nil)) zo Tryz.call190 (sortL_c v2 l (by omega)) (.inl rfl)) ?_)))))
    rintro _ _ ⟨_, ⟨rfl, rfl⟩, rfl⟩
    refine on rfl (oZ rfl (jS rfl (jT rfl (oR 1 rfl (oP rfl (zY (n := (zR zN l).length) (j := 0) rfl rfl Tryz.runUnderlying50 (List.length_map _)) (oR 1 rfl (oZ rfl (jB rfl (jl1 (fun (a_ : Nat) => [(4, .ov v2), (14, .ov v2), (15, dN ((zR zN l).length)), (16, dN a_)]) (fun a_ => [.sl v2 2 62 ((zR zN l).map Lbl.d)]) (fun a_ => (zdn (zR zN l) = zbW (zR zN l) a_)) (fun a_ => l.length - a_) 0 rfl (sa rfl) HSub.rfl' rfl ?_)))))))))
    rintro k hk
    refine ja rfl (jn rfl (jT rfl (oP rfl (zL rfl rfl rfl) (oZ rfl (jS rfl ?_)))))
    refine jD rfl (fun hc3 => ?_) (fun hc3 => ?_)
    · skip
      refine zq rfl (zc (jS rfl (jB rfl (jT rfl (oR 1 rfl ?_)))))
      obtain ⟨x1, hx1⟩ := zG (zR zN l) k (by omega)
      refine oP rfl (zA (k := k) (j := 0) rfl rfl rfl Tryz.runUnderlying50 Tryz.sizeOf62 (by first | rfl | omega) (zt hx1)) (oP rfl (zai (d := Lbl.d x1) rfl (i := 0) rfl (zt hx1) Tryz.isAgg62 Tryz.sizeOf62 rfl rfl) (oE rfl (zaL (zv := (.agg #[(.string ByteArray.empty), (.string ByteArray.empty)])) Tryz.zeroValue62 ⟨rfl, rfl, trivial⟩ (Cv.vagg (by decide))) ?_))
      rintro _ _ ⟨g4, rfl, rfl⟩
      refine oR 1 rfl (oE rfl (z4 (i := 0) (X' := Lbl.d x1) rfl rfl rfl (CellD.agg) Tryz.sizeOf62 rfl rfl rfl) ?_)
      rintro _ _ ⟨rfl, rfl⟩
      refine on rfl (oZ rfl (jS rfl ?_))
      rcases Bool.eq_false_or_eq_true (zb8 x1.n) with hg5 | hg5
      · skip
        by_cases hg6 : x1.v = ByteArray.empty
        · skip
          refine jk [4, 5, 6, 14, 15, 16, 17, 18, 19, 20] rfl (jn rfl ?_)
          refine z3 27 [(21, dP g4 0, none), (22, .s x1.n, none), (23, dB true, none), (24, dB false, none), (25, dB false, none), (26, dP g4 1, none), (27, .s x1.v, none), (28, dB true, none), (29, dB true, none), (30, dB true, none), (31, .v undef, none), (32, .v undef, none), (33, .v undef, none), (34, .v undef, none), (35, dB true, none), (36, dB true, none), (37, .v undef, none), (38, .v undef, none), (39, .v undef, none), (40, .v undef, none), (41, .v undef, none), (42, .v undef, none), (43, .v undef, none), (44, .v undef, none), (45, .v undef, none), (46, .v undef, none), (47, .v undef, none)] [.bx g4 62 (Lbl.d x1), .sl v2 2 62 ((zR zN l).map Lbl.d)] (Hn := [.bx g4 62 (Lbl.d x1), .sl v2 2 62 ((zR zN l).map Lbl.d)]) zah rfl rfl rfl rfl HSub.rfl' rfl ⟨sa_p rfl rfl rfl (zl rfl zax rfl), sa_p rfl rfl rfl (zz rfl (i := 0) rfl Tryz.isAgg9 rfl), sa_q rfl rfl rfl ((zbw rfl (.cons Cv.rfl' .nil) Tryz.call191 (zei x1.n) zbn).cv (Cv.eq (congrArg (fun b => D.v (.bool b)) hg5))), sa_p rfl rfl rfl (zaP (q := true) rfl), sa_p rfl rfl rfl (zm rfl), zM rfl rfl rfl rfl rfl rfl (zl rfl za3 rfl).qu, zM rfl rfl rfl rfl rfl rfl (zz rfl (i := 0) rfl Tryz.isAgg9 rfl).qu, zM rfl rfl rfl rfl rfl rfl (z7 rfl rfl (decide_eq_true hg6)).qu, sa_p rfl rfl rfl (zco rfl rfl), sa_p rfl rfl rfl (zm rfl), sa_s rfl rfl rfl rfl rfl rfl (by decide), sa_s rfl rfl rfl rfl rfl rfl (by decide), sa_s rfl rfl rfl rfl rfl rfl (by decide), sa_s rfl rfl rfl rfl rfl rfl (by decide), sa_p rfl rfl rfl (p_pick_t rfl rfl), sa_p rfl rfl rfl (zm rfl), sa_s rfl rfl rfl rfl rfl rfl (by decide), sa_s rfl rfl rfl rfl rfl rfl (by decide), sa_s rfl rfl rfl rfl rfl rfl (by decide), sa_s rfl rfl rfl rfl rfl rfl (by decide), sa_s rfl rfl rfl rfl rfl rfl (by decide), sa_s rfl rfl rfl rfl rfl rfl (by decide), sa_s rfl rfl rfl rfl rfl rfl (by decide), sa_s rfl rfl rfl rfl rfl rfl (by decide), sa_s rfl rfl rfl rfl rfl rfl (by decide), sa_s rfl rfl rfl rfl rfl rfl (by decide), sa_s rfl rfl rfl rfl rfl rfl (by decide), trivial⟩ ?_
          refine ok [4, 5, 6, 14, 15, 16, 17, 18, 19, 20, 21, 22, 23, 24, 25, 26, 27, 28, 29, 30, 31, 32, 33, 34, 35, 36, 37, 38, 39, 40, 41, 42, 43, 44, 45, 46, 47] rfl (oR 3 rfl (oZ rfl (jCt rfl (jT rfl (oR 2 rfl (oZ rfl (zs rfl (zi (ze (zQ (zi (ze (PD.subH (HSub.nil 2 62) (PD.norm [.sl (.slice none 0 0) 2 62 ((zP l).map Lbl.d), .bx g4 62 (Lbl.d x1), .sl v2 2 62 ((zR zN l).map Lbl.d)] (by have hw : [] = zP l := (by first | exact (zbb hk hx1 (zdy hg6)).1 | exact (zbb hk hx1 (zdy hg6)).2); rw [show ([] : List D) = List.map Lbl.d (zP l) from congrArg (List.map Lbl.d) hw]) ?_))))))))))))))
          exact zj Tryz.results159 (.cons (zB (zf rfl) (Cv.ov rfl)) (.cons (zB (zf rfl) (Cv.eq (congrArg (fun n => D.v (.int .i64 n)) (by first | exact (zbb hk hx1 (zdy hg6)).1 | exact (zbb hk hx1 (zdy hg6)).2)))) .nil)) rfl (HSub.fst 1 rfl) ⟨(.slice none 0 0), rfl, rfl⟩
        · skip
          by_cases hg7 : (60 : Int) < ((x1.v.size : Nat) : Int)
          · skip
            refine jk [4, 5, 6, 14, 15, 16, 17, 18, 19, 20] rfl (jn rfl ?_)
            refine z3 27 [(21, dP g4 0, none), (22, .s x1.n, none), (23, dB true, none), (24, dB false, none), (25, dB false, none), (26, dP g4 1, none), (27, .s x1.v, none), (28, dB false, none), (29, dB false, none), (30, dB false, none), (31, dP g4 1, none), (32, .s x1.v, none), (33, dN x1.v.size, none), (34, dB true, none), (35, dB true, none), (36, dB true, none), (37, .v undef, none), (38, .v undef, none), (39, .v undef, none), (40, .v undef, none), (41, .v undef, none), (42, .v undef, none), (43, .v undef, none), (44, .v undef, none), (45, .v undef, none), (46, .v undef, none), (47, .v undef, none)] [.bx g4 62 (Lbl.d x1), .sl v2 2 62 ((zR zN l).map Lbl.d)] (Hn := [.bx g4 62 (Lbl.d x1), .sl v2 2 62 ((zR zN l).map Lbl.d)]) zah rfl rfl rfl rfl HSub.rfl' rfl ⟨sa_p rfl rfl rfl (zl rfl zax rfl), sa_p rfl rfl rfl (zz rfl (i := 0) rfl Tryz.isAgg9 rfl), sa_q rfl rfl rfl ((zbw rfl (.cons Cv.rfl' .nil) Tryz.call191 (zei x1.n) zbn).cv (Cv.eq (congrArg (fun b => D.v (.bool b)) hg5))), sa_p rfl rfl rfl (zaP (q := true) rfl), sa_p rfl rfl rfl (zm rfl), zM rfl rfl rfl rfl rfl rfl (zl rfl za3 rfl).qu, zM rfl rfl rfl rfl rfl rfl (zz rfl (i := 0) rfl Tryz.isAgg9 rfl).qu, zM rfl rfl rfl rfl rfl rfl (z7 rfl rfl (decide_eq_false hg6)).qu, sa_p rfl rfl rfl (zco rfl rfl), sa_p rfl rfl rfl (zm rfl), zM rfl rfl rfl rfl rfl rfl (zl rfl za3 rfl).qu, zM rfl rfl rfl rfl rfl rfl (zz rfl (i := 0) rfl Tryz.isAgg9 rfl).qu, zM rfl rfl rfl rfl rfl rfl (zas rfl Tryz.runUnderlying9).qu, zM rfl rfl rfl rfl rfl rfl (zaz rfl rfl (decide_eq_true hg7)).qu, sa_p rfl rfl rfl (zco rfl rfl), sa_p rfl rfl rfl (zm rfl), sa_s rfl rfl rfl rfl rfl rfl (by decide), sa_s rfl rfl rfl rfl rfl rfl (by decide), sa_s rfl rfl rfl rfl rfl rfl (by decide), sa_s rfl rfl rfl rfl rfl rfl (by decide), sa_s rfl rfl rfl rfl rfl rfl (by decide), sa_s rfl rfl rfl rfl rfl rfl (by decide), sa_s rfl rfl rfl rfl rfl rfl (by decide), sa_s rfl rfl rfl rfl rfl rfl (by decide), sa_s rfl rfl rfl rfl rfl rfl (by decide), sa_s rfl rfl rfl rfl rfl rfl (by decide), sa_s rfl rfl rfl rfl rfl rfl (by decide), trivial⟩ ?_
            refine ok [4, 5, 6, 14, 15, 16, 17, 18, 19, 20, 21, 22, 23, 24, 25, 26, 27, 28, 29, 30, 31, 32, 33, 34, 35, 36, 37, 38, 39, 40, 41, 42, 43, 44, 45, 46, 47] rfl (oR 3 rfl (oZ rfl (jCt rfl (jT rfl (oR 2 rfl (oZ rfl (zs rfl (zi (ze (zQ (zi (ze (PD.subH (HSub.nil 2 62) (PD.norm [.sl (.slice none 0 0) 2 62 ((zP l).map Lbl.d), .bx g4 62 (Lbl.d x1), .sl v2 2 62 ((zR zN l).map Lbl.d)] (by have hw : [] = zP l := (by first | exact (zbb hk hx1 (zdx hg7)).1 | exact (zbb hk hx1 (zdx hg7)).2); rw [show ([] : List D) = List.map Lbl.d (zP l) from congrArg (List.map Lbl.d) hw]) ?_))))))))))))))
            exact zj Tryz.results159 (.cons (zB (zf rfl) (Cv.ov rfl)) (.cons (zB (zf rfl) (Cv.eq (congrArg (fun n => D.v (.int .i64 n)) (by first | exact (zbb hk hx1 (zdx hg7)).1 | exact (zbb hk hx1 (zdx hg7)).2)))) .nil)) rfl (HSub.fst 1 rfl) ⟨(.slice none 0 0), rfl, rfl⟩
          · skip
            by_cases hg8 : (0 : Int) < ((k : Nat) : Int)
            · skip
              refine jk [4, 5, 6, 14, 15, 16, 17, 18, 19, 20] rfl (jn rfl ?_)
              obtain ⟨x2, hx2⟩ := zG (zR zN l) (k - 1) (by omega)
              refine z3 27 [(21, dP g4 0, none), (22, .s x1.n, none), (23, dB true, none), (24, dB false, none), (25, dB false, none), (26, dP g4 1, none), (27, .s x1.v, none), (28, dB false, none), (29, dB false, none), (30, dB false, none), (31, dP g4 1, none), (32, .s x1.v, none), (33, dN x1.v.size, none), (34, dB false, none), (35, dB false, none), (36, dB false, none), (37, dN k, none), (38, dB true, none), (39, dB true, none), (40, .ov v2, none), (41, dN k, none), (42, dN (k - 1), none), (43, .v (.pointer (some ⟨bl v2, (k - 1) * 2 + 0, none⟩)), none), (44, .v (.pointer (some ⟨bl v2, (k - 1) * 2 + 0, none⟩)), none), (45, .s x2.n, none), (46, dP g4 0, none), (47, .s x1.n, none)] [.bx g4 62 (Lbl.d x1), .sl v2 2 62 ((zR zN l).map Lbl.d)] (Hn := [.bx g4 62 (Lbl.d x1), .sl v2 2 62 ((zR zN l).map Lbl.d)]) zah rfl rfl rfl rfl HSub.rfl' rfl ⟨sa_p rfl rfl rfl (zl rfl zax rfl), sa_p rfl rfl rfl (zz rfl (i := 0) rfl Tryz.isAgg9 rfl), sa_q rfl rfl rfl ((zbw rfl (.cons Cv.rfl' .nil) Tryz.call191 (zei x1.n) zbn).cv (Cv.eq (congrArg (fun b => D.v (.bool b)) hg5))), sa_p rfl rfl rfl (zaP (q := true) rfl), sa_p rfl rfl rfl (zm rfl), zM rfl rfl rfl rfl rfl rfl (zl rfl za3 rfl).qu, zM rfl rfl rfl rfl rfl rfl (zz rfl (i := 0) rfl Tryz.isAgg9 rfl).qu, zM rfl rfl rfl rfl rfl rfl (z7 rfl rfl (decide_eq_false hg6)).qu, sa_p rfl rfl rfl (zco rfl rfl), sa_p rfl rfl rfl (zm rfl), zM rfl rfl rfl rfl rfl rfl (zl rfl za3 rfl).qu, zM rfl rfl rfl rfl rfl rfl (zz rfl (i := 0) rfl Tryz.isAgg9 rfl).qu, zM rfl rfl rfl rfl rfl rfl (zas rfl Tryz.runUnderlying9).qu, zM rfl rfl rfl rfl rfl rfl (zaz rfl rfl (decide_eq_false hg7)).qu, sa_p rfl rfl rfl (zco rfl rfl), sa_p rfl rfl rfl (zm rfl), zM rfl rfl rfl rfl rfl rfl (zm rfl).qu, zM rfl rfl rfl rfl rfl rfl (zaz rfl rfl (decide_eq_true hg8)).qu, zM rfl rfl rfl rfl rfl rfl (zm rfl).qu, zM rfl rfl rfl rfl rfl rfl (zm rfl).qu, zM rfl rfl rfl rfl rfl rfl (zm rfl).qu, zM rfl rfl rfl rfl rfl rfl (zaG (c := ((k - 1 : Nat) : Int)) rfl rfl (zF (by omega) (by omega))).qu, zM rfl rfl rfl rfl rfl rfl (zA (k := k - 1) (j := 1) rfl rfl rfl Tryz.runUnderlying50 Tryz.sizeOf62 (by first | rfl | omega) (zt hx2)).qu, zM rfl rfl rfl rfl rfl rfl (zl rfl zax rfl).qu, zM rfl rfl rfl rfl rfl rfl (z5 rfl (i := 1) rfl (zt hx2) Tryz.isAgg9 rfl).qu, zM rfl rfl rfl rfl rfl rfl (zl rfl zax rfl).qu, zM rfl rfl rfl rfl rfl rfl (zz rfl (i := 0) rfl Tryz.isAgg9 rfl).qu, trivial⟩ ?_
              refine ok [4, 5, 6, 14, 15, 16, 17, 18, 19, 20, 21, 22, 23, 24, 25, 26, 27, 28, 29, 30, 31, 32, 33, 34, 35, 36, 37, 38, 39, 40, 41, 42, 43, 44, 45, 46, 47] rfl (oG rfl (z7 rfl rfl rfl) (oR 2 rfl (oZ rfl ?_)))
              refine jD rfl (fun hc9 => ?_) (fun hc9 => ?_)
              · skip
                refine jT rfl (oR 2 rfl (oZ rfl (zs rfl (zi (ze (zQ (zi (ze (PD.subH (HSub.nil 2 62) (PD.norm [.sl (.slice none 0 0) 2 62 ((zP l).map Lbl.d), .bx g4 62 (Lbl.d x1), .sl v2 2 62 ((zR zN l).map Lbl.d)] (by have hw : [] = zP l := (by first | exact (tidy_bad2 hk hx1 (zc1 hg8 hx2) hc9).1 | exact (tidy_bad2 hk hx1 (zc1 hg8 hx2) hc9).2); rw [show ([] : List D) = List.map Lbl.d (zP l) from congrArg (List.map Lbl.d) hw]) ?_))))))))))
                exact zj Tryz.results159 (.cons (zB (zf rfl) (Cv.ov rfl)) (.cons (zB (zf rfl) (Cv.eq (congrArg (fun n => D.v (.int .i64 n)) (by first | exact (tidy_bad2 hk hx1 (zc1 hg8 hx2) hc9).1 | exact (tidy_bad2 hk hx1 (zc1 hg8 hx2) hc9).2)))) .nil)) rfl (HSub.fst 1 rfl) ⟨(.slice none 0 0), rfl, rfl⟩
              · skip
                refine zq rfl (zw (zc (za rfl (oP rfl (zS (c := ((k + 1 : Nat) : Int)) rfl rfl (zF (by omega) (by omega))) (oR 1 rfl (zg rfl ?_))))))
                exact pl1 (k + 1) (sa rfl) (HSub.lst 1 rfl) (tidy_step hk hx1 (okL_t hg5 hg6 hg7) (zc1 hg8 hx2) hc9) (by omega)
            · skip
              refine jk [4, 5, 6, 14, 15, 16, 17, 18, 19, 20] rfl (jn rfl ?_)
              refine z3 27 [(21, dP g4 0, none), (22, .s x1.n, none), (23, dB true, none), (24, dB false, none), (25, dB false, none), (26, dP g4 1, none), (27, .s x1.v, none), (28, dB false, none), (29, dB false, none), (30, dB false, none), (31, dP g4 1, none), (32, .s x1.v, none), (33, dN x1.v.size, none), (34, dB false, none), (35, dB false, none), (36, dB false, none), (37, dN k, none), (38, dB false, none), (39, dB false, none), (40, .v undef, none), (41, .v undef, none), (42, .v undef, none), (43, .v undef, none), (44, .v undef, none), (45, .v undef, none), (46, .v undef, none), (47, .v undef, none)] [.bx g4 62 (Lbl.d x1), .sl v2 2 62 ((zR zN l).map Lbl.d)] (Hn := [.bx g4 62 (Lbl.d x1), .sl v2 2 62 ((zR zN l).map Lbl.d)]) zah rfl rfl rfl rfl HSub.rfl' rfl ⟨sa_p rfl rfl rfl (zl rfl zax rfl), sa_p rfl rfl rfl (zz rfl (i := 0) rfl Tryz.isAgg9 rfl), sa_q rfl rfl rfl ((zbw rfl (.cons Cv.rfl' .nil) Tryz.call191 (zei x1.n) zbn).cv (Cv.eq (congrArg (fun b => D.v (.bool b)) hg5))), sa_p rfl rfl rfl (zaP (q := true) rfl), sa_p rfl rfl rfl (zm rfl), zM rfl rfl rfl rfl rfl rfl (zl rfl za3 rfl).qu, zM rfl rfl rfl rfl rfl rfl (zz rfl (i := 0) rfl Tryz.isAgg9 rfl).qu, zM rfl rfl rfl rfl rfl rfl (z7 rfl rfl (decide_eq_false hg6)).qu, sa_p rfl rfl rfl (zco rfl rfl), sa_p rfl rfl rfl (zm rfl), zM rfl rfl rfl rfl rfl rfl (zl rfl za3 rfl).qu, zM rfl rfl rfl rfl rfl rfl (zz rfl (i := 0) rfl Tryz.isAgg9 rfl).qu, zM rfl rfl rfl rfl rfl rfl (zas rfl Tryz.runUnderlying9).qu, zM rfl rfl rfl rfl rfl rfl (zaz rfl rfl (decide_eq_false hg7)).qu, sa_p rfl rfl rfl (zco rfl rfl), sa_p rfl rfl rfl (zm rfl), zM rfl rfl rfl rfl rfl rfl (zm rfl).qu, zM rfl rfl rfl rfl rfl rfl (zaz rfl rfl (decide_eq_false hg8)).qu, zM rfl rfl rfl rfl rfl rfl (zm rfl).qu, sa_s rfl rfl rfl rfl rfl rfl (by decide), sa_s rfl rfl rfl rfl rfl rfl (by decide), sa_s rfl rfl rfl rfl rfl rfl (by decide), sa_s rfl rfl rfl rfl rfl rfl (by decide), sa_s rfl rfl rfl rfl rfl rfl (by decide), sa_s rfl rfl rfl rfl rfl rfl (by decide), sa_s rfl rfl rfl rfl rfl rfl (by decide), sa_s rfl rfl rfl rfl rfl rfl (by decide), trivial⟩ ?_
              refine ok [4, 5, 6, 14, 15, 16, 17, 18, 19, 20, 21, 22, 23, 24, 25, 26, 27, 28, 29, 30, 31, 32, 33, 34, 35, 36, 37, 38, 39, 40, 41, 42, 43, 44, 45, 46, 47] rfl (oR 3 rfl (oZ rfl (jCf rfl (zq rfl (zw (zc (za rfl (oP rfl (zS (c := ((k + 1 : Nat) : Int)) rfl rfl (zF (by omega) (by omega))) (oR 1 rfl (zg rfl ?_))))))))))
              exact pl1 (k + 1) (sa rfl) (HSub.lst 1 rfl) (tidy_step0 hk hx1 (okL_t hg5 hg6 hg7) (prevN_zero hg8)) (by omega)
      · skip
        refine jk [4, 5, 6, 14, 15, 16, 17, 18, 19, 20] rfl (jn rfl ?_)
        refine z3 27 [(21, dP g4 0, none), (22, .s x1.n, none), (23, dB false, none), (24, dB true, none), (25, dB true, none), (26, .v undef, none), (27, .v undef, none), (28, .v undef, none), (29, dB true, none), (30, dB true, none), (31, .v undef, none), (32, .v undef, none), (33, .v undef, none), (34, .v undef, none), (35, dB true, none), (36, dB true, none), (37, .v undef, none), (38, .v undef, none), (39, .v undef, none), (40, .v undef, none), (41, .v undef, none), (42, .v undef, none), (43, .v undef, none), (44, .v undef, none), (45, .v undef, none), (46, .v undef, none), (47, .v undef, none)] [.bx g4 62 (Lbl.d x1), .sl v2 2 62 ((zR zN l).map Lbl.d)] (Hn := [.bx g4 62 (Lbl.d x1), .sl v2 2 62 ((zR zN l).map Lbl.d)]) zah rfl rfl rfl rfl HSub.rfl' rfl ⟨sa_p rfl rfl rfl (zl rfl zax rfl), sa_p rfl rfl rfl (zz rfl (i := 0) rfl Tryz.isAgg9 rfl), sa_q rfl rfl rfl ((zbw rfl (.cons Cv.rfl' .nil) Tryz.call191 (zei x1.n) zbn).cv (Cv.eq (congrArg (fun b => D.v (.bool b)) hg5))), sa_p rfl rfl rfl (zaP (q := false) rfl), sa_p rfl rfl rfl (zm rfl), sa_s rfl rfl rfl rfl rfl rfl (by decide), sa_s rfl rfl rfl rfl rfl rfl (by decide), sa_s rfl rfl rfl rfl rfl rfl (by decide), sa_p rfl rfl rfl (p_pick_t rfl rfl), sa_p rfl rfl rfl (zm rfl), sa_s rfl rfl rfl rfl rfl rfl (by decide), sa_s rfl rfl rfl rfl rfl rfl (by decide), sa_s rfl rfl rfl rfl rfl rfl (by decide), sa_s rfl rfl rfl rfl rfl rfl (by decide), sa_p rfl rfl rfl (p_pick_t rfl rfl), sa_p rfl rfl rfl (zm rfl), sa_s rfl rfl rfl rfl rfl rfl (by decide), sa_s rfl rfl rfl rfl rfl rfl (by decide), sa_s rfl rfl rfl rfl rfl rfl (by decide), sa_s rfl rfl rfl rfl rfl rfl (by decide), sa_s rfl rfl rfl rfl rfl rfl (by decide), sa_s rfl rfl rfl rfl rfl rfl (by decide), sa_s rfl rfl rfl rfl rfl rfl (by decide), sa_s rfl rfl rfl rfl rfl rfl (by decide), sa_s rfl rfl rfl rfl rfl rfl (by decide), sa_s rfl rfl rfl rfl rfl rfl (by decide), sa_s rfl rfl rfl rfl rfl rfl (by decide), trivial⟩ ?_
        refine ok [4, 5, 6, 14, 15, 16, 17, 18, 19, 20, 21, 22, 23, 24, 25, 26, 27, 28, 29, 30, 31, 32, 33, 34, 35, 36, 37, 38, 39, 40, 41, 42, 43, 44, 45, 46, 47] rfl (oR 3 rfl (oZ rfl (jCt rfl (jT rfl (oR 2 rfl (oZ rfl (zs rfl (zi (ze (zQ (zi (ze (PD.subH (HSub.nil 2 62) (PD.norm [.sl (.slice none 0 0) 2 62 ((zP l).map Lbl.d), .bx g4 62 (Lbl.d x1), .sl v2 2 62 ((zR zN l).map Lbl.d)] (by have hw : [] = zP l := (by first | exact (zbb hk hx1 (zdz hg5)).1 | exact (zbb hk hx1 (zdz hg5)).2); rw [show ([] : List D) = List.map Lbl.d (zP l) from congrArg (List.map Lbl.d) hw]) ?_))))))))))))))
        exact zj Tryz.results159 (.cons (zB (zf rfl) (Cv.ov rfl)) (.cons (zB (zf rfl) (Cv.eq (congrArg (fun n => D.v (.int .i64 n)) (by first | exact (zbb hk hx1 (zdz hg5)).1 | exact (zbb hk hx1 (zdz hg5)).2)))) .nil)) rfl (HSub.fst 1 rfl) ⟨(.slice none 0 0), rfl, rfl⟩
    · skip
      refine zE rfl (zr (zn (zh (zc (jT rfl (oR 3 rfl (oZ rfl (zs rfl (PD.norm [.sl v2 2 62 ((zP l).map Lbl.d)] (by have hw : (zR zN l) = zP l := (by first | exact (tidy_good hk (by omega) (by omega)).1 | exact (tidy_good hk (by omega) (by omega)).2); rw [hw]) ?_)))))))))
      exact zj Tryz.results159 (.cons (zf rfl) (.cons (zB (zf rfl) (Cv.eq (congrArg (fun n => D.v (.int .i64 n)) (by first | exact (tidy_good hk (by omega) (by omega)).1 | exact (tidy_good hk (by omega) (by omega)).2)))) .nil)) rfl (HSub.fst 1 rfl) ⟨v2, rfl, rfl⟩
end Lp
