/-
  Stable sorting in place, as plain data: parts that are put in order where they stand, blocks that change places, two sorted parts that are merged.
-/
import Derived.Lib.MakeNoZero
import Derived.Test.YtfjinapgehafiaaGreatV7
set_option linter.unusedVariables false
namespace Lp
open Go
section
variable {α : Type} {c : α → α → Int}

/-- the part of a list between two places -/
def seg (L : List α) (a b : Nat) : List α := (L.take b).drop a
/-- a part is put in order where it stands -/
def fixI (c : α → α → Int) (a b : Nat) (L : List α) : List α := L.take a ++ zt c (seg L a b) ++ L.drop b
/-- two blocks that stand side by side change places -/
def rotL (a m b : Nat) (L : List α) : List α := L.take a ++ seg L m b ++ seg L a m ++ L.drop b

theorem zbB {L : List α} {a b : Nat} (h : b ≤ L.length) : (seg L a b).length = b - a := by
  unfold seg; rw [List.length_drop, List.length_take]; omega
theorem zbC {P X R : List α} {a b : Nat} (ha : a = P.length) (hb : b = P.length + X.length) : seg (P ++ (X ++ R)) a b = X := by
  subst ha; subst hb; unfold seg; rw [← List.append_assoc, ← List.length_append, List.take_left, List.drop_left]
theorem dec2 {L : List α} {a b : Nat} (h : a ≤ b) (hb : b ≤ L.length) : ∃ P X R, L = P ++ (X ++ R) ∧ P.length = a ∧ X.length = b - a := by
  refine ⟨L.take a, (L.drop a).take (b - a), (L.drop a).drop (b - a), ?_, ?_, ?_⟩
  · rw [List.take_append_drop, List.take_append_drop]
  · rw [List.length_take]; omega
  · rw [List.length_take, List.length_drop]; omega
theorem take_dec {P X : List α} {a : Nat} (ha : a = P.length) : (P ++ X).take a = P := by subst ha; exact List.take_left ..
theorem drop_dec {P X R : List α} {b : Nat} (hb : b = P.length + X.length) : (P ++ (X ++ R)).drop b = R := by
  subst hb; rw [← List.append_assoc, ← List.length_append, List.drop_left]
theorem zbQ {P X R : List α} {a b : Nat} (ha : a = P.length) (hb : b = P.length + X.length) : fixI c a b (P ++ (X ++ R)) = P ++ (zt c X ++ R) := by
  unfold fixI; rw [zbC ha hb, take_dec ha, drop_dec hb, List.append_assoc]
theorem zb4 {P X Y R : List α} {a m b : Nat} (ha : a = P.length) (hm : m = a + X.length) (hb : b = m + Y.length) : rotL a m b (P ++ (X ++ (Y ++ R))) = P ++ (Y ++ (X ++ R)) := by
  unfold rotL
  rw [take_dec ha, zbC (X := X) ha (by omega)]
  have e1 : seg (P ++ (X ++ (Y ++ R))) m b = Y := by
    rw [← List.append_assoc P X]; exact zbC (by rw [List.length_append]; omega) (by rw [List.length_append]; omega)
  have e2 : (P ++ (X ++ (Y ++ R))).drop b = R := by
    rw [← List.append_assoc X Y]; exact drop_dec (by rw [List.length_append]; omega)
  rw [e1, e2]; simp [List.append_assoc]
theorem zbs (l : List α) : (zt c l).length = l.length := zbL _ l rfl
theorem fixI_len {L : List α} {a b : Nat} (h : a ≤ b) (hb : b ≤ L.length) : (fixI c a b L).length = L.length := by
  unfold fixI; rw [List.length_append, List.length_append, zbs, zbB hb, List.length_take, List.length_drop]; omega
theorem rotL_len {L : List α} {a m b : Nat} (h : a ≤ m) (hm : m ≤ b) (hb : b ≤ L.length) : (rotL a m b L).length = L.length := by
  unfold rotL; simp only [List.length_append, zbB hb, zbB (Nat.le_trans hm hb), List.length_take, List.length_drop]; omega
theorem zc6 (h : Cmp c) {l : List α} (hs : Srt c l) : zt c l = l := (zaj h _ l rfl).eq h ⟨hs, fun _ => rfl⟩
theorem fixI_id (h : Cmp c) {L : List α} {a b : Nat} (hab : a ≤ b) (hb : b ≤ L.length) (hs : Srt c (seg L a b)) : fixI c a b L = L := by
  obtain ⟨P, X, R, e, hP, hX⟩ := dec2 hab hb
  subst e
  have ha : a = P.length := hP.symm
  have hb' : b = P.length + X.length := by omega
  rw [zbQ ha hb']
  rw [zbC ha hb'] at hs
  rw [zc6 h hs]

/-! ### one list is in order: all are -/
theorem Srt.app {a b : List α} (ha : Srt c a) (hb : Srt c b) (hab : ∀ x ∈ a, ∀ y ∈ b, c x y ≤ 0) : Srt c (a ++ b) := List.pairwise_append.2 ⟨ha, hb, hab⟩
theorem Srt.left {a b : List α} (h : Srt c (a ++ b)) : Srt c a := (List.pairwise_append.1 h).1
theorem Srt.right {a b : List α} (h : Srt c (a ++ b)) : Srt c b := (List.pairwise_append.1 h).2.1
theorem Srt.cross {a b : List α} (h : Srt c (a ++ b)) : ∀ x ∈ a, ∀ y ∈ b, c x y ≤ 0 := (List.pairwise_append.1 h).2.2
theorem isort_mem (h : Cmp c) {l : List α} {x : α} : x ∈ zt c l ↔ x ∈ l := (zaj h _ l rfl).mem h x
/-- parts of which one is ahead of the other are put in order each by itself -/
theorem isort_split (h : Cmp c) {A1 A2 B1 B2 : List α} (hA : Srt c (A1 ++ A2)) (hB : Srt c (B1 ++ B2)) (h1 : ∀ x ∈ A1, ∀ y ∈ B2, c x y ≤ 0) (h2 : ∀ y ∈ B1, ∀ x ∈ A2, c y x < 0) :
    zt c (A1 ++ (A2 ++ (B1 ++ B2))) = zt c (A1 ++ B1) ++ zt c (A2 ++ B2) := by
  refine (zaj h _ _ rfl).eq h ⟨?_, fun k => ?_⟩
  · refine Srt.app (zaj h _ _ rfl).srt (zaj h _ _ rfl).srt ?_
    intro x hx y hy
    rcases List.mem_append.1 ((isort_mem h).1 hx) with hx | hx <;> rcases List.mem_append.1 ((isort_mem h).1 hy) with hy | hy
    · exact hA.cross x hx y hy
    · exact h1 x hx y hy
    · exact Int.le_of_lt (h2 x hx y hy)
    · exact hB.cross x hx y hy
  · rw [List.filter_append, (zaj h _ _ rfl).same, (zaj h _ _ rfl).same]
    simp only [List.filter_append]
    have hc : B1.filter (eqv c k) ++ A2.filter (eqv c k) = A2.filter (eqv c k) ++ B1.filter (eqv c k) := by
      rcases he : B1.filter (eqv c k) with _ | ⟨y, t⟩
      · simp
      · rcases he2 : A2.filter (eqv c k) with _ | ⟨x, u⟩
        · simp
        · exfalso
          have hy : y ∈ B1.filter (eqv c k) := by rw [he]; exact List.mem_cons_self
          have hx : x ∈ A2.filter (eqv c k) := by rw [he2]; exact List.mem_cons_self
          have hy := List.mem_filter.1 hy
          have hx := List.mem_filter.1 hx
          have e1 : c k y = 0 := by simpa [eqv] using hy.2
          have e2 : c k x = 0 := by simpa [eqv] using hx.2
          have := h2 y hy.1 x hx.1
          have e3 := h.neg k y
          have e4 := (h.tr y k x).e1 (by omega)
          omega
    simp only [List.append_assoc]
    rw [← List.append_assoc (B1.filter _), hc, List.append_assoc]

/-! ### two sorted parts side by side -/
theorem get_mem_seg {L : List α} {a b k : Nat} {x : α} (hx : L[k]? = some x) (h1 : a ≤ k) (h2 : k < b) : x ∈ seg L a b := by
  unfold seg
  refine List.mem_of_getElem? (i := k - a) ?_
  rw [List.getElem?_drop, List.getElem?_take, show a + (k - a) = k by omega, if_pos h2, hx]
theorem zcY {L : List α} {a b : Nat} {x : α} (h : x ∈ seg L a b) : ∃ k, a ≤ k ∧ k < b ∧ L[k]? = some x := by
  unfold seg at h
  obtain ⟨i, hi⟩ := List.mem_iff_getElem?.1 h
  rw [List.getElem?_drop, List.getElem?_take] at hi
  split at hi
  · exact ⟨a + i, by omega, by omega, hi⟩
  · cases hi
theorem zcX (h : Cmp c) {L : List α} {a b i j : Nat} {x y : α} (hs : Srt c (seg L a b)) (hi : a ≤ i) (hij : i ≤ j) (hj : j < b) (hx : L[i]? = some x) (hy : L[j]? = some y) : c x y ≤ 0 := by
  rcases Nat.lt_or_eq_of_le hij with hlt | heq
  · have hx' : (seg L a b)[i - a]? = some x := by unfold seg; rw [List.getElem?_drop, List.getElem?_take, show a + (i - a) = i by omega, if_pos (by omega), hx]
    have hy' : (seg L a b)[j - a]? = some y := by unfold seg; rw [List.getElem?_drop, List.getElem?_take, show a + (j - a) = j by omega, if_pos (by omega), hy]
    obtain ⟨h1, e1⟩ := List.getElem?_eq_some_iff.1 hx'
    obtain ⟨h2, e2⟩ := List.getElem?_eq_some_iff.1 hy'
    have := List.pairwise_iff_getElem.1 hs (i - a) (j - a) h1 h2 (by omega)
    rw [e1, e2] at this; exact this
  · subst heq; rw [hx] at hy; injection hy with hy; rw [hy, h.self]; exact Int.le_refl _
theorem zaw {L : List α} {a m b : Nat} (h1 : a ≤ m) (h2 : m ≤ b) (hb : b ≤ L.length) : seg L a b = seg L a m ++ seg L m b := by
  obtain ⟨P, X, R, e, hP, hX⟩ := dec2 (Nat.le_trans h1 h2) hb
  obtain ⟨X1, X2, R', e', hX1, hX2⟩ := dec2 (L := X) (a := m - a) (b := b - a) (by omega) (by omega)
  have hR : R' = [] := by
    have := congrArg List.length e'; simp only [List.length_append] at this
    exact List.eq_nil_of_length_eq_zero (by omega)
  subst hR; rw [List.append_nil] at e'; subst e'; subst e
  rw [zbC (P := P) (by omega) (by rw [List.length_append]; omega), List.append_assoc, zbC (X := X1) (by omega) (by omega), ← List.append_assoc P, zbC (X := X2) (by rw [List.length_append]; omega) (by rw [List.length_append]; omega)]
/-- what a step of the merge finds: the place from which the parts change places -/
structure Found (c : α → α → Int) (L : List α) (a m b s e mid : Nat) : Prop where
  as_ : a ≤ s
  sm : s ≤ m
  me : m ≤ e
  eb : e ≤ b
  sum : s + e = mid + m
  lo : ∀ x ∈ seg L a s, ∀ y ∈ seg L e b, c x y ≤ 0
  hi : ∀ y ∈ seg L m e, ∀ x ∈ seg L s m, c y x < 0
theorem Found.of (h : Cmp c) {L : List α} {a m b s e mid : Nat} (hA : Srt c (seg L a m)) (hB : Srt c (seg L m b)) (hb : b ≤ L.length) (as_ : a ≤ s) (sm : s ≤ m) (me : m ≤ e) (eb : e ≤ b) (sum : s + e = mid + m)
    (lo : s = a ∨ e = b ∨ ∃ x y, L[s - 1]? = some x ∧ L[e]? = some y ∧ ¬ c y x < 0) (hi : s = m ∨ e = m ∨ ∃ x y, L[s]? = some x ∧ L[e - 1]? = some y ∧ c y x < 0) : Found c L a m b s e mid := by
  refine ⟨as_, sm, me, eb, sum, ?_, ?_⟩
  · intro x hx y hy
    obtain ⟨i, i1, i2, ix⟩ := zcY hx
    obtain ⟨j, j1, j2, jy⟩ := zcY hy
    rcases lo with e1 | e1 | ⟨u, v, hu, hv, huv⟩
    · omega
    · omega
    · have h1 := zcX h hA i1 (show i ≤ s - 1 by omega) (by omega) ix hu
      have h2 := zcX h hB me j1 j2 hv jy
      have h3 := h.neg v u
      exact (h.tr x v y).le ((h.tr x u v).le h1 (by omega)) h2
  · intro y hy x hx
    obtain ⟨i, i1, i2, ix⟩ := zcY hx
    obtain ⟨j, j1, j2, jy⟩ := zcY hy
    rcases hi with e1 | e1 | ⟨u, v, hu, hv, huv⟩
    · omega
    · omega
    · have h1 := zcX h hA as_ i1 i2 hu ix
      have h2 := zcX h hB j1 (show j ≤ e - 1 by omega) (by omega) jy hv
      exact (h.tr y v x).lt2 h2 ((h.tr v u x).lt1 huv h1)
theorem Found.parts {L : List α} {a m b s e mid : Nat} (f : Found c L a m b s e mid) (hb : b ≤ L.length) : ∃ P A1 A2 B1 B2 R, L = P ++ (A1 ++ (A2 ++ (B1 ++ (B2 ++ R)))) ∧ P.length = a ∧ A1.length = s - a ∧ A2.length = m - s ∧ B1.length = e - m ∧ B2.length = b - e ∧ seg L a s = A1 ∧ seg L s m = A2 ∧ seg L m e = B1 ∧ seg L e b = B2 := by
  have := f.as_; have := f.sm; have := f.me; have := f.eb
  refine ⟨L.take a, seg L a s, seg L s m, seg L m e, seg L e b, L.drop b, ?_, ?_, zbB (by omega), zbB (by omega), zbB (by omega), zbB hb, rfl, rfl, rfl, rfl⟩
  · rw [← List.append_assoc (seg L m e), ← zaw (by omega) (by omega) hb, ← List.append_assoc (seg L s m), ← zaw (by omega) (by omega) hb, ← List.append_assoc (seg L a s), ← zaw (by omega) (by omega) hb]
    have e1 : L.take a ++ seg L a b = L.take b := by
      have : (L.take b).take a = L.take a := by rw [List.take_take]; congr 1; omega
      rw [← this]; exact List.take_append_drop ..
    rw [← List.append_assoc, e1, List.take_append_drop]
  · rw [List.length_take]; omega
/-- merging: the parts change places, then each half is merged by itself -/
theorem Found.merge (h : Cmp c) {L : List α} {a m b s e mid : Nat} (f : Found c L a m b s e mid) (hb : b ≤ L.length) (hA : Srt c (seg L a m)) (hB : Srt c (seg L m b)) :
    fixI c mid b (fixI c a mid (rotL s m e L)) = fixI c a b L := by
  obtain ⟨P, A1, A2, B1, B2, R, eL, lP, l1, l2, l3, l4, s1, s2, s3, s4⟩ := f.parts hb
  have := f.as_; have := f.sm; have := f.me; have := f.eb; have := f.sum
  rw [zaw f.as_ f.sm (by omega), s1, s2] at hA
  rw [zaw f.me f.eb hb, s3, s4] at hB
  have hs := isort_split h hA hB (by rw [← s1, ← s4]; exact f.lo) (by rw [← s2, ← s3]; exact f.hi)
  subst eL
  have r1 : rotL s m e (P ++ (A1 ++ (A2 ++ (B1 ++ (B2 ++ R))))) = P ++ (A1 ++ (B1 ++ (A2 ++ (B2 ++ R)))) := by
    rw [← List.append_assoc P, zb4 (by rw [List.length_append]; omega) (by omega) (by omega), List.append_assoc]
  rw [r1, ← List.append_assoc A1, zbQ (a := a) (b := mid) (by omega) (by rw [List.length_append]; omega), ← List.append_assoc A2, ← List.append_assoc P,
    zbQ (a := mid) (b := b) (by rw [List.length_append, zbs, List.length_append]; omega) (by rw [List.length_append, zbs, List.length_append, List.length_append]; omega)]
  rw [show A1 ++ (A2 ++ (B1 ++ (B2 ++ R))) = (A1 ++ (A2 ++ (B1 ++ B2))) ++ R by simp only [List.append_assoc]]
  rw [zbQ (a := a) (b := b) (by omega) (by simp only [List.length_append]; omega), hs]
  simp only [List.append_assoc]
/-- the halves, and what they are made of -/
theorem Found.segs {L : List α} {a m b s e mid : Nat} (f : Found c L a m b s e mid) (hb : b ≤ L.length) (hA : Srt c (seg L a m)) (hB : Srt c (seg L m b)) :
    Srt c (seg (rotL s m e L) a s) ∧ Srt c (seg (rotL s m e L) s mid) ∧ Srt c (seg (rotL s m e L) mid e) ∧ Srt c (seg (rotL s m e L) e b) ∧ (rotL s m e L).length = L.length := by
  obtain ⟨P, A1, A2, B1, B2, R, eL, lP, l1, l2, l3, l4, s1, s2, s3, s4⟩ := f.parts hb
  have := f.as_; have := f.sm; have := f.me; have := f.eb; have := f.sum
  rw [zaw f.as_ f.sm (by omega), s1, s2] at hA
  rw [zaw f.me f.eb hb, s3, s4] at hB
  have hl : (rotL s m e L).length = L.length := rotL_len f.sm f.me (by omega)
  subst eL
  have r1 : rotL s m e (P ++ (A1 ++ (A2 ++ (B1 ++ (B2 ++ R))))) = P ++ (A1 ++ (B1 ++ (A2 ++ (B2 ++ R)))) := by
    rw [← List.append_assoc P, zb4 (by rw [List.length_append]; omega) (by omega) (by omega), List.append_assoc]
  rw [r1] at hl ⊢
  refine ⟨?_, ?_, ?_, ?_, hl⟩
  · rw [zbC (X := A1) (by omega) (by omega)]; exact hA.left
  · rw [← List.append_assoc P, zbC (X := B1) (by rw [List.length_append]; omega) (by rw [List.length_append]; omega)]; exact hB.left
  · rw [← List.append_assoc A1, ← List.append_assoc P, zbC (X := A2) (by simp only [List.length_append]; omega) (by simp only [List.length_append]; omega)]; exact hA.right
  · rw [← List.append_assoc B1, ← List.append_assoc A1, ← List.append_assoc P, zbC (X := B2) (by simp only [List.length_append]; omega) (by simp only [List.length_append]; omega)]; exact hB.right
theorem seg_fixI_right {L : List α} {a b d e : Nat} (hab : a ≤ b) (hb : b ≤ L.length) (hbd : b ≤ d) : seg (fixI c a b L) d e = seg L d e := by
  obtain ⟨P, X, R, eL, hP, hX⟩ := dec2 hab hb
  subst eL
  rw [zbQ (a := a) (b := b) (by omega) (by omega)]
  unfold seg
  apply List.ext_getElem?
  intro i
  simp only [List.getElem?_drop, List.getElem?_take]
  split
  · rw [← List.append_assoc, ← List.append_assoc, List.getElem?_append_right (by rw [List.length_append, zbs]; omega), List.getElem?_append_right (by rw [List.length_append]; omega)]
    simp only [List.length_append, zbs]
  · rfl
theorem seg_fixI_left {L : List α} {a b d e : Nat} (hab : a ≤ b) (hbd : b ≤ L.length) (hde : e ≤ a) : seg (fixI c a b L) d e = seg L d e := by
  obtain ⟨P, X, R, eL, hP, hX⟩ := dec2 hab hbd
  subst eL
  rw [zbQ (a := a) (b := b) (by omega) (by omega)]
  unfold seg
  rw [List.take_append_of_le_length (by omega), List.take_append_of_le_length (by omega)]
theorem seg_fixI_self (h : Cmp c) {L : List α} {a b : Nat} (hab : a ≤ b) (hb : b ≤ L.length) : Srt c (seg (fixI c a b L) a b) := by
  obtain ⟨P, X, R, eL, hP, hX⟩ := dec2 hab hb
  subst eL
  rw [zbQ (a := a) (b := b) (by omega) (by omega), zbC (X := zt c X) (by omega) (by rw [zbs]; omega)]
  exact (zaj h _ _ rfl).srt
theorem fixI_same (h : Cmp c) {L : List α} {a b : Nat} (hab : a ≤ b) (hb : b ≤ L.length) (k : α) : (fixI c a b L).filter (eqv c k) = L.filter (eqv c k) := by
  obtain ⟨P, X, R, eL, hP, hX⟩ := dec2 hab hb
  subst eL
  rw [zbQ (a := a) (b := b) (by omega) (by omega)]
  simp only [List.filter_append, (zaj h _ X rfl).same]

/-! ### an element that goes up or down by swaps -/
def swp (i j : Nat) (L : List α) : List α := match L[i]?, L[j]? with
  | some x, some y => (L.set i y).set j x
  | _, _ => L
theorem zdu {i j : Nat} {L : List α} {x y : α} (hx : L[i]? = some x) (hy : L[j]? = some y) : swp i j L = (L.set i y).set j x := by unfold swp; rw [hx, hy]
theorem swp_len (i j : Nat) (L : List α) : (swp i j L).length = L.length := by unfold swp; split <;> simp
/-- up: the element at k to the place e -/
def mvUp : Nat → Nat → List α → List α
  | 0, _, L => L
  | n + 1, k, L => mvUp n (k + 1) (swp k (k + 1) L)
/-- down by n places -/
def mvDn : Nat → Nat → List α → List α
  | 0, _, L => L
  | n + 1, k, L => mvDn n (k - 1) (swp k (k - 1) L)
theorem mvUp_dec {x : α} : ∀ (B P R : List α), mvUp B.length P.length (P ++ x :: (B ++ R)) = P ++ (B ++ x :: R)
  | [], P, R => rfl
  | y :: B, P, R => by
    show mvUp B.length (P.length + 1) (swp P.length (P.length + 1) (P ++ x :: y :: (B ++ R))) = _
    have e : swp P.length (P.length + 1) (P ++ x :: y :: (B ++ R)) = (P ++ [y]) ++ x :: (B ++ R) := by
      rw [zdu (x := x) (y := y) (by simp) (by rw [List.getElem?_append_right (by omega)]; simp)]
      rw [List.set_append_right _ _ (by omega), List.set_append_right _ _ (by omega)]; simp
    rw [e, show P.length + 1 = (P ++ [y]).length by simp, mvUp_dec B (P ++ [y]) R]; simp
theorem mvDn_dec {x : α} : ∀ (n : Nat) (B P R : List α), B.length = n → mvDn n (P.length + n) (P ++ (B ++ x :: R)) = P ++ x :: (B ++ R)
  | 0, B, P, R, hn => by rw [List.eq_nil_of_length_eq_zero hn]; rfl
  | n + 1, B, P, R, hn => by
    obtain ⟨B', y, eB⟩ : ∃ B' y, B = B' ++ [y] := ⟨B.dropLast, B.getLast (by intro e; rw [e] at hn; simp at hn), (List.dropLast_concat_getLast _).symm⟩
    subst eB
    have hB : B'.length = n := by simp at hn; exact hn
    show mvDn n (P.length + (n + 1) - 1) (swp (P.length + (n + 1)) (P.length + (n + 1) - 1) _) = _
    have e : swp (P.length + (n + 1)) (P.length + (n + 1) - 1) (P ++ (B' ++ [y] ++ x :: R)) = P ++ (B' ++ x :: (y :: R)) := by
      have e0 : P ++ (B' ++ [y] ++ x :: R) = (P ++ B') ++ y :: x :: R := by simp
      rw [e0, zdu (x := x) (y := y) (by rw [List.getElem?_append_right (by simp; omega)]; simp only [List.length_append, hB]; rw [show P.length + (n + 1) - (P.length + n) = 1 by omega]; rfl) (by rw [List.getElem?_append_right (by simp; omega)]; simp only [List.length_append, hB]; rw [show P.length + (n + 1) - 1 - (P.length + n) = 0 by omega]; rfl)]
      rw [List.set_append_right _ _ (by simp; omega), List.set_append_right _ _ (by simp; omega)]
      simp only [List.length_append, hB]
      rw [show P.length + (n + 1) - (P.length + n) = 1 by omega, show P.length + (n + 1) - 1 - (P.length + n) = 0 by omega]
      simp
    rw [e, show P.length + (n + 1) - 1 = P.length + n by omega, mvDn_dec n B' P (y :: R) hB]; simp
theorem mvUp_next {n k : Nat} {L : List α} {x y : α} (hx : L[k]? = some x) (hy : L[k + 1]? = some y) : mvUp (n + 1) k L = mvUp n (k + 1) ((L.set k y).set (k + 1) x) := by
  show mvUp n (k + 1) (swp k (k + 1) L) = _; rw [zdu hx hy]
theorem mvDn_next {n k : Nat} {L : List α} {x y : α} (hx : L[k]? = some x) (hy : L[k - 1]? = some y) : mvDn (n + 1) k L = mvDn n (k - 1) ((L.set k y).set (k - 1) x) := by
  show mvDn n (k - 1) (swp k (k - 1) L) = _; rw [zdu hx hy]
theorem srt_one (x : α) : Srt c [x] := List.pairwise_singleton _ _
/-- one row ahead of a sorted part: it goes up to its place -/
theorem merge_up (h : Cmp c) {L : List α} {a b i : Nat} {x : α} (hb : b ≤ L.length) (hx : L[a]? = some x) (h1 : a + 1 ≤ i) (h2 : i ≤ b) (hB : Srt c (seg L (a + 1) b))
    (lo : i = a + 1 ∨ ∃ y, L[i - 1]? = some y ∧ c y x < 0) (hi : i = b ∨ ∃ y, L[i]? = some y ∧ ¬ c y x < 0) : mvUp (i - 1 - a) a L = fixI c a b L := by
  have hA : seg L a (a + 1) = [x] := by
    have hl := zbB (L := L) (a := a) (b := a + 1) (by omega)
    have hm : x ∈ seg L a (a + 1) := get_mem_seg hx (by omega) (by omega)
    obtain ⟨y, hy⟩ := List.length_eq_one_iff.1 (by rw [hl]; omega : (seg L a (a + 1)).length = 1)
    rw [hy] at hm ⊢; rw [List.mem_singleton.1 hm]
  have f1 : ∀ y ∈ seg L (a + 1) i, c y x < 0 := by
    intro y hy
    obtain ⟨j, j1, j2, jy⟩ := zcY hy
    rcases lo with e | ⟨u, hu, hux⟩
    · omega
    · exact (h.tr y u x).lt2 (zcX h hB j1 (show j ≤ i - 1 by omega) (by omega) jy hu) hux
  have f2 : ∀ y ∈ seg L i b, c x y ≤ 0 := by
    intro y hy
    obtain ⟨j, j1, j2, jy⟩ := zcY hy
    rcases hi with e | ⟨u, hu, hux⟩
    · omega
    · have := h.neg u x
      exact (h.tr x u y).le (by omega) (zcX h hB h1 j1 j2 hu jy)
  have hL : L = L.take a ++ x :: (seg L (a + 1) i ++ (seg L i b ++ L.drop b)) := by
    have e1 : x :: (seg L (a + 1) i ++ (seg L i b ++ L.drop b)) = seg L a b ++ L.drop b := by
      rw [zaw (show a ≤ a + 1 by omega) (show a + 1 ≤ b by omega) hb, hA, zaw h1 h2 hb]; simp
    rw [e1, ← List.append_assoc]
    have e2 : L.take a ++ seg L a b = L.take b := by
      have : (L.take b).take a = L.take a := by rw [List.take_take]; congr 1; omega
      rw [← this]; exact List.take_append_drop ..
    rw [e2, List.take_append_drop]
  have lP : (L.take a).length = a := by rw [List.length_take]; omega
  have lB := zbB (L := L) (a := a + 1) (b := i) (by omega)
  rw [zaw h1 h2 hb] at hB
  have key := isort_split h (A1 := []) (A2 := [x]) (B1 := seg L (a + 1) i) (B2 := seg L i b) (srt_one x) hB (fun _ hx => by cases hx) (fun y hy z hz => by rw [List.mem_singleton.1 hz]; exact f1 y hy)
  have key2 : zt c ([x] ++ seg L i b) = x :: seg L i b := zc6 h (List.pairwise_cons.2 ⟨f2, hB.right⟩)
  have key3 : zt c ([] ++ seg L (a + 1) i) = seg L (a + 1) i := zc6 h hB.left
  have e3 := mvUp_dec (x := x) (seg L (a + 1) i) (L.take a) (seg L i b ++ L.drop b)
  rw [← hL, lP, lB, show i - (a + 1) = i - 1 - a by omega] at e3
  rw [e3]
  unfold fixI
  rw [zaw (show a ≤ a + 1 by omega) (show a + 1 ≤ b by omega) hb, hA, zaw h1 h2 hb]
  have e4 : zt c ([x] ++ (seg L (a + 1) i ++ seg L i b)) = seg L (a + 1) i ++ x :: seg L i b := by
    have := key; rw [key2, key3] at this; simpa using this
  rw [e4]; simp
/-- one row behind a sorted part: it goes down to its place -/
theorem merge_dn (h : Cmp c) {L : List α} {a m i : Nat} {x : α} (hx : L[m]? = some x) (h1 : a ≤ i) (h2 : i ≤ m) (hA : Srt c (seg L a m))
    (lo : i = a ∨ ∃ y, L[i - 1]? = some y ∧ ¬ c x y < 0) (hi : i = m ∨ ∃ y, L[i]? = some y ∧ c x y < 0) : mvDn (m - i) m L = fixI c a (m + 1) L := by
  have hm := (List.getElem?_eq_some_iff.1 hx).1
  have hB : seg L m (m + 1) = [x] := by
    have hl := zbB (L := L) (a := m) (b := m + 1) (by omega)
    have hmm : x ∈ seg L m (m + 1) := get_mem_seg hx (by omega) (by omega)
    obtain ⟨y, hy⟩ := List.length_eq_one_iff.1 (by rw [hl]; omega : (seg L m (m + 1)).length = 1)
    rw [hy] at hmm ⊢; rw [List.mem_singleton.1 hmm]
  have f1 : ∀ y ∈ seg L a i, c y x ≤ 0 := by
    intro y hy
    obtain ⟨j, j1, j2, jy⟩ := zcY hy
    rcases lo with e | ⟨u, hu, hux⟩
    · omega
    · have := h.neg x u
      exact (h.tr y u x).le (zcX h hA j1 (show j ≤ i - 1 by omega) (by omega) jy hu) (by omega)
  have f2 : ∀ y ∈ seg L i m, c x y < 0 := by
    intro y hy
    obtain ⟨j, j1, j2, jy⟩ := zcY hy
    rcases hi with e | ⟨u, hu, hux⟩
    · omega
    · exact (h.tr x u y).lt1 hux (zcX h hA h1 j1 j2 hu jy)
  have hL : L = L.take a ++ (seg L a i ++ (seg L i m ++ x :: L.drop (m + 1))) := by
    have e1 : seg L a i ++ (seg L i m ++ x :: L.drop (m + 1)) = seg L a (m + 1) ++ L.drop (m + 1) := by
      rw [zaw (show a ≤ m by omega) (show m ≤ m + 1 by omega) (by omega), hB, zaw h1 h2 (by omega)]; simp
    rw [e1, ← List.append_assoc]
    have e2 : L.take a ++ seg L a (m + 1) = L.take (m + 1) := by
      have : (L.take (m + 1)).take a = L.take a := by rw [List.take_take]; congr 1; omega
      rw [← this]; exact List.take_append_drop ..
    rw [e2, List.take_append_drop]
  have lP : (L.take a).length = a := by rw [List.length_take]; omega
  have lA := zbB (L := L) (a := a) (b := i) (by omega)
  have lB := zbB (L := L) (a := i) (b := m) (by omega)
  rw [zaw h1 h2 (by omega)] at hA
  have key := isort_split h (A1 := seg L a i) (A2 := seg L i m) (B1 := [x]) (B2 := []) hA (srt_one x) (fun _ _ _ hx => by cases hx) (fun y hy z hz => by rw [List.mem_singleton.1 hy]; exact f2 z hz)
  have key2 : zt c (seg L a i ++ [x]) = seg L a i ++ [x] := zc6 h (Srt.app hA.left (srt_one x) (fun y hy z hz => by rw [List.mem_singleton.1 hz]; exact f1 y hy))
  have key3 : zt c (seg L i m ++ []) = seg L i m := by rw [List.append_nil]; exact zc6 h hA.right
  have e3 := mvDn_dec (x := x) _ (seg L i m) (L.take a ++ seg L a i) (L.drop (m + 1)) lB
  rw [List.append_assoc, ← hL, List.length_append, lP, lA, show a + (i - a) + (m - i) = m by omega] at e3
  rw [e3]
  unfold fixI
  rw [zaw (show a ≤ m by omega) (show m ≤ m + 1 by omega) (by omega), hB, zaw h1 h2 (by omega)]
  have e4 : zt c (seg L a i ++ seg L i m ++ [x]) = seg L a i ++ [x] ++ seg L i m := by
    have := key; rw [key2, key3] at this; simpa using this
  rw [e4]; simp

/-! ### blocks of one length that change places, one row at a time -/
/-- the first k rows of the blocks at a and b have changed places -/
def swpN : Nat → Nat → Nat → List α → List α
  | 0, _, _, L => L
  | n + 1, a, b, L => swpN n (a + 1) (b + 1) (swp a b L)
theorem swpN_len : ∀ (n a b : Nat) (L : List α), (swpN n a b L).length = L.length
  | 0, _, _, _ => rfl
  | n + 1, a, b, L => by show (swpN n (a + 1) (b + 1) (swp a b L)).length = _; rw [swpN_len n, swp_len]
theorem swpN_next {n a b : Nat} {L : List α} {x y : α} (hx : L[a]? = some x) (hy : L[b]? = some y) : swpN (n + 1) a b L = swpN n (a + 1) (b + 1) ((L.set a y).set b x) := by
  show swpN n (a + 1) (b + 1) (swp a b L) = _; rw [zdu hx hy]
theorem swpN_dec : ∀ (X Y P Q R : List α), X.length = Y.length → swpN X.length P.length (P.length + X.length + Q.length) (P ++ (X ++ (Q ++ (Y ++ R)))) = P ++ (Y ++ (Q ++ (X ++ R)))
  | [], [], P, Q, R, _ => rfl
  | x :: X, [], P, Q, R, h => by simp at h
  | [], y :: Y, P, Q, R, h => by simp at h
  | x :: X, y :: Y, P, Q, R, h => by
    have h' : X.length = Y.length := by simpa using h
    show swpN X.length (P.length + 1) (P.length + (X.length + 1) + Q.length + 1) (swp P.length (P.length + (X.length + 1) + Q.length) (P ++ (x :: X ++ (Q ++ (y :: Y ++ R))))) = _
    have e : swp P.length (P.length + (X.length + 1) + Q.length) (P ++ (x :: X ++ (Q ++ (y :: Y ++ R)))) = (P ++ [y]) ++ (X ++ ((Q ++ [x]) ++ (Y ++ R))) := by
      have e0 : P ++ (x :: X ++ (Q ++ (y :: Y ++ R))) = P ++ x :: ((X ++ Q) ++ y :: (Y ++ R)) := by simp
      rw [e0, zdu (x := x) (y := y) (by simp) (by rw [List.getElem?_append_right (by omega), show P.length + (X.length + 1) + Q.length - P.length = (X ++ Q).length + 1 by simp; omega, List.getElem?_cons_succ, List.getElem?_append_right (by omega)]; simp)]
      rw [List.set_append_right _ _ (by omega), Nat.sub_self, List.set_cons_zero, List.set_append_right _ _ (by omega), show P.length + (X.length + 1) + Q.length - P.length = (X ++ Q).length + 1 by simp; omega, List.set_cons_succ, List.set_append_right _ _ (by omega), Nat.sub_self, List.set_cons_zero]
      simp
    have ih := swpN_dec X Y (P ++ [y]) (Q ++ [x]) R h'
    rw [e]
    have e2 : P.length + (X.length + 1) + Q.length + 1 = (P ++ [y]).length + X.length + (Q ++ [x]).length := by simp; omega
    rw [e2, show P.length + 1 = (P ++ [y]).length by simp, ih]; simp
/-- a block that is the longer one -/
theorem rot_gt {L : List α} {a m b j : Nat} (hb : b ≤ L.length) (hm : m ≤ b) (hj : j = b - m) (hi : a + j < m) : rotL a m b L = rotL (a + j) m b (swpN j a m L) := by
  obtain ⟨P, X, R1, e1, hP, hX⟩ := dec2 (L := L) (a := a) (b := m) (by omega) (by omega)
  obtain ⟨Z, Y, R, e2, hZ, hY⟩ := dec2 (L := R1) (a := 0) (b := j) (by omega) (by have := congrArg List.length e1; simp only [List.length_append] at this; omega)
  rw [List.eq_nil_of_length_eq_zero hZ, List.nil_append] at e2
  obtain ⟨Z', X1, X2, e3, hZ', hX1⟩ := dec2 (L := X) (a := 0) (b := j) (by omega) (by omega)
  rw [List.eq_nil_of_length_eq_zero hZ', List.nil_append] at e3
  subst e2; subst e3; subst e1
  have hl : (X1 ++ X2).length = X1.length + X2.length := List.length_append
  have s := swpN_dec X1 Y P X2 R (by omega)
  rw [show P.length + X1.length + X2.length = m by omega, show X1.length = j by omega, hP] at s
  rw [List.append_assoc X1, s, ← List.append_assoc X1, zb4 (by omega) (by omega) (by omega), ← List.append_assoc P Y (X2 ++ _), zb4 (P := P ++ Y) (X := X2) (Y := X1) (by rw [List.length_append]; omega) (by omega) (by omega)]
  simp
theorem rot_lt {L : List α} {a m b i : Nat} (hb : b ≤ L.length) (hm : a ≤ m) (hi : i = m - a) (hj : m + i < b) : rotL a m b L = rotL a m (b - i) (swpN i a (b - i) L) := by
  obtain ⟨P, X, R1, e1, hP, hX⟩ := dec2 (L := L) (a := a) (b := m) (by omega) (by omega)
  obtain ⟨Z, Y, R, e2, hZ, hY⟩ := dec2 (L := R1) (a := 0) (b := b - m) (by omega) (by have := congrArg List.length e1; simp only [List.length_append] at this; omega)
  rw [List.eq_nil_of_length_eq_zero hZ, List.nil_append] at e2
  obtain ⟨Z', Y1, Y2, e3, hZ', hY1⟩ := dec2 (L := Y) (a := 0) (b := b - m - i) (by omega) (by omega)
  rw [List.eq_nil_of_length_eq_zero hZ', List.nil_append] at e3
  subst e2; subst e3; subst e1
  have hl : (Y1 ++ Y2).length = Y1.length + Y2.length := List.length_append
  have s := swpN_dec X Y2 P Y1 R (by omega)
  rw [show P.length + X.length + Y1.length = b - i by omega, show X.length = i by omega, hP] at s
  rw [List.append_assoc Y1, s, ← List.append_assoc Y1, zb4 (by omega) (by omega) (by omega), zb4 (X := Y2) (Y := Y1) (by omega) (by omega) (by omega)]
  simp
theorem rot_eq {L : List α} {a m b i : Nat} (hb : b ≤ L.length) (hm : a ≤ m) (hi : i = m - a) (hj : m + i = b) : rotL a m b L = swpN i a m L := by
  obtain ⟨P, X, R1, e1, hP, hX⟩ := dec2 (L := L) (a := a) (b := m) (by omega) (by omega)
  obtain ⟨Z, Y, R, e2, hZ, hY⟩ := dec2 (L := R1) (a := 0) (b := b - m) (by omega) (by have := congrArg List.length e1; simp only [List.length_append] at this; omega)
  rw [List.eq_nil_of_length_eq_zero hZ, List.nil_append] at e2
  subst e2; subst e1
  have s := swpN_dec X Y P [] R (by omega)
  rw [List.length_nil, Nat.add_zero, show P.length + X.length = m by omega, show X.length = i by omega, hP] at s
  simp only [List.nil_append] at s
  rw [s, zb4 (by omega) (by omega) (by omega)]

/-! ### sorting by blocks -/
theorem zcz {L : List α} {a b : Nat} (h : L.length ≤ b) : seg L a b = seg L a L.length := by unfold seg; rw [List.take_of_length_le h, List.take_of_length_le (Nat.le_refl _)]
theorem seg_none {L : List α} {a b : Nat} (h : L.length ≤ a) : seg L a b = [] := by unfold seg; rw [List.drop_eq_nil_iff, List.length_take]; omega
/-- nothing has gone past its like -/
structure Like (c : α → α → Int) (L0 L : List α) : Prop where
  len : L.length = L0.length
  same : ∀ x, L.filter (eqv c x) = L0.filter (eqv c x)
theorem Like.rfl' (L : List α) : Like c L L := ⟨rfl, fun _ => rfl⟩
theorem Like.fix (h : Cmp c) {L0 L : List α} (l : Like c L0 L) {a b : Nat} (hab : a ≤ b) (hb : b ≤ L.length) : Like c L0 (fixI c a b L) := ⟨(fixI_len hab hb).trans l.len, fun x => (fixI_same h hab hb x).trans (l.same x)⟩
theorem Like.sorted (h : Cmp c) {L0 L : List α} (l : Like c L0 L) (hs : Srt c L) : L = zt c L0 := Stab.eq h ⟨hs, l.same⟩ (zaj h _ L0 rfl)
/-- all blocks of a length are in order -/
def AllB (c : α → α → Int) (n : Nat) (L : List α) : Prop := ∀ j, Srt c (seg L (j * n) ((j + 1) * n))
theorem AllB.sorted {n : Nat} {L : List α} (h : AllB c n L) (hn : L.length ≤ n) : Srt c L := by
  have := h 0; rw [Nat.zero_mul, Nat.zero_add, Nat.one_mul, zcz hn] at this
  unfold seg at this; simpa using this
/-- all blocks ahead of a are in order -/
structure Ahead (c : α → α → Int) (n a : Nat) (L : List α) : Prop where
  ex : ∃ i, a = i * n ∧ ∀ j, j < i → Srt c (seg L (j * n) ((j + 1) * n))
theorem Ahead.zero (n : Nat) (L : List α) : Ahead c n 0 L := ⟨0, by simp, fun j hj => by omega⟩
theorem Ahead.next (h : Cmp c) {n a : Nat} {L : List α} (p : Ahead c n a L) (hb : a + n ≤ L.length) : Ahead c n (a + n) (fixI c a (a + n) L) := by
  obtain ⟨i, ea, hs⟩ := p.ex
  refine ⟨i + 1, by rw [Nat.succ_mul, ea], fun j hj => ?_⟩
  rcases Nat.lt_or_ge j i with hlt | hge
  · rw [seg_fixI_left (by omega) hb (by rw [ea]; exact Nat.mul_le_mul_right n hlt)]; exact hs j hlt
  · have : j = i := by omega
    subst this; rw [Nat.succ_mul, ← ea]; exact seg_fixI_self h (by omega) hb
theorem Ahead.last (h : Cmp c) {n a : Nat} {L : List α} (p : Ahead c n a L) (ha : a ≤ L.length) (hb : L.length < a + n) : AllB c n (fixI c a L.length L) := by
  obtain ⟨i, ea, hs⟩ := p.ex
  intro j
  rcases Nat.lt_or_ge j i with hlt | hge
  · rw [seg_fixI_left ha (Nat.le_refl _) (by rw [ea]; exact Nat.mul_le_mul_right n hlt)]; exact hs j hlt
  · have hl := fixI_len (c := c) ha (Nat.le_refl L.length)
    rcases Nat.eq_or_lt_of_le hge with he | hgt
    · subst he; rw [Nat.succ_mul, ← ea, zcz (by omega), hl]; exact seg_fixI_self h ha (Nat.le_refl _)
    · have : (i + 1) * n ≤ j * n := Nat.mul_le_mul_right n hgt
      rw [Nat.succ_mul] at this
      rw [seg_none (by omega)]; exact List.Pairwise.nil
/-- blocks ahead of a are merged two by two, those behind are not yet -/
structure Half (c : α → α → Int) (n a : Nat) (L : List α) : Prop where
  ex : ∃ i, a = i * (2 * n) ∧ (∀ j, j < i → Srt c (seg L (j * (2 * n)) ((j + 1) * (2 * n)))) ∧ ∀ j, 2 * i ≤ j → Srt c (seg L (j * n) ((j + 1) * n))
theorem Half.zero {n : Nat} {L : List α} (h : AllB c n L) : Half c n 0 L := ⟨0, by simp, fun j hj => by omega, fun j _ => h j⟩
theorem Half.one {n a : Nat} {L : List α} (p : Half c n a L) : Srt c (seg L a (a + n)) ∧ Srt c (seg L (a + n) (a + 2 * n)) := by
  obtain ⟨i, ea, _, h2⟩ := p.ex
  have e0 : a = 2 * i * n := by rw [ea, Nat.mul_comm 2 i, Nat.mul_assoc]
  have h3 := h2 (2 * i) (Nat.le_refl _)
  have h4 := h2 (2 * i + 1) (by omega)
  rw [Nat.add_mul, Nat.one_mul, ← e0] at h3
  rw [Nat.add_mul (2 * i + 1), Nat.add_mul (2 * i), Nat.one_mul, ← e0, Nat.add_assoc, ← Nat.two_mul] at h4
  exact ⟨h3, h4⟩
theorem Half.next (h : Cmp c) {n a : Nat} {L : List α} (p : Half c n a L) (hb : a + 2 * n ≤ L.length) : Half c n (a + 2 * n) (fixI c a (a + 2 * n) L) := by
  obtain ⟨i, ea, h1, h2⟩ := p.ex
  refine ⟨i + 1, by rw [Nat.succ_mul i, ea], fun j hj => ?_, fun j hj => ?_⟩
  · rcases Nat.lt_or_ge j i with hlt | hge
    · rw [seg_fixI_left (by omega) hb (by rw [ea]; exact Nat.mul_le_mul_right _ hlt)]; exact h1 j hlt
    · have : j = i := by omega
      subst this; rw [Nat.succ_mul j, ← ea]; exact seg_fixI_self h (by omega) hb
  · have : (2 * i + 2) * n ≤ j * n := Nat.mul_le_mul_right n (by omega)
    have e0 : a = 2 * i * n := by rw [ea, Nat.mul_comm 2 i, Nat.mul_assoc]
    rw [Nat.add_mul, ← e0] at this
    rw [seg_fixI_right (by omega) hb this]; exact h2 j (by omega)
theorem Half.last {n a : Nat} {L : List α} (p : Half c n a L) (hb : L.length ≤ a + n) : AllB c (2 * n) L := by
  obtain ⟨i, ea, h1, h2⟩ := p.ex
  intro j
  rcases Nat.lt_or_ge j i with hlt | hge
  · exact h1 j hlt
  · rcases Nat.eq_or_lt_of_le hge with he | hgt
    · subst he
      rw [Nat.succ_mul i, ← ea, zcz (by omega)]
      have := p.one.1
      rwa [zcz hb] at this
    · have : (i + 1) * (2 * n) ≤ j * (2 * n) := Nat.mul_le_mul_right _ hgt
      rw [Nat.succ_mul i] at this
      rw [seg_none (by omega)]; exact List.Pairwise.nil
theorem Half.last2 (h : Cmp c) {n a : Nat} {L : List α} (p : Half c n a L) (ha : a ≤ L.length) (hb : L.length < a + 2 * n) : AllB c (2 * n) (fixI c a L.length L) := by
  obtain ⟨i, ea, h1, h2⟩ := p.ex
  intro j
  rcases Nat.lt_or_ge j i with hlt | hge
  · rw [seg_fixI_left ha (Nat.le_refl _) (by rw [ea]; exact Nat.mul_le_mul_right _ hlt)]; exact h1 j hlt
  · have hl := fixI_len (c := c) ha (Nat.le_refl L.length)
    rcases Nat.eq_or_lt_of_le hge with he | hgt
    · subst he; rw [Nat.succ_mul i, ← ea, zcz (by omega), hl]; exact seg_fixI_self h ha (Nat.le_refl _)
    · have : (i + 1) * (2 * n) ≤ j * (2 * n) := Nat.mul_le_mul_right _ hgt
      rw [Nat.succ_mul i] at this
      rw [seg_none (by omega)]; exact List.Pairwise.nil
end
end Lp
/-
  The order of rows as a way of comparing.
-/
set_option linter.unusedVariables false
namespace Lp
open Go
/-- what omega shall not look into -/
structure Hid (p : Prop) : Prop where
  out : p
theorem zaa (o : Int) : Cmp (zI o) := ⟨fun a b => cmpRow_neg o a b, fun a b d => cmpRow_tr o a b d⟩
theorem rot_none {α : Type} {L : List α} {a m b : Nat} (h1 : a ≤ m) (h2 : m ≤ b) (hb : b ≤ L.length) (h : a = m ∨ m = b) : rotL a m b L = L := by
  obtain ⟨P, X, R1, e1, hP, hX⟩ := dec2 (L := L) (a := a) (b := m) h1 (by omega)
  obtain ⟨Z, Y, R, e2, hZ, hY⟩ := dec2 (L := R1) (a := 0) (b := b - m) (by omega) (by have := congrArg List.length e1; simp only [List.length_append] at this; omega)
  rw [List.eq_nil_of_length_eq_zero hZ, List.nil_append] at e2
  subst e2; subst e1
  rw [zb4 (by omega) (by omega) (by omega)]
  rcases h with h | h
  · have : X = [] := List.eq_nil_of_length_eq_zero (by omega)
    subst this; simp
  · have : Y = [] := List.eq_nil_of_length_eq_zero (by omega)
    subst this; simp
theorem half_srt {α : Type} {c : α → α → Int} {L : List α} {a s b : Nat} (h1 : Srt c (seg L a s)) (h2 : Srt c (seg L s b)) (ha : a ≤ s) (hb : s ≤ b) (hl : b ≤ L.length) (h : a = s ∨ s = b) : Srt c (seg L a b) := by
  rcases h with rfl | rfl
  · exact h2
  · exact h1
theorem isrt_fixI {α : Type} {c : α → α → Int} {L : List α} {a b : Nat} (ha : a ≤ b) (hb : b ≤ L.length) : isrt c a b b (a + 1) L = fixI c a b L := by
  obtain ⟨P, X, R, e, hP, hX⟩ := dec2 ha hb
  subst e
  rw [zbQ (a := a) (b := b) (by omega) (by omega)]
  cases X with
  | nil => rw [zaY (by simp at hX; omega)]; rfl
  | cons x X =>
    have key := isrt_isort (c := c) (A := P) (R := R) X.length [x] X rfl
    have e1 : zt c [x] = [x] := rfl
    rw [e1] at key
    simp only [List.length_cons, List.length_nil, List.append_assoc, List.singleton_append] at key hX
    have more : ∀ (n m i : Nat) (L : List α), b ≤ i + n → n ≤ m → isrt c a b m i L = isrt c a b n i L := by
      intro n
      induction n with
      | zero => intro m i L h1 _; rw [zaY (by omega), zaY (by omega)]
      | succ n ih =>
        intro m i L h1 h2
        obtain ⟨m, rfl⟩ : ∃ k, m = k + 1 := ⟨m - 1, by omega⟩
        rcases Nat.lt_or_ge i b with h | h
        · rw [za8 h, za8 h]; exact ih m _ _ (by omega) (by omega)
        · rw [zaY h, zaY h]
    rw [more X.length b (a + 1) _ (by omega) (by omega)]
    subst hP
    rw [show b = P.length + (0 + 1) + X.length by omega, show P.length + 1 = P.length + (0 + 1) by omega]
    exact key
end Lp
/-
  BITS of small numbers; the capacity of a row; a new row of whatever bytes; a copy of nothing.
-/
set_option linter.unusedVariables false
namespace Lp
open Go Go.RowKit

theorem fdiv_nat (a n : Nat) : Int.fdiv (a : Int) (2 ^ n) = ((a / 2 ^ n : Nat) : Int) := by
  rw [show (2 : Int) ^ n = ((2 ^ n : Nat) : Int) by push_cast; rfl]
  rw [Int.fdiv_eq_ediv_of_nonneg _ (Int.natCast_nonneg _)]
  exact (Int.natCast_ediv a (2 ^ n)).symm
section
variable {P : Program} {ty : TypeId} {K : Kd} {H : List Hp} {t t' : TypeId} {x y : Operand}
theorem zdT {k k' : IntKind} {a n m : Nat} (hx : opD K x = some (.v (.int k (a : Int)))) (hy : opD K y = some (.v (.int k' (n : Int)))) (hn : n ≤ k.bits) (hm : 2 ^ n = m) : Pu P (.binOp .shr t x y t') ty K H (.v (.int k ((a / m : Nat) : Int))) :=
  p_bin hx hy (fun w => by
    subst hm
    have h1 : ¬ ((n : Nat) : Int) < 0 := by omega
    have h2 : min n k.bits = n := by omega
    simp [eqGuard, binOp, Op.shift, h1, h2, fdiv_nat])
theorem zdz {n : Nat} (h : n < 256) : IntKind.u8.wrap (n : Int) = (n : Int) := by simp [IntKind.wrap, IntKind.bits, IntKind.signed]; omega
/-- of a row of the call's own the front alone -/
theorem Hp.front {v : Value} {T : TypeId} {xs : List D} {m : Nat} (hm : m ≤ xs.length) : ∀ w F, (Hp.sl v 1 T xs).ok w F → (Hp.sl (cut 1 v 0 m) 1 T (xs.take m)).ok w F := fun w F ⟨us, h1, h2⟩ => by
  have hl := h1.len
  refine ⟨us.take m, h1.take m, ?_⟩
  rcases Nat.eq_zero_or_pos xs.length with h0 | h0
  · have hu : us = [] := List.eq_nil_of_length_eq_zero (by omega)
    have : m = 0 := by omega
    subst this; subst hu
    obtain ⟨A, c, e, _⟩ := h2.sl.capOk
    subst e
    cases A with
    | none => simpa [cut] using h2
    | some a => simpa [cut, Addr.add] using h2
  · obtain ⟨cap, r, e, _⟩ := h2.form (by omega)
    rw [e] at h2
    have := h2.front (m := m) (by omega)
    rw [e]
    simpa [cut, Addr.add] using this
end
end Lp
