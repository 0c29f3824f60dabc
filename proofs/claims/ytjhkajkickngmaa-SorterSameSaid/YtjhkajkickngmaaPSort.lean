/-
  Rows in order, as plain data: what a stable sort is; a merge of lists that are in order is one; it is the only one.
-/
import Derived.Test.YtjhkajkickngmaaV15
set_option linter.unusedVariables false
namespace Lp
open Go

/-- a stands no later than b. -/
def leR (o : Int) (a b : RowD) : Prop := cmpRow o a b ≤ 0
theorem leR.trans {o : Int} {a b c : RowD} (h : leR o a b) (k : leR o b c) : leR o a c := (cmpRow_tr o a b c).le h k
theorem leR.refl (o : Int) (a : RowD) : leR o a a := by unfold leR; have := cmpRow_neg o a a; omega
theorem leR_iff {o : Int} {a b : RowD} : leR o a b ↔ less o b a = false := less_false.symm
theorem leR_of_less {o : Int} {a b : RowD} (h : less o a b = true) : leR o a b := by rw [less_iff] at h; unfold leR; omega
def eqR (o : Int) (a b : RowD) : Bool := decide (cmpRow o a b = 0)
theorem eqR_iff {o : Int} {a b : RowD} : eqR o a b = true ↔ leR o a b ∧ leR o b a := by
  unfold eqR leR; rw [decide_eq_true_eq, cmpRow_neg o a b]; omega
def Sorted (o : Int) : List RowD → Prop
  | [] => True
  | a :: r => (∀ b ∈ r, leR o a b) ∧ Sorted o r
/-- Rows in order, those that stand alike as they stood. -/
structure Stable (o : Int) (l rs : List RowD) : Prop where
  sorted : Sorted o rs
  same : ∀ c, rs.filter (eqR o c) = l.filter (eqR o c)

theorem Stable.unique {o : Int} : ∀ {a b : List RowD}, Sorted o a → Sorted o b → (∀ c, a.filter (eqR o c) = b.filter (eqR o c)) → a = b
  | [], [], _, _, _ => rfl
  | [], y :: b, _, _, h => by
    have := h y
    have e : eqR o y y = true := eqR_iff.2 ⟨leR.refl o y, leR.refl o y⟩
    simp [e] at this
  | x :: a, [], _, _, h => by
    have := h x
    have e : eqR o x x = true := eqR_iff.2 ⟨leR.refl o x, leR.refl o x⟩
    simp [e] at this
  | x :: a, y :: b, ha, hb, h => by
    have ex : eqR o x x = true := eqR_iff.2 ⟨leR.refl o x, leR.refl o x⟩
    have ey : eqR o y y = true := eqR_iff.2 ⟨leR.refl o y, leR.refl o y⟩
    have hx : leR o y x := by
      have hm : x ∈ (x :: a).filter (eqR o x) := by simp [ex]
      rw [h x] at hm
      rcases List.mem_cons.1 (List.mem_filter.1 hm).1 with e | e
      · subst e; exact leR.refl o x
      · exact hb.1 _ e
    have hy : leR o x y := by
      have hm : y ∈ (y :: b).filter (eqR o y) := by simp [ey]
      rw [← h y] at hm
      rcases List.mem_cons.1 (List.mem_filter.1 hm).1 with e | e
      · subst e; exact leR.refl o y
      · exact ha.1 _ e
    have exy : eqR o x y = true := eqR_iff.2 ⟨hy, hx⟩
    have h0 := h x
    rw [List.filter_cons_of_pos ex, List.filter_cons_of_pos exy] at h0
    injection h0 with e _
    subst e
    congr 1
    refine Stable.unique ha.2 hb.2 (fun c => ?_)
    have := h c
    by_cases ec : eqR o c x = true
    · rw [List.filter_cons_of_pos ec, List.filter_cons_of_pos ec] at this
      injection this
    · rw [List.filter_cons_of_neg ec, List.filter_cons_of_neg ec] at this
      exact this
theorem Stable.eq {o : Int} {l a b : List RowD} (h : Stable o l a) (k : Stable o l b) : a = b := Stable.unique h.sorted k.sorted (fun c => (h.same c).trans (k.same c).symm)
theorem Stable.mem {o : Int} {l a : List RowD} (h : Stable o l a) {x : RowD} : x ∈ a ↔ x ∈ l := by
  have e : eqR o x x = true := eqR_iff.2 ⟨leR.refl o x, leR.refl o x⟩
  have := h.same x
  constructor
  · intro hx
    have : x ∈ a.filter (eqR o x) := List.mem_filter.2 ⟨hx, e⟩
    rw [h.same x] at this; exact (List.mem_filter.1 this).1
  · intro hx
    have : x ∈ l.filter (eqR o x) := List.mem_filter.2 ⟨hx, e⟩
    rw [← h.same x] at this; exact (List.mem_filter.1 this).1
theorem Stable.nil (o : Int) : Stable o [] [] := ⟨trivial, fun _ => rfl⟩

theorem flatten_get {ll : LLs} {m : Nat} {l : List RowD} (h : ll[m]? = some l) : ll.flatten = (ll.take m).flatten ++ l ++ (ll.drop (m + 1)).flatten := by
  conv => lhs; rw [← List.take_append_drop m ll]
  have hm := (List.getElem?_eq_some_iff.1 h).1
  rw [List.flatten_append, List.drop_eq_getElem_cons hm, List.flatten_cons, (List.getElem?_eq_some_iff.1 h).2, List.append_assoc]
theorem pop_flatten {ll : LLs} {m : Nat} {x : RowD} {r : List RowD} (h : ll[m]? = some (x :: r)) : (pop ll m).flatten = (ll.take m).flatten ++ r ++ (ll.drop (m + 1)).flatten := by
  have hm := (List.getElem?_eq_some_iff.1 h).1
  have e : ll.getD m [] = x :: r := by rw [List.getD_eq_getElem?_getD, h]; rfl
  have h2 : (pop ll m)[m]? = some r := by unfold pop; rw [List.getElem?_set_self hm, e]; rfl
  rw [flatten_get h2]
  unfold pop
  rw [List.take_set_of_le (Nat.le_refl m), List.drop_set_of_lt (by omega)]

/-- A merge of lists that are in order brings all rows in order; rows that stand alike come list by list. -/
theorem Run.stable {o : Int} {ll : LLs} {rs : List RowD} {hs : List Nat} (h : Run o ll rs hs) : (∀ l ∈ ll, Sorted o l) → Stable o ll.flatten rs := by
  induction h with
  | @done ll h =>
    intro _
    have : ll.flatten = [] := by
      apply List.flatten_eq_nil_iff.2
      intro l hl
      obtain ⟨i, hi⟩ := List.getElem?_of_mem hl
      have := h i
      unfold hd at this
      rw [hi] at this
      cases l with
      | nil => rfl
      | cons y t => cases this
    rw [this]; exact Stable.nil o
  | @step ll m x rs hs hx hw _ ih =>
    intro hs'
    obtain ⟨r, hr⟩ := hd_get hx
    have hsm := hs' _ (List.mem_of_getElem? hr)
    have ih := ih (by
      intro l hl
      unfold pop at hl
      rcases List.mem_or_eq_of_mem_set hl with hl | rfl
      · exact hs' l hl
      · rw [List.getD_eq_getElem?_getD, hr]; exact hsm.2)
    have min : ∀ j l, ll[j]? = some l → ∀ y ∈ l, leR o x y ∧ (j < m → less o x y = true) := by
      intro j l hl y hy
      cases l with
      | nil => cases hy
      | cons z t =>
        have hz : hd ll j = some z := by unfold hd; rw [hl]; rfl
        obtain ⟨x', hx', k1, k2⟩ := hw j z hz
        rw [hx] at hx'; injection hx' with e; subst e
        have hsl := hs' _ (List.mem_of_getElem? hl)
        have hzy : leR o z y := by
          rcases List.mem_cons.1 hy with rfl | hy
          · exact leR.refl o _
          · exact hsl.1 _ hy
        refine ⟨(leR_iff.2 k1).trans hzy, fun hlt => ?_⟩
        have := k2 hlt
        rw [less_iff] at this ⊢
        exact (cmpRow_tr o x z y).lt1 this hzy
    have hpf := pop_flatten hr
    have hff := flatten_get hr
    refine ⟨⟨fun y hy => ?_, ih.sorted⟩, fun c => ?_⟩
    · have := ih.mem.1 hy
      have hy' : y ∈ ll.flatten := by
        rw [hpf] at this; rw [hff]
        simp only [List.mem_append, List.mem_cons] at this ⊢
        rcases this with (h | h) | h
        · exact .inl (.inl h)
        · exact .inl (.inr (.inr h))
        · exact .inr h
      obtain ⟨l, hl, hyl⟩ := List.mem_flatten.1 hy'
      obtain ⟨j, hj⟩ := List.getElem?_of_mem hl
      exact (min j l hj y hyl).1
    · have ihc := ih.same c
      rw [hpf] at ihc
      rw [hff]
      by_cases ec : eqR o c x = true
      · rw [List.filter_cons_of_pos ec, ihc]
        have h0 : (ll.take m).flatten.filter (eqR o c) = [] := by
          rw [List.filter_eq_nil_iff]
          intro y hy
          obtain ⟨l, hl, hyl⟩ := List.mem_flatten.1 hy
          obtain ⟨j, hj⟩ := List.getElem?_of_mem hl
          have hjm : j < m := by
            have := (List.getElem?_eq_some_iff.1 hj).1
            rw [List.length_take] at this; omega
          rw [List.getElem?_take, if_pos hjm] at hj
          have := (min j l hj y hyl).2 hjm
          intro hcy
          rw [eqR_iff] at hcy ec
          have k := leR.trans hcy.2 ec.1
          rw [leR_iff] at k
          rw [k] at this; cases this
        simp only [List.filter_append, h0, List.nil_append, List.filter_cons_of_pos ec, List.cons_append]
      · rw [List.filter_cons_of_neg ec, ihc]
        simp only [List.filter_append, List.filter_cons_of_neg ec]

/-! ### the sort by insertion -/
/-- From the right: how far a row goes ahead. -/
def posR (o : Int) (x : RowD) (out : List RowD) : Nat → Nat
  | 0 => 0
  | n + 1 => match out[n]? with
    | some y => if less o x y = true then posR o x out n else n + 1
    | none => n + 1
def insR (o : Int) (x : RowD) (out : List RowD) : List RowD := out.take (posR o x out out.length) ++ [x] ++ out.drop (posR o x out out.length)
def sortR (o : Int) (l : List RowD) : List RowD := l.foldl (fun out x => insR o x out) []
theorem posR_le (o : Int) (x : RowD) (out : List RowD) : ∀ n, posR o x out n ≤ n
  | 0 => Nat.le_refl _
  | n + 1 => by
    unfold posR
    split
    · split
      · have := posR_le o x out n; omega
      · exact Nat.le_refl _
    · exact Nat.le_refl _
theorem posR_right {o : Int} {x : RowD} {out : List RowD} : ∀ {n : Nat}, ∀ j, posR o x out n ≤ j → j < n → ∀ y, out[j]? = some y → less o x y = true
  | 0, j, _, h, _, _ => absurd h (Nat.not_lt_zero _)
  | n + 1, j, h1, h2, y, hy => by
    unfold posR at h1
    split at h1
    · rename_i z hz
      split at h1
      · rename_i hl
        rcases Nat.lt_or_ge j n with h | h
        · exact posR_right j h1 h y hy
        · have : j = n := by omega
          subst this; rw [hz] at hy; injection hy with e; subst e; exact hl
      · omega
    · omega
theorem posR_left {o : Int} {x : RowD} {out : List RowD} : ∀ {n : Nat}, n ≤ out.length → 0 < posR o x out n → ∃ y, out[posR o x out n - 1]? = some y ∧ less o x y = false
  | 0, _, h => by unfold posR at h; omega
  | n + 1, hn, h => by
    unfold posR at h ⊢
    obtain ⟨z, hz⟩ := get_some out n (by omega)
    simp only [hz] at h ⊢
    by_cases hl : less o x z = true
    · rw [if_pos hl] at h ⊢; exact posR_left (by omega) h
    · rw [if_neg hl] at h ⊢; exact ⟨z, by simpa using hz, by simpa using hl⟩
theorem Sorted.append {o : Int} : ∀ {a b : List RowD}, Sorted o a → Sorted o b → (∀ x ∈ a, ∀ y ∈ b, leR o x y) → Sorted o (a ++ b)
  | [], _, _, hb, _ => hb
  | x :: a, b, ha, hb, h => ⟨fun y hy => by
      rcases List.mem_append.1 hy with hy | hy
      · exact ha.1 y hy
      · exact h x List.mem_cons_self y hy, Sorted.append ha.2 hb (fun u hu y hy => h u (List.mem_cons_of_mem _ hu) y hy)⟩
theorem Sorted.get {o : Int} : ∀ {a : List RowD}, Sorted o a → ∀ {i j : Nat} {x y : RowD}, i ≤ j → a[i]? = some x → a[j]? = some y → leR o x y
  | [], _, _, _, _, _, _, h, _ => by cases h
  | u :: a, ha, 0, 0, x, y, _, h1, h2 => by rw [h1] at h2; injection h2 with e; subst e; exact leR.refl o x
  | u :: a, ha, 0, j + 1, x, y, _, h1, h2 => by
    simp at h1 h2; subst h1; exact ha.1 y (List.mem_of_getElem? h2)
  | u :: a, ha, i + 1, j + 1, x, y, h, h1, h2 => by simp at h1 h2; exact Sorted.get ha.2 (by omega) h1 h2
  | u :: a, ha, i + 1, 0, x, y, h, _, _ => by omega
theorem Sorted.take {o : Int} : ∀ {a : List RowD} (n : Nat), Sorted o a → Sorted o (a.take n)
  | [], n, _ => by simp [Sorted]
  | x :: a, 0, _ => trivial
  | x :: a, n + 1, h => ⟨fun y hy => h.1 y (List.mem_of_mem_take hy), Sorted.take n h.2⟩
theorem Sorted.drop {o : Int} : ∀ {a : List RowD} (n : Nat), Sorted o a → Sorted o (a.drop n)
  | [], n, _ => by simp [Sorted]
  | x :: a, 0, h => h
  | x :: a, n + 1, h => Sorted.drop n h.2
theorem insR_stable {o : Int} {x : RowD} {l out : List RowD} (h : Stable o l out) : Stable o (l ++ [x]) (insR o x out) := by
  have hle := posR_le o x out out.length
  have hleft : ∀ u ∈ out.take (posR o x out out.length), leR o u x := by
    intro u hu
    obtain ⟨i, hi⟩ := List.getElem?_of_mem hu
    rw [List.getElem?_take] at hi
    split at hi
    · rename_i hlt
      obtain ⟨y, hy, hl⟩ := posR_left (o := o) (x := x) (out := out) (n := out.length) (Nat.le_refl _) (by omega)
      exact (h.sorted.get (by omega) hi hy).trans (leR_iff.2 hl)
    · cases hi
  have hright : ∀ u ∈ out.drop (posR o x out out.length), less o x u = true := by
    intro u hu
    obtain ⟨i, hi⟩ := List.getElem?_of_mem hu
    rw [List.getElem?_drop] at hi
    exact posR_right _ (by omega) (get_lt hi) u hi
  refine ⟨?_, fun c => ?_⟩
  · unfold insR
    refine Sorted.append (Sorted.append (h.sorted.take _) ⟨by simp, trivial⟩ ?_) (h.sorted.drop _) ?_
    · intro u hu y hy; simp at hy; subst hy; exact hleft u hu
    · intro u hu y hy
      have hxy := leR_of_less (hright y hy)
      rcases List.mem_append.1 hu with hu | hu
      · exact (hleft u hu).trans hxy
      · simp at hu; subst hu; exact hxy
  · unfold insR
    rw [List.filter_append, List.filter_append, List.filter_append, ← h.same c]
    conv => rhs; rw [← List.take_append_drop (posR o x out out.length) out, List.filter_append]
    by_cases ec : eqR o c x = true
    · have h0 : (out.drop (posR o x out out.length)).filter (eqR o c) = [] := by
        rw [List.filter_eq_nil_iff]
        intro y hy hcy
        have := hright y hy
        rw [eqR_iff] at ec hcy
        have k := leR.trans hcy.2 ec.1
        rw [leR_iff] at k
        rw [k] at this; cases this
      rw [h0]; simp
    · simp [List.filter_cons_of_neg ec]
theorem sortR_stable (o : Int) (l : List RowD) : Stable o l (sortR o l) := by
  have : ∀ (l done_ out : List RowD), Stable o done_ out → Stable o (done_ ++ l) (l.foldl (fun out x => insR o x out) out) := by
    intro l
    induction l with
    | nil => intro d out h; simpa using h
    | cons x r ih =>
      intro d out h
      have := ih (d ++ [x]) _ (insR_stable (x := x) h)
      simpa using this
  have := this l [] [] (Stable.nil o)
  unfold sortR; simpa using this
theorem sortR_snoc (o : Int) (l : List RowD) (x : RowD) : sortR o (l ++ [x]) = insR o x (sortR o l) := by unfold sortR; rw [List.foldl_append]; rfl
theorem sortR_length (o : Int) (l : List RowD) : (sortR o l).length = l.length := by
  have : ∀ (l out : List RowD), (l.foldl (fun out x => insR o x out) out).length = out.length + l.length := by
    intro l
    induction l with
    | nil => intro out; simp
    | cons x r ih =>
      intro out
      rw [List.foldl_cons, ih]
      have := posR_le o x out out.length
      simp [insR]; omega
  simpa [sortR] using this l []
end Lp
namespace Lp
open Go
end Lp
namespace Lp
open Go
theorem posR_next {o : Int} {x y : RowD} {out : List RowD} {k m n : Nat} (hy : out[k]? = some y) (hk : k + 1 = n) (hm : m + 1 = n) (hl : less o x y = true) : posR o x out n = posR o x out m := by
  subst hk
  obtain rfl : m = k := by omega
  conv => lhs; unfold posR
  simp only [hy, hl, if_true]
theorem posR_stop {o : Int} {x y : RowD} {out : List RowD} {k n : Nat} (hy : out[k]? = some y) (hk : k + 1 = n) (hl : less o x y = false) : posR o x out n = n := by
  subst hk
  conv => lhs; unfold posR
  simp [hy, hl]
theorem sort_eq {o : Int} {x : RowD} {l out : List RowD} {n k : Nat} (hx : l[k]? = some x) (hout : out = sortR o (l.take k)) (hp : posR o x out out.length = n) : (((out.take n).drop 0 ++ [x]) ++ (out.take out.length).drop n) = sortR o (l.take (k + 1)) := by
  rw [take_snoc hx, sortR_snoc, ← hout]
  unfold insR
  rw [hp, List.drop_zero, List.take_length]
end Lp
namespace Lp
open Go
end Lp
