/-
  Rows in order, as plain data: what a stable sort is; a merge of lists that are in order is one; it is the only one.
-/
import Derived.Test.YtoanlikkhjohpaaGreatV15
set_option linter.unusedVariables false
namespace Lp
open Go

/-- a stands no later than b. -/
def leR (o : Int) (a b : RowD) : Prop := zC o a b ≤ 0
theorem leR.trans {o : Int} {a b c : RowD} (h : leR o a b) (k : leR o b c) : leR o a c := (cmpRow_tr o a b c).le h k
theorem leR.refl (o : Int) (a : RowD) : leR o a a := by unfold leR; have := zb4 o a a; omega
theorem leR_iff {o : Int} {a b : RowD} : leR o a b ↔ less o b a = false := zb3.symm
theorem leR_of_less {o : Int} {a b : RowD} (h : less o a b = true) : leR o a b := by rw [zcq] at h; unfold leR; omega
def eqR (o : Int) (a b : RowD) : Bool := decide (zC o a b = 0)
theorem zcA {o : Int} {a b : RowD} : eqR o a b = true ↔ leR o a b ∧ leR o b a := by
  unfold eqR leR; rw [decide_eq_true_eq, zb4 o a b]; omega
def zaK (o : Int) : List RowD → Prop
  | [] => True
  | a :: r => (∀ b ∈ r, leR o a b) ∧ zaK o r
/-- Rows in order, those that stand alike as they stood. -/
structure Stable (o : Int) (l rs : List RowD) : Prop where
  sorted : zaK o rs
  same : ∀ c, rs.filter (eqR o c) = l.filter (eqR o c)

theorem Stable.unique {o : Int} : ∀ {a b : List RowD}, zaK o a → zaK o b → (∀ c, a.filter (eqR o c) = b.filter (eqR o c)) → a = b
  | [], [], _, _, _ => rfl
  | [], y :: b, _, _, h => by
    have := h y
    have e : eqR o y y = true := zcA.2 ⟨leR.refl o y, leR.refl o y⟩
    simp [e] at this
  | x :: a, [], _, _, h => by
    have := h x
    have e : eqR o x x = true := zcA.2 ⟨leR.refl o x, leR.refl o x⟩
    simp [e] at this
  | x :: a, y :: b, ha, hb, h => by
    have ex : eqR o x x = true := zcA.2 ⟨leR.refl o x, leR.refl o x⟩
    have ey : eqR o y y = true := zcA.2 ⟨leR.refl o y, leR.refl o y⟩
    have hx : leR o y x := by
      have hm : x ∈ (x :: a).filter (eqR o x) := by simp [ex]
      rw [h x] at hm
      rcases List.mem_cons.1 (List.mem_filter.1 hm).1 with e | e
      · subst e; exact leR.refl o x
      · exact hb.1 _ e
    have hy : leR o x y := by
      have hm : y ∈ (y :: b).filter (eqR o y) := by simp [ey]
      rw [← h y] at hm
      rcases List.mem_cons.1 (List.mem_filter.1 hm).1 with e | e
      · subst e; exact leR.refl o y
      · exact ha.1 _ e
    have exy : eqR o x y = true := zcA.2 ⟨hy, hx⟩
    have h0 := h x
    rw [List.filter_cons_of_pos ex, List.filter_cons_of_pos exy] at h0
    injection h0 with e _
    subst e
    congr 1
    refine Stable.unique ha.2 hb.2 (fun c => ?_)
    have := h c
    by_cases ec : eqR o c x = true
    · rw [List.filter_cons_of_pos ec, List.filter_cons_of_pos ec] at this
      injection this
    · rw [List.filter_cons_of_neg ec, List.filter_cons_of_neg ec] at this
      exact this
theorem Stable.eq {o : Int} {l a b : List RowD} (h : Stable o l a) (k : Stable o l b) : a = b := Stable.unique h.sorted k.sorted (fun c => (h.same c).trans (k.same c).symm)
theorem Stable.mem {o : Int} {l a : List RowD} (h : Stable o l a) {x : RowD} : x ∈ a ↔ x ∈ l := by
  have e : eqR o x x = true := zcA.2 ⟨leR.refl o x, leR.refl o x⟩
  have := h.same x
  constructor
  · intro hx
    have : x ∈ a.filter (eqR o x) := List.mem_filter.2 ⟨hx, e⟩
    rw [h.same x] at this; exact (List.mem_filter.1 this).1
  · intro hx
    have : x ∈ l.filter (eqR o x) := List.mem_filter.2 ⟨hx, e⟩
    rw [← h.same x] at this; exact (List.mem_filter.1 this).1
theorem Stable.nil (o : Int) : Stable o [] [] := ⟨trivial, fun _ => rfl⟩

theorem flatten_get {ll : LLs} {m : Nat} {l : List RowD} (h : ll[m]? = some l) : ll.flatten = (ll.take m).flatten ++ l ++ (ll.drop (m + 1)).flatten := by
  conv => lhs; rw [← List.take_append_drop m ll]
  have hm := (List.getElem?_eq_some_iff.1 h).1
  rw [List.flatten_append, List.drop_eq_getElem_cons hm, List.flatten_cons, (List.getElem?_eq_some_iff.1 h).2, List.append_assoc]
theorem pop_flatten {ll : LLs} {m : Nat} {x : RowD} {r : List RowD} (h : ll[m]? = some (x :: r)) : (pop ll m).flatten = (ll.take m).flatten ++ r ++ (ll.drop (m + 1)).flatten := by
  have hm := (List.getElem?_eq_some_iff.1 h).1
  have e : ll.getD m [] = x :: r := by rw [List.getD_eq_getElem?_getD, h]; rfl
  have h2 : (pop ll m)[m]? = some r := by unfold pop; rw [List.getElem?_set_self hm, e]; rfl
  rw [flatten_get h2]
  unfold pop
  rw [List.take_set_of_le (Nat.le_refl m), List.drop_set_of_lt (by omega)]

/-- A merge of lists that are in order brings all rows in order; rows that stand alike come list by list. -/
theorem Run.stable {o : Int} {ll : LLs} {rs : List RowD} {hs : List Nat} (h : Run o ll rs hs) : (∀ l ∈ ll, zaK o l) → Stable o ll.flatten rs := by
  induction h with
  | @done ll h =>
    intro _
    have : ll.flatten = [] := by
      apply List.flatten_eq_nil_iff.2
      intro l hl
      obtain ⟨i, hi⟩ := List.getElem?_of_mem hl
      have := h i
      unfold hd at this
      rw [hi] at this
      cases l with
      | nil => rfl
      | cons y t => cases this
    rw [this]; exact Stable.nil o
  | @step ll m x rs hs hx hw _ ih =>
    intro hs'
    obtain ⟨r, hr⟩ := zdJ hx
    have hsm := hs' _ (List.mem_of_getElem? hr)
    have ih := ih (by
      intro l hl
      unfold pop at hl
      rcases List.mem_or_eq_of_mem_set hl with hl | rfl
      · exact hs' l hl
      · rw [List.getD_eq_getElem?_getD, hr]; exact hsm.2)
    have min : ∀ j l, ll[j]? = some l → ∀ y ∈ l, leR o x y ∧ (j < m → less o x y = true) := by
      intro j l hl y hy
      cases l with
      | nil => cases hy
      | cons z t =>
        have hz : hd ll j = some z := by unfold hd; rw [hl]; rfl
        obtain ⟨x', hx', k1, k2⟩ := hw j z hz
        rw [hx] at hx'; injection hx' with e; subst e
        have hsl := hs' _ (List.mem_of_getElem? hl)
        have hzy : leR o z y := by
          rcases List.mem_cons.1 hy with rfl | hy
          · exact leR.refl o _
          · exact hsl.1 _ hy
        refine ⟨(leR_iff.2 k1).trans hzy, fun hlt => ?_⟩
        have := k2 hlt
        rw [zcq] at this ⊢
        exact (cmpRow_tr o x z y).lt1 this hzy
    have hpf := pop_flatten hr
    have hff := flatten_get hr
    refine ⟨⟨fun y hy => ?_, ih.sorted⟩, fun c => ?_⟩
    · have := ih.mem.1 hy
      have hy' : y ∈ ll.flatten := by
        rw [hpf] at this; rw [hff]
        simp only [List.mem_append, List.mem_cons] at this ⊢
        rcases this with (h | h) | h
        · exact .inl (.inl h)
        · exact .inl (.inr (.inr h))
        · exact .inr h
      obtain ⟨l, hl, hyl⟩ := List.mem_flatten.1 hy'
      obtain ⟨j, hj⟩ := List.getElem?_of_mem hl
      exact (min j l hj y hyl).1
    · have ihc := ih.same c
      rw [hpf] at ihc
      rw [hff]
      by_cases ec : eqR o c x = true
      · rw [List.filter_cons_of_pos ec, ihc]
        have h0 : (ll.take m).flatten.filter (eqR o c) = [] := by
          rw [List.filter_eq_nil_iff]
          intro y hy
          obtain ⟨l, hl, hyl⟩ := List.mem_flatten.1 hy
          obtain ⟨j, hj⟩ := List.getElem?_of_mem hl
          have hjm : j < m := by
            have := (List.getElem?_eq_some_iff.1 hj).1
            rw [List.length_take] at this; omega
          rw [List.getElem?_take, if_pos hjm] at hj
          have := (min j l hj y hyl).2 hjm
          intro hcy
          rw [zcA] at hcy ec
          have k := leR.trans hcy.2 ec.1
          rw [leR_iff] at k
          rw [k] at this; cases this
        simp only [List.filter_append, h0, List.nil_append, List.filter_cons_of_pos ec, List.cons_append]
      · rw [List.filter_cons_of_neg ec, ihc]
        simp only [List.filter_append, List.filter_cons_of_neg ec]

/-! ### the sort by insertion -/
/-- From the right: how far a row goes ahead. -/
def posR (o : Int) (x : RowD) (out : List RowD) : Nat → Nat
  | 0 => 0
  | n + 1 => match out[n]? with
    | some y => if less o x y = true then posR o x out n else n + 1
    | none => n + 1
def insR (o : Int) (x : RowD) (out : List RowD) : List RowD := out.take (posR o x out out.length) ++ [x] ++ out.drop (posR o x out out.length)
def zaH (o : Int) (l : List RowD) : List RowD := l.foldl (fun out x => insR o x out) []
theorem posR_le (o : Int) (x : RowD) (out : List RowD) : ∀ n, posR o x out n ≤ n
  | 0 => Nat.le_refl _
  | n + 1 => by
    unfold posR
    split
    · split
      · have := posR_le o x out n; omega
      · exact Nat.le_refl _
    · exact Nat.le_refl _
theorem posR_right {o : Int} {x : RowD} {out : List RowD} : ∀ {n : Nat}, ∀ j, posR o x out n ≤ j → j < n → ∀ y, out[j]? = some y → less o x y = true
  | 0, j, _, h, _, _ => absurd h (Nat.not_lt_zero _)
  | n + 1, j, h1, h2, y, hy => by
    unfold posR at h1
    split at h1
    · rename_i z hz
      split at h1
      · rename_i hl
        rcases Nat.lt_or_ge j n with h | h
        · exact posR_right j h1 h y hy
        · have : j = n := by omega
          subst this; rw [hz] at hy; injection hy with e; subst e; exact hl
      · omega
    · omega
theorem posR_left {o : Int} {x : RowD} {out : List RowD} : ∀ {n : Nat}, n ≤ out.length → 0 < posR o x out n → ∃ y, out[posR o x out n - 1]? = some y ∧ less o x y = false
  | 0, _, h => by unfold posR at h; omega
  | n + 1, hn, h => by
    unfold posR at h ⊢
    obtain ⟨z, hz⟩ := zJ out n (by omega)
    simp only [hz] at h ⊢
    by_cases hl : less o x z = true
    · rw [if_pos hl] at h ⊢; exact posR_left (by omega) h
    · rw [if_neg hl] at h ⊢; exact ⟨z, by simpa using hz, by simpa using hl⟩
theorem zaK.append {o : Int} : ∀ {a b : List RowD}, zaK o a → zaK o b → (∀ x ∈ a, ∀ y ∈ b, leR o x y) → zaK o (a ++ b)
  | [], _, _, hb, _ => hb
  | x :: a, b, ha, hb, h => ⟨fun y hy => by
      rcases List.mem_append.1 hy with hy | hy
      · exact ha.1 y hy
      · exact h x List.mem_cons_self y hy, zaK.append ha.2 hb (fun u hu y hy => h u (List.mem_cons_of_mem _ hu) y hy)⟩
theorem zaK.get {o : Int} : ∀ {a : List RowD}, zaK o a → ∀ {i j : Nat} {x y : RowD}, i ≤ j → a[i]? = some x → a[j]? = some y → leR o x y
  | [], _, _, _, _, _, _, h, _ => by cases h
  | u :: a, ha, 0, 0, x, y, _, h1, h2 => by rw [h1] at h2; injection h2 with e; subst e; exact leR.refl o x
  | u :: a, ha, 0, j + 1, x, y, _, h1, h2 => by
    simp at h1 h2; subst h1; exact ha.1 y (List.mem_of_getElem? h2)
  | u :: a, ha, i + 1, j + 1, x, y, h, h1, h2 => by simp at h1 h2; exact zaK.get ha.2 (by omega) h1 h2
  | u :: a, ha, i + 1, 0, x, y, h, _, _ => by omega
theorem zaK.take {o : Int} : ∀ {a : List RowD} (n : Nat), zaK o a → zaK o (a.take n)
  | [], n, _ => by simp [zaK]
  | x :: a, 0, _ => trivial
  | x :: a, n + 1, h => ⟨fun y hy => h.1 y (List.mem_of_mem_take hy), zaK.take n h.2⟩
theorem zaK.drop {o : Int} : ∀ {a : List RowD} (n : Nat), zaK o a → zaK o (a.drop n)
  | [], n, _ => by simp [zaK]
  | x :: a, 0, h => h
  | x :: a, n + 1, h => zaK.drop n h.2
theorem insR_stable {o : Int} {x : RowD} {l out : List RowD} (h : Stable o l out) : Stable o (l ++ [x]) (insR o x out) := by
  have hle := posR_le o x out out.length
  have hleft : ∀ u ∈ out.take (posR o x out out.length), leR o u x := by
    intro u hu
    obtain ⟨i, hi⟩ := List.getElem?_of_mem hu
    rw [List.getElem?_take] at hi
    split at hi
    · rename_i hlt
      obtain ⟨y, hy, hl⟩ := posR_left (o := o) (x := x) (out := out) (n := out.length) (Nat.le_refl _) (by omega)
      exact (h.sorted.get (by omega) hi hy).trans (leR_iff.2 hl)
    · cases hi
  have hright : ∀ u ∈ out.drop (posR o x out out.length), less o x u = true := by
    intro u hu
    obtain ⟨i, hi⟩ := List.getElem?_of_mem hu
    rw [List.getElem?_drop] at hi
    exact posR_right _ (by omega) (zbm hi) u hi
  refine ⟨?_, fun c => ?_⟩
  · unfold insR
    refine zaK.append (zaK.append (h.sorted.take _) ⟨by simp, trivial⟩ ?_) (h.sorted.drop _) ?_
    · intro u hu y hy; simp at hy; subst hy; exact hleft u hu
    · intro u hu y hy
      have hxy := leR_of_less (hright y hy)
      rcases List.mem_append.1 hu with hu | hu
      · exact (hleft u hu).trans hxy
      · simp at hu; subst hu; exact hxy
  · unfold insR
    rw [List.filter_append, List.filter_append, List.filter_append, ← h.same c]
    conv => rhs; rw [← List.take_append_drop (posR o x out out.length) out, List.filter_append]
    by_cases ec : eqR o c x = true
    · have h0 : (out.drop (posR o x out out.length)).filter (eqR o c) = [] := by
        rw [List.filter_eq_nil_iff]
        intro y hy hcy
        have := hright y hy
        rw [zcA] at ec hcy
        have k := leR.trans hcy.2 ec.1
        rw [leR_iff] at k
        rw [k] at this; cases this
      rw [h0]; simp
    · simp [List.filter_cons_of_neg ec]
theorem sortR_stable (o : Int) (l : List RowD) : Stable o l (zaH o l) := by
  have : ∀ (l done_ out : List RowD), Stable o done_ out → Stable o (done_ ++ l) (l.foldl (fun out x => insR o x out) out) := by
    intro l
    induction l with
    | nil => intro d out h; simpa using h
    | cons x r ih =>
      intro d out h
      have := ih (d ++ [x]) _ (insR_stable (x := x) h)
      simpa using this
  have := this l [] [] (Stable.nil o)
  unfold zaH; simpa using this
theorem sortR_snoc (o : Int) (l : List RowD) (x : RowD) : zaH o (l ++ [x]) = insR o x (zaH o l) := by unfold zaH; rw [List.foldl_append]; rfl
theorem sortR_length (o : Int) (l : List RowD) : (zaH o l).length = l.length := by
  have : ∀ (l out : List RowD), (l.foldl (fun out x => insR o x out) out).length = out.length + l.length := by
    intro l
    induction l with
    | nil => intro out; simp
    | cons x r ih =>
      intro out
      rw [List.foldl_cons, ih]
      have := posR_le o x out out.length
      simp [insR]; omega
  simpa [zaH] using this l []
end Lp
namespace Lp
open Go
end Lp
namespace Lp
open Go
theorem posR_next {o : Int} {x y : RowD} {out : List RowD} {k m n : Nat} (hy : out[k]? = some y) (hk : k + 1 = n) (hm : m + 1 = n) (hl : less o x y = true) : posR o x out n = posR o x out m := by
  subst hk
  obtain rfl : m = k := by omega
  conv => lhs; unfold posR
  simp only [hy, hl, if_true]
theorem posR_stop {o : Int} {x y : RowD} {out : List RowD} {k n : Nat} (hy : out[k]? = some y) (hk : k + 1 = n) (hl : less o x y = false) : posR o x out n = n := by
  subst hk
  conv => lhs; unfold posR
  simp [hy, hl]
theorem sort_eq {o : Int} {x : RowD} {l out : List RowD} {n k : Nat} (hx : l[k]? = some x) (hout : out = zaH o (l.take k)) (hp : posR o x out out.length = n) : (((out.take n).drop 0 ++ [x]) ++ (out.take out.length).drop n) = zaH o (l.take (k + 1)) := by
  rw [zaD hx, sortR_snoc, ← hout]
  unfold insR
  rw [hp, List.drop_zero, List.take_length]
end Lp
namespace Lp
open Go
end Lp
/-
  The tree of a merge, as data; places in lists; the document's own merge.
-/
set_option linter.unusedVariables false
namespace Lp
open Go Go.RowKit

structure TreeD where
  o : Int
  l : LLs
  width : Nat
  best : List Nat
def TreeD.d (t : TreeD) : D := .agg [.v (.int .i64 t.o), .sh 1 (t.l.map (D.ls 2 RowD.d)), .v (.int .i64 (t.width : Int)), .sh 1 (t.best.map dN)]

theorem hd_at {ll : LLs} {k : Nat} {l : List RowD} (h : ll[k]? = some l) : hd ll k = l.head? := by unfold hd; rw [h]; rfl
theorem hd_far {ll : LLs} {k : Nat} (h : ll.length ≤ k) : hd ll k = none := by unfold hd; rw [List.getElem?_eq_none h]; rfl
theorem hd_zero {ll : LLs} {k : Nat} {l : List RowD} (h : ll[k]? = some l) (h0 : l.length = 0) : hd ll k = none := by
  rw [hd_at h, List.eq_nil_of_length_eq_zero h0]; rfl
theorem hd_first {ll : LLs} {k : Nat} {l : List RowD} {x : RowD} (h : ll[k]? = some l) (h0 : l[0]? = some x) : hd ll k = some x := by
  rw [hd_at h]; cases l with
  | nil => simp at h0
  | cons y r => simpa using h0
theorem pop_at {ll : LLs} {k : Nat} {l : List RowD} (h : ll[k]? = some l) : ll.set k ((l.take l.length).drop 1) = pop ll k := by
  unfold pop; rw [List.getD_eq_getElem?_getD, h, List.take_length]; rfl
theorem set_step {c : List Nat} {wd k : Nat} (h : ∀ j, j < k → c[wd + j]? = some j) (hl : wd + k < c.length) : ∀ j, j < k + 1 → (c.set (wd + k) k)[wd + j]? = some j := by
  intro j hj
  by_cases e : j = k
  · subst e; rw [List.getElem?_set_self hl]
  · rw [List.getElem?_set_ne (by omega)]; exact h j (by omega)
/-- What is left of lists of which so many rows are taken. -/
def rest (ll : LLs) (c : List Nat) : LLs := List.zipWith (fun l n => l.drop n) ll c
theorem zcG {ll : LLs} {c : List Nat} {i n : Nat} {l : List RowD} (h : ll[i]? = some l) (hc : c[i]? = some n) : (rest ll c)[i]? = some (l.drop n) := by
  unfold rest; rw [List.getElem?_zipWith, h, hc]
theorem rest_length {ll : LLs} {c : List Nat} (h : c.length = ll.length) : (rest ll c).length = ll.length := by unfold rest; rw [List.length_zipWith, h]; omega
theorem rest_zero (ll : LLs) : rest ll (List.replicate ll.length 0) = ll := by
  apply List.ext_getElem?
  intro i
  rcases Nat.lt_or_ge i ll.length with h | h
  · obtain ⟨l, hl⟩ := zJ ll i h
    rw [zcG hl (by rw [List.getElem?_replicate, if_pos h]), hl]; rfl
  · rw [List.getElem?_eq_none (by rw [rest_length List.length_replicate]; exact h), List.getElem?_eq_none h]
theorem hd_rest {ll : LLs} {c : List Nat} {i n : Nat} {l : List RowD} (h : ll[i]? = some l) (hc : c[i]? = some n) : hd (rest ll c) i = l[n]? := by
  unfold hd; rw [zcG h hc]; simp [List.head?_drop]
theorem zcY {ll : LLs} {c : List Nat} {i n : Nat} {l : List RowD} (h : ll[i]? = some l) (hc : c[i]? = some n) : pop (rest ll c) i = rest ll (c.set i (n + 1)) := by
  have hlt := zbm h
  have hlc := zbm hc
  apply List.ext_getElem?
  intro j
  unfold pop
  by_cases e : j = i
  · subst e
    have hr := zcG h hc
    rw [List.getElem?_set_self (zbm hr), List.getD_eq_getElem?_getD, hr, zcG h (List.getElem?_set_self hlc)]
    simp [List.drop_drop]
  · rw [List.getElem?_set_ne (Ne.symm e)]
    unfold rest
    rw [List.getElem?_zipWith, List.getElem?_zipWith, List.getElem?_set_ne (Ne.symm e)]
/-- The best of the first i lists' heads: none (-1), or its number. -/
def zaQ (o : Int) (L : LLs) (i : Nat) (b : Int) : Prop := (b = -1 ∧ ∀ j, j < i → hd L j = none) ∨ ∃ m : Nat, b = (m : Int) ∧ m < i ∧ (∃ x, hd L m = some x) ∧ ∀ j, j < i → Wins o L m j
theorem zaQ.zero (o : Int) (L : LLs) : zaQ o L 0 (-1) := .inl ⟨rfl, fun j hj => absurd hj (Nat.not_lt_zero j)⟩
theorem zaQ.skip {o : Int} {L : LLs} {i : Nat} {b : Int} (h : zaQ o L i b) (hn : hd L i = none) : zaQ o L (i + 1) b := by
  rcases h with ⟨h1, h2⟩ | ⟨m, h1, h2, h3, h4⟩
  · refine .inl ⟨h1, fun j hj => ?_⟩
    rcases Nat.lt_or_ge j i with h | h
    · exact h2 j h
    · obtain rfl : j = i := by omega
      exact hn
  · refine .inr ⟨m, h1, by omega, h3, fun j hj => ?_⟩
    rcases Nat.lt_or_ge j i with h | h
    · exact h4 j h
    · obtain rfl : j = i := by omega
      exact Wins.of_none hn
theorem zaQ.first {o : Int} {L : LLs} {i : Nat} {b : Int} {x : RowD} (h : zaQ o L i b) (hb : b < 0) (hx : hd L i = some x) : zaQ o L (i + 1) (i : Int) := by
  rcases h with ⟨h1, h2⟩ | ⟨m, h1, _⟩
  · refine .inr ⟨i, rfl, by omega, ⟨x, hx⟩, fun j hj => ?_⟩
    rcases Nat.lt_or_ge j i with h | h
    · exact Wins.of_none (h2 j h)
    · obtain rfl : j = i := by omega
      exact Wins.refl o L _
  · omega
theorem zaQ.take {o : Int} {L : LLs} {i m : Nat} {x y : RowD} (h : zaQ o L i (m : Int)) (hx : hd L i = some x) (hy : hd L m = some y) (hl : less o x y = true) : zaQ o L (i + 1) (i : Int) := by
  rcases h with ⟨h1, _⟩ | ⟨m', h1, h2, h3, h4⟩
  · omega
  · obtain rfl : m' = m := by omega
    refine .inr ⟨i, rfl, by omega, ⟨x, hx⟩, fun j hj => ?_⟩
    have hw : Wins o L i m' := by
      intro y' hy'
      rw [hy] at hy'; injection hy' with e; subst e
      exact ⟨x, hx, by rw [zb3]; rw [zcq] at hl; omega, fun _ => hl⟩
    rcases Nat.lt_or_ge j i with h | h
    · exact hw.trans (h4 j h)
    · obtain rfl : j = i := by omega
      exact Wins.refl o L _
theorem zaQ.keep {o : Int} {L : LLs} {i m : Nat} {x y : RowD} (h : zaQ o L i (m : Int)) (hx : hd L i = some x) (hy : hd L m = some y) (hl : less o x y = false) : zaQ o L (i + 1) (m : Int) := by
  rcases h with ⟨h1, _⟩ | ⟨m', h1, h2, h3, h4⟩
  · omega
  · obtain rfl : m' = m := by omega
    refine .inr ⟨m', rfl, by omega, h3, fun j hj => ?_⟩
    rcases Nat.lt_or_ge j i with h | h
    · exact h4 j h
    · obtain rfl : j = i := by omega
      intro x' hx'
      rw [hx] at hx'; injection hx' with e; subst e
      exact ⟨y, hy, hl, fun hlt => by omega⟩
end Lp
namespace Lp
theorem zaQ.lt {o : Int} {L : LLs} {i : Nat} {b : Int} (h : zaQ o L i b) : -1 ≤ b ∧ b < (i : Int) ∨ (b = -1) := by
  rcases h with ⟨h, _⟩ | ⟨m, h, h2, _⟩ <;> omega
theorem zaQ.nat {o : Int} {L : LLs} {i : Nat} {b : Int} (h : zaQ o L i b) (hb : ¬ b < 0) : ∃ m x, b = ((m : Nat) : Int) ∧ m < i ∧ hd L m = some x ∧ ∀ j, j < i → Wins o L m j := by
  rcases h with ⟨h, _⟩ | ⟨m, h, h2, ⟨x, hx⟩, h4⟩
  · omega
  · exact ⟨m, x, h, h2, hx, h4⟩
end Lp
namespace Lp
open Go
theorem zbA {ll : LLs} {c : List Nat} {m : Nat} {u : RowD} (h : hd (rest ll c) m = some u) : ∃ z q, ll[m]? = some z ∧ c[m]? = some q ∧ z[q]? = some u := by
  have hlt := hd_lt h
  have hl : m < ll.length ∧ m < c.length := by unfold rest at hlt; rw [List.length_zipWith] at hlt; omega
  obtain ⟨l, hl1⟩ := zJ ll m hl.1
  obtain ⟨q, hq⟩ := zJ c m hl.2
  rw [hd_rest hl1 hq] at h
  exact ⟨l, q, hl1, hq, h⟩
theorem hd_rest_of {ll : LLs} {c : List Nat} {i n : Nat} {y : List RowD} (hy : ll[i]? = some y) (hn : c[i]? = some n) : hd (rest ll c) i = y[n]? := hd_rest (hy) hn
theorem zaQ.all {o : Int} {ll : LLs} {c : List Nat} {i : Nat} {b : Int} (h : zaQ o (rest ll c) i b) (hi : ll.length ≤ i) (hb : b < 0) : ∀ k, hd (rest ll c) k = Option.none := by
  rcases h with ⟨_, h⟩ | ⟨m, h, _⟩
  · intro k
    rcases Nat.lt_or_ge k i with hk | hk
    · exact h k hk
    · cases e : hd (rest ll c) k with
      | none => rfl
      | some u =>
        obtain ⟨z, q, hz, _, _⟩ := zbA e
        have := zbm hz; omega
  · omega
theorem wins_all {o : Int} {ll : LLs} {c : List Nat} {i m : Nat} (h : ∀ j, j < i → Wins o (rest ll c) m j) (hi : ll.length ≤ i) : ∀ j, Wins o (rest ll c) m j := by
  intro j
  rcases Nat.lt_or_ge j i with hk | hk
  · exact h j hk
  · refine Wins.of_none ?_
    cases e : hd (rest ll c) j with
    | none => rfl
    | some u =>
      obtain ⟨z, q, hz, _, _⟩ := zbA e
      have := zbm hz; omega
end Lp
/-
  Sorting in little room, as plain data: the purse, runs, merging them.
-/
set_option linter.unusedVariables false
namespace Lp
open Go

/-! ### what rows cost -/
def zaN : List Lbl → Int
  | [] => 0
  | x :: r => (8 + ((x.n.size : Nat) : Int) + ((x.v.size : Nat) : Int)) + zaN r
def zp (r : RowD) : Int := 16 + zaN r.ls
theorem costL_app : ∀ a b : List Lbl, zaN (a ++ b) = zaN a + zaN b
  | [], b => by simp [zaN]
  | x :: a, b => by show _ + zaN (a ++ b) = _ + zaN a + zaN b; rw [costL_app a b]; omega
theorem costL_snoc {l : List Lbl} {k : Nat} {x : Lbl} (h : l[k]? = some x) : zaN (l.take (k + 1)) = zaN (l.take k) + (8 + ((x.n.size : Nat) : Int) + ((x.v.size : Nat) : Int)) := by
  rw [zaD h, costL_app]; simp [zaN]
theorem zbW : ∀ l : List Lbl, 0 ≤ zaN l
  | [] => by simp [zaN]
  | x :: r => by have := zbW r; simp only [zaN]; omega
theorem light_cost {l : List Lbl} (h : zbd l = true) : zaN l ≤ 8160 := by
  have hl := zcp h
  unfold zbd at h
  rw [Bool.and_eq_true, List.take_of_length_le (by omega), List.all_eq_true] at h
  have key : ∀ m : List Lbl, (∀ x ∈ m, x.n.size ≤ 200 ∧ x.v.size ≤ 200) → zaN m ≤ 408 * (m.length : Int) := by
    intro m
    induction m with
    | nil => intro _; simp [zaN]
    | cons x r ih =>
      intro hm
      have h1 := hm x List.mem_cons_self
      have h2 := ih (fun y hy => hm y (List.mem_cons_of_mem _ hy))
      simp only [zaN, List.length_cons]; omega
  have := key l (fun x hx => by simpa using h.1 x hx)
  omega
theorem costL_take_le (l : List Lbl) (k : Nat) : zaN (l.take k) ≤ zaN l := by
  conv => rhs; rw [← List.take_append_drop k l, costL_app]
  have := zbW (l.drop k); omega
theorem zaP {r : RowD} (h : zbd r.ls = true) : 16 ≤ zp r ∧ zp r ≤ 8176 := by
  have h1 := zbW r.ls
  have h2 := light_cost h
  unfold zp; omega
def maxC (l : List RowD) : Int := l.foldl (fun n r => max n (zp r)) 0
theorem maxC_snoc {l : List RowD} {k : Nat} {x : RowD} (h : l[k]? = some x) : maxC (l.take (k + 1)) = max (maxC (l.take k)) (zp x) := by
  rw [zaD h]; unfold maxC; rw [List.foldl_append]; rfl
def z9 (l : List RowD) : Prop := ∀ r ∈ l, zbd r.ls = true
theorem zb7 {l : List RowD} (h : z9 l) (k : Nat) : 0 ≤ maxC (l.take k) ∧ maxC (l.take k) ≤ 8176 := by
  have key : ∀ m : List RowD, (∀ r ∈ m, zbd r.ls = true) → ∀ n : Int, 0 ≤ n → n ≤ 8176 → 0 ≤ m.foldl (fun n r => max n (zp r)) n ∧ m.foldl (fun n r => max n (zp r)) n ≤ 8176 := by
    intro m
    induction m with
    | nil => intro _ n h1 h2; exact ⟨h1, h2⟩
    | cons x r ih =>
      intro hm n h1 h2
      have := zaP (hm x List.mem_cons_self)
      exact ih (fun y hy => hm y (List.mem_cons_of_mem _ hy)) (max n (zp x)) (by omega) (by omega)
  exact key _ (fun r hr => h r (List.mem_of_mem_take hr)) 0 (by omega) (by omega)
theorem maxC_ge {l : List RowD} {r : RowD} (h : r ∈ l) : zp r ≤ maxC l := by
  have mono : ∀ (m : List RowD) (n : Int), n ≤ m.foldl (fun n r => max n (zp r)) n := by
    intro m
    induction m with
    | nil => intro n; exact Int.le_refl _
    | cons x m ih => intro n; have := ih (max n (zp x)); simp only [List.foldl_cons]; omega
  have key : ∀ (m : List RowD) (n : Int), r ∈ m → zp r ≤ m.foldl (fun n r => max n (zp r)) n := by
    intro m
    induction m with
    | nil => intro _ h; cases h
    | cons x m ih =>
      intro n h
      simp only [List.foldl_cons]
      rcases List.mem_cons.1 h with e | e
      · have := mono m (max n (zp x)); rw [e]; omega
      · exact ih _ e
  exact key l 0 h
theorem zdR {a b : Int} (h0 : 0 ≤ a) (h1 : a ≤ 20) (h2 : 0 ≤ b) (h3 : b ≤ 8176) : 0 ≤ a * b ∧ a * b ≤ 163520 := by
  refine ⟨Int.mul_nonneg h0 h2, ?_⟩
  have h4 : a * b ≤ 20 * b := Int.mul_le_mul_of_nonneg_right h1 h2
  omega
def sumC : List RowD → Int
  | [] => 0
  | r :: l => zp r + sumC l
theorem sumC_app : ∀ a b : List RowD, sumC (a ++ b) = sumC a + sumC b
  | [], b => by simp [sumC]
  | x :: a, b => by show _ + sumC (a ++ b) = _ + sumC a + sumC b; rw [sumC_app a b]; omega
theorem sumC_nonneg {l : List RowD} (h : z9 l) : 0 ≤ sumC l := by
  induction l with
  | nil => simp [sumC]
  | cons x r ih =>
    have h1 := zaP (h x List.mem_cons_self)
    have h2 := ih (fun y hy => h y (List.mem_cons_of_mem _ hy))
    simp only [sumC]; omega

/-! ### the purse -/
structure PurseD where
  room : Int
  now : Int
  high : Int
def PurseD.takes (p : PurseD) (n : Int) : Bool := !(decide (n < 0) || decide (p.room - p.now < n))
def PurseD.take (p : PurseD) (n : Int) : PurseD := if p.takes n = true then ⟨p.room, p.now + n, max p.high (p.now + n)⟩ else p
def PurseD.give (p : PurseD) (n : Int) : PurseD := if n < 0 ∨ p.now < n then p else ⟨p.room, p.now - n, p.high⟩
structure PurseD.Ok (p : PurseD) : Prop where
  n0 : 0 ≤ p.now
  nh : p.now ≤ p.high
  hr : p.high ≤ p.room
  rm : p.room ≤ 1000000
theorem PurseD.Ok.take {p : PurseD} (h : p.Ok) (n : Int) : (p.take n).Ok ∧ (p.take n).room = p.room ∧ p.high ≤ (p.take n).high := by
  obtain ⟨h1, h2, h3, h4⟩ := h
  unfold PurseD.take
  split
  · rename_i hc
    have : ¬ n < 0 ∧ ¬ p.room - p.now < n := by simpa [PurseD.takes] using hc
    exact ⟨⟨by show 0 ≤ p.now + n; omega, by show p.now + n ≤ max p.high (p.now + n); omega, by show max p.high (p.now + n) ≤ p.room; omega, h4⟩, rfl, by show p.high ≤ max p.high (p.now + n); omega⟩
  · exact ⟨⟨h1, h2, h3, h4⟩, rfl, Int.le_refl _⟩
theorem PurseD.Ok.give {p : PurseD} (h : p.Ok) (n : Int) : (p.give n).Ok ∧ (p.give n).room = p.room ∧ (p.give n).high = p.high := by
  obtain ⟨h1, h2, h3, h4⟩ := h
  unfold PurseD.give
  split
  · exact ⟨⟨h1, h2, h3, h4⟩, rfl, rfl⟩
  · rename_i hc
    exact ⟨⟨by show 0 ≤ p.now - n; omega, by show p.now - n ≤ p.high; omega, h3, h4⟩, rfl, rfl⟩
theorem zdr {p : PurseD} {n : Int} (h1 : ¬ n < 0) (h2 : ¬ p.room - p.now < n) : p.takes n = true ∧ p.take n = ⟨p.room, p.now + n, max p.high (p.now + n)⟩ := by
  have : p.takes n = true := by unfold PurseD.takes; simp [h1, h2]
  exact ⟨this, by unfold PurseD.take; rw [if_pos this]⟩
theorem take_f {p : PurseD} {n : Int} (h : n < 0 ∨ p.room - p.now < n) : p.takes n = false ∧ p.take n = p := by
  have : p.takes n = false := by unfold PurseD.takes; rcases h with h | h <;> simp [h]
  exact ⟨this, by unfold PurseD.take; rw [this]; rfl⟩
theorem give_t {p : PurseD} {n : Int} (h1 : ¬ n < 0) (h2 : ¬ p.now < n) : p.give n = ⟨p.room, p.now - n, p.high⟩ := by unfold PurseD.give; rw [if_neg (by omega)]
theorem give_f {p : PurseD} {n : Int} (h : n < 0 ∨ p.now < n) : p.give n = p := by unfold PurseD.give; rw [if_pos h]
def PurseD.gives (p : PurseD) (n : Int) : Bool := !(decide (n < 0) || decide (p.now < n))
theorem gives_t {p : PurseD} {n : Int} (h1 : ¬ n < 0) (h2 : ¬ p.now < n) : p.gives n = true := by unfold PurseD.gives; simp [h1, h2]
theorem gives_f {p : PurseD} {n : Int} (h : n < 0 ∨ p.now < n) : p.gives n = false := by unfold PurseD.gives; rcases h with h | h <;> simp [h]
def z0 (p : PurseD) (l : List RowD) : PurseD := l.foldl (fun p r => p.give (zp r)) p
theorem giveAll_snoc {p : PurseD} {l : List RowD} {k : Nat} {x : RowD} (h : l[k]? = some x) : z0 p (l.take (k + 1)) = (z0 p (l.take k)).give (zp x) := by
  rw [zaD h]; unfold z0; rw [List.foldl_append]; rfl
theorem giveAll_ok {p : PurseD} (h : p.Ok) : ∀ l : List RowD, (z0 p l).Ok ∧ (z0 p l).room = p.room ∧ (z0 p l).high = p.high := by
  intro l
  induction l generalizing p with
  | nil => exact ⟨h, rfl, rfl⟩
  | cons x r ih =>
    have h1 := h.give (zp x)
    have h2 := ih h1.1
    exact ⟨h2.1, h2.2.1.trans h1.2.1, h2.2.2.trans h1.2.2⟩
theorem giveAll_now : ∀ {l : List RowD} {p : PurseD}, z9 l → sumC l ≤ p.now → (z0 p l).now = p.now - sumC l
  | [], p, _, _ => by show p.now = p.now - 0; omega
  | x :: r, p, h, hs => by
    have h1 := zaP (h x List.mem_cons_self)
    have hr : z9 r := fun y hy => h y (List.mem_cons_of_mem _ hy)
    have h2 := sumC_nonneg hr
    simp only [sumC] at hs
    have e := give_t (p := p) (n := zp x) (by omega) (by omega)
    show (z0 (p.give (zp x)) r).now = _
    rw [giveAll_now hr (by rw [e]; show sumC r ≤ p.now - zp x; omega), e]
    show p.now - zp x - sumC r = p.now - (zp x + sumC r)
    omega

/-! ### runs -/
structure RunD where
  m : Bool
  l : List RowD
def RunD.d (r : RunD) : D := .ifc (bif r.m then 121 else 120) (.agg [.sh 2 (r.l.map RowD.d)])
structure SortD where
  runs : List RunD
  nr : Int
  nm : Int
  p : PurseD
def zac (rs : List RunD) : List RowD := (rs.map (·.l)).flatten
def endS (o : Int) (s : SortD) (l : List RowD) : SortD := if 0 < l.length then ⟨s.runs ++ [⟨true, zag (zC o) l⟩], s.nr + 1, s.nm, z0 s.p l⟩ else s
def mkGo (o : Int) : List RowD → List RowD → SortD → SortD
  | cur, [], s => endS o s cur
  | cur, r :: t, s => if s.p.takes (zp r) = true then mkGo o (cur ++ [r]) t ⟨s.runs, s.nr, s.nm, s.p.take (zp r)⟩
    else mkGo o [r] t ⟨(endS o s cur).runs, (endS o s cur).nr, (endS o s cur).nm, (endS o s cur).p.take (zp r)⟩
theorem mkGo_end {o : Int} {cur rest : List RowD} {s : SortD} (h : rest = []) : mkGo o cur rest s = endS o s cur := by rw [h]; rfl
theorem mkGo_t {o : Int} {cur t : List RowD} {r : RowD} {s : SortD} (h : s.p.takes (zp r) = true) : mkGo o cur (r :: t) s = mkGo o (cur ++ [r]) t ⟨s.runs, s.nr, s.nm, s.p.take (zp r)⟩ := by
  conv => lhs; unfold mkGo
  rw [if_pos h]
theorem mkGo_f {o : Int} {cur t : List RowD} {r : RowD} {s : SortD} (h : s.p.takes (zp r) = false) : mkGo o cur (r :: t) s = mkGo o [r] t ⟨(endS o s cur).runs, (endS o s cur).nr, (endS o s cur).nm, (endS o s cur).p.take (zp r)⟩ := by
  conv => lhs; unfold mkGo
  rw [if_neg (by rw [h]; simp)]

/-- a run that is merged: which rows, and of which list each is -/
noncomputable def runR (o : Int) (ll : LLs) : List RowD × List Nat := Classical.epsilon (fun p => Run o ll p.1 p.2)
theorem runR_eq {o : Int} {ll : LLs} {rs : List RowD} {hs : List Nat} (h : Run o ll rs hs) : runR o ll = (rs, hs) := by
  have h1 : Run o ll (runR o ll).1 (runR o ll).2 := Classical.epsilon_spec (p := fun p : List RowD × List Nat => Run o ll p.1 p.2) ⟨(rs, hs), h⟩
  obtain ⟨e1, e2⟩ := h1.det h
  exact Prod.ext e1 e2
def z4 (p : PurseD) (ll : LLs) : PurseD := ll.foldl (fun p x => p.take (zp (x.getD 0 default))) p
theorem firsts_snoc {p : PurseD} {ll : LLs} {k : Nat} {x : List RowD} (h : ll[k]? = some x) : z4 p (ll.take (k + 1)) = (z4 p (ll.take k)).take (zp (x.getD 0 default)) := by
  rw [zaD h]; unfold z4; rw [List.foldl_append]; rfl
theorem firsts_ok {p : PurseD} (h : p.Ok) : ∀ ll : LLs, (z4 p ll).Ok ∧ (z4 p ll).room = p.room ∧ p.high ≤ (z4 p ll).high := by
  intro l
  induction l generalizing p with
  | nil => exact ⟨h, rfl, Int.le_refl _⟩
  | cons x r ih =>
    have h1 := h.take (zp (x.getD 0 default))
    have h2 := ih h1.1
    exact ⟨h2.1, h2.2.1.trans h1.2.1, Int.le_trans h1.2.2 h2.2.2⟩
def zdC (ll : LLs) (k i : Nat) : RowD := (ll.getD k []).getD i default
/-- one row is done with, and the next one of its list is at hand -/
def zbs (ll : LLs) (k : Nat) (c : List Nat) (p : PurseD) : PurseD :=
  if c.getD k 0 + 1 < (ll.getD k []).length then (p.give (zp (zdC ll k (c.getD k 0)))).take (zp (zdC ll k (c.getD k 0 + 1))) else p.give (zp (zdC ll k (c.getD k 0)))
def cntP (ll : LLs) : List Nat → List Nat → PurseD → PurseD
  | [], _, p => p
  | k :: hs, c, p => cntP ll hs (c.set k (c.getD k 0 + 1)) (zbs ll k c p)
theorem zcm {p : PurseD} (h : p.Ok) (ll : LLs) (k : Nat) (c : List Nat) : (zbs ll k c p).Ok ∧ (zbs ll k c p).room = p.room ∧ p.high ≤ (zbs ll k c p).high := by
  have h1 := h.give (zp (zdC ll k (c.getD k 0)))
  unfold zbs
  split
  · have h2 := h1.1.take (zp (zdC ll k (c.getD k 0 + 1)))
    exact ⟨h2.1, h2.2.1.trans h1.2.1, by have := h2.2.2; omega⟩
  · exact ⟨h1.1, h1.2.1, by omega⟩
theorem cntP_ok (ll : LLs) : ∀ (hs c : List Nat) {p : PurseD}, p.Ok → (cntP ll hs c p).Ok ∧ (cntP ll hs c p).room = p.room ∧ p.high ≤ (cntP ll hs c p).high
  | [], _, p, h => ⟨h, rfl, Int.le_refl _⟩
  | k :: hs, c, p, h => by
    have h1 := zcm h ll k c
    have h2 := cntP_ok ll hs (c.set k (c.getD k 0 + 1)) h1.1
    exact ⟨h2.1, h2.2.1.trans h1.2.1, Int.le_trans h1.2.2 h2.2.2⟩
noncomputable def zae (o : Int) (ll : LLs) (p : PurseD) : PurseD := cntP ll (runR o ll).2 (List.replicate ll.length 0) (z4 p ll)
def lls (rs : List RunD) : LLs := rs.map (·.l)
noncomputable def zan (o : Int) (n : Nat) (s : SortD) : SortD := ⟨s.runs.drop n ++ [⟨false, (runR o (lls (s.runs.take n))).1⟩], s.nr, s.nm + 1, zae o (lls (s.runs.take n)) s.p⟩
noncomputable def zbo (o : Int) (fan : Nat) : Nat → SortD → SortD
  | 0, s => s
  | n + 1, s => if 1 < s.runs.length then zbo o fan n (zan o (min fan s.runs.length) s) else s
theorem mergeAll_next {o : Int} {fan n : Nat} {s : SortD} (h : 1 < s.runs.length) : zbo o fan (n + 1) s = zbo o fan n (zan o (min fan s.runs.length) s) := by
  conv => lhs; unfold zbo
  rw [if_pos h]
theorem mergeAll_end {o : Int} {fan n : Nat} {s : SortD} (h : ¬ 1 < s.runs.length) : zbo o fan n s = s := by
  cases n with
  | zero => rfl
  | succ n => unfold zbo; rw [if_neg h]
end Lp
/-
  The tail of a row of the call's own, as a slice: read, cut and grown.
-/
set_option linter.unusedVariables false
namespace Lp
open Go Go.RowKit

theorem Qu.ef {P : Program} {op : Op} {ty : TypeId} {K : Kd} {H : List Hp} {d : D} (h : Qu P op ty K H d) : Ef P op ty K H (fun d' H' => d' = d ∧ H' = H) := ⟨fun C ρ w F hk g => (h.out ρ w F hk g.flt g.h.ok).mono fun u w' ⟨E, hr⟩ => by
  obtain ⟨g', k⟩ := g.fn E
  exact ⟨_, d, H, ⟨rfl, rfl⟩, hr, g', k⟩⟩
theorem zcd (g o j : Nat) : (⟨g, o, none⟩ : Addr).add j = ⟨g, o + j, none⟩ := by cases j <;> simp [Addr.add]
/-- a row is a tail of itself -/
theorem HSub.slo {H : List Hp} {v : Value} {z : Nat} {T : TypeId} {xs : List D} : HSub (.sl v z T xs :: H) (.slo v z T xs :: H) := ⟨fun C w F gd => by
  have key : (Hp.sl v z T xs).ok w F → (Hp.slo v z T xs).ok w F := by
    rintro ⟨us, hr, ho⟩
    refine ⟨us, hr, ?_⟩
    have hm := ho.1
    rcases hm.2 with ⟨e, h0⟩ | ⟨g, cap, cur, e, hb, hg, hc, rest⟩
    · exact ⟨Option.none, 0, by rw [e, h0], by omega, .inl rfl⟩
    · refine ⟨_, cap, e, hc, .inr ⟨g, [], by simp, ?_⟩⟩
      simp only [List.length_nil, Nat.zero_add, List.nil_append]
      rw [← e]; exact ho
  have hbl : ∀ b, (Hp.slo v z T xs).blk b → (Hp.sl v z T xs).blk b := by
    rintro b ⟨A, n, c, e, _, hb⟩
    show v.ownBlock = some b
    rw [e]; show some A.block = _; rw [hb]
  have ha := List.pairwise_cons.1 gd.h.apart
  exact { gd with h := ⟨List.pairwise_cons.2 ⟨fun h hh b hb => ha.1 h hh b (hbl b hb), ha.2⟩, fun h hh => by
    rcases List.mem_cons.1 hh with e | e
    · rw [e]; exact key (gd.h.ok _ List.mem_cons_self)
    · exact gd.h.ok h (List.mem_cons_of_mem _ e), fun b ⟨h, hh, hb⟩ => by
    rcases List.mem_cons.1 hh with e | e
    · rw [e] at hb; exact gd.h.mine b ⟨_, List.mem_cons_self, hbl b hb⟩
    · exact gd.h.mine b ⟨h, List.mem_cons_of_mem _ e, hb⟩⟩ }⟩
theorem cut0 {z n m c : Nat} {A : Option Addr} (h : c = 0 ∨ ∃ g o, A = some ⟨g, o, none⟩) : cut z (.slice A m c) 0 n = .slice A n c := by
  unfold cut
  simp only [Nat.zero_mul, Nat.sub_zero]
  rcases h with h | ⟨g, o, h⟩
  · rw [if_pos h]
  · subst h; rw [Option.map_some, zcd]; simp
theorem TlOk.cut0 {w : World} {z n : Nat} {T : TypeId} {u : Value} {us : List Value} (h : TlOk w z T u us) : ∃ A c, u = .slice A us.length c ∧ us.length ≤ c ∧ Lp.cut z u 0 n = .slice A n c ∧ (0 < us.length → ∃ g o, A = some ⟨g, o, none⟩) := by
  obtain ⟨A, c, e, hle, h⟩ := h
  refine ⟨A, c, e, hle, ?_, fun hl => ?_⟩
  · rw [e]; refine Lp.cut0 ?_
    rcases h with h | ⟨g, p, h, _⟩
    · exact .inl h
    · exact .inr ⟨g, _, h⟩
  · rcases h with h | ⟨g, p, h, _⟩
    · omega
    · exact ⟨g, _, h⟩
section
variable {P : Program} {ty : TypeId} {K : Kd} {H : List Hp}
theorem p_len_slo {t e : TypeId} {x : Operand} {z n j : Nat} {u : Value} {T : TypeId} {xs : List D} (hx : opO K x = some u) (hm : nth H j = some (.slo u z T xs)) (ht : ∀ w, (underlying t).run P w = .ok (.slice e) w) (hn : xs.length = n) : Pu P (.call { callee := .builtin .len, args := #[x], argTypes := #[t] }) ty K H (.v (.int .i64 (n : Int))) :=
  ⟨fun ρ w F hk _ hH => by
    obtain ⟨us, hr, A, c, e, _⟩ := hH _ (zaf hm)
    exact zdz (n := n) (zK ρ [x]) (opv1 ρ (hk.opO hx)) ht ⟨A, c, by rw [e, hr.len, hn]⟩ ⟨rfl, rfl⟩⟩
/-- the front part of a tail, only to be read -/
theorem p_slice_slo {t e : TypeId} {z b j : Nat} {x : Operand} {hi : Option Operand} {u : Value} {T : TypeId} {xs : List D} {rh : Option Int} (hx : opO K x = some u) (hm : nth H j = some (.slo u z T xs)) (hhi : bndD K hi = some rh) (hb : Bnd rh xs.length b)
    (ht : ∀ w, (underlying t).run P w = .ok (.slice e) w) (hs : ∀ w, (Go.sizeOf e).run P w = .ok z w) (hbn : b ≤ xs.length) : Pu P (.slice t x none hi none) ty K H (.v (cut z u 0 b)) :=
  ⟨fun ρ w F hk hF hH => by
    obtain ⟨us, hr, A, c, e, hle, _⟩ := hH _ (zaf hm)
    have hl := hr.len
    exact zdm (n := xs.length) (a := 0) (b := b) (z := z) (zK ρ [x]) (opv1 ρ (hk.opO hx)) rfl rfl (.inl ⟨rfl, rfl⟩) (hb.out (zcx hk hhi)) ht hs ⟨A, c, by rw [e, hl], by omega⟩ (Nat.zero_le _) ⟨rfl, rfl⟩⟩
theorem p_len_slo_cut {t e : TypeId} {x : Operand} {z b j : Nat} {u : Value} {T : TypeId} {xs : List D} (hx : opD K x = some (.v (cut z u 0 b))) (hm : nth H j = some (.slo u z T xs)) (ht : ∀ w, (underlying t).run P w = .ok (.slice e) w) : Pu P (.call { callee := .builtin .len, args := #[x], argTypes := #[t] }) ty K H (.v (.int .i64 (b : Int))) :=
  ⟨fun ρ w F hk _ hH => by
    obtain ⟨us, hr, h⟩ := hH _ (zaf hm)
    obtain ⟨A, c, _, _, e, _⟩ := h.cut0 (n := b)
    exact zdz (n := b) (zK ρ [x]) (opv1 ρ (hk.op hx)) ht ⟨A, c, e⟩ ⟨rfl, rfl⟩⟩
theorem p_indexAddr_slo {t e : TypeId} {z q j : Nat} {x i : Operand} {u : Value} {kd : IntKind} {m : Int} {T : TypeId} {xs : List D} (hx : opO K x = some u) (hm : nth H j = some (.slo u z T xs)) (hi : opD K i = some (.v (.int kd m))) (ht : ∀ w, (underlying t).run P w = .ok (.slice e) w) (hs : ∀ w, (Go.sizeOf e).run P w = .ok z w) (hmq : m = (q : Int)) (hq : q < xs.length) :
    Pu P (.indexAddr t x i) ty K H (.v (.pointer (some ⟨bl u, of_ u + q * z, none⟩))) :=
  ⟨fun ρ w F hk hF hH => by
    obtain ⟨us, hr, h⟩ := hH _ (zaf hm)
    have hl := hr.len
    obtain ⟨A, c, e, _, _, hA⟩ := h.cut0 (n := 0)
    obtain ⟨g, o, eA⟩ := hA (by omega)
    subst eA
    exact e_indexAddr (k := q) (z := z) (zK ρ [x, i]) (zbi ρ (hk.opO hx)) (zbh ρ (hk.op hi)) ht hs ⟨g, o, us.length, c, e, by omega⟩ hmq ⟨rfl, rfl⟩⟩
theorem p_indexAddr_slo_cut {t e : TypeId} {z q b j : Nat} {x i : Operand} {u : Value} {kd : IntKind} {m : Int} {T : TypeId} {xs : List D} (hx : opD K x = some (.v (cut z u 0 b))) (hm : nth H j = some (.slo u z T xs)) (hi : opD K i = some (.v (.int kd m))) (ht : ∀ w, (underlying t).run P w = .ok (.slice e) w) (hs : ∀ w, (Go.sizeOf e).run P w = .ok z w) (hmq : m = (q : Int)) (hq : q < b) (hb : b ≤ xs.length) :
    Pu P (.indexAddr t x i) ty K H (.v (.pointer (some ⟨bl u, of_ u + q * z, none⟩))) :=
  ⟨fun ρ w F hk hF hH => by
    obtain ⟨us, hr, h⟩ := hH _ (zaf hm)
    have hl := hr.len
    obtain ⟨A, c, e, _, e2, hA⟩ := h.cut0 (n := b)
    obtain ⟨g, o, eA⟩ := hA (by omega)
    subst eA
    refine e_indexAddr (k := q) (z := z) (zK ρ [x, i]) (zbi ρ (hk.op hx)) (zbh ρ (hk.op hi)) ht hs ⟨g, o, b, c, e2, hq⟩ hmq ⟨rfl, ?_⟩
    rw [e2, e]; rfl⟩
theorem p_load_slo {t : TypeId} {x : Operand} {u : Value} {z q j : Nat} {T : TypeId} {xs : List D} {X d : D} (hx : opD K x = some (.v (.pointer (some ⟨bl u, of_ u + q * z, none⟩)))) (hm : nth H j = some (.slo u z T xs)) (hX : xs[q]? = some X) (hg : ∀ w, (isAgg t).run P w = .ok false w) (hd : nth X.cells 0 = some d) : Pu P (.load t x) ty K H d :=
  ⟨fun ρ w F hk _ hH => by
    obtain ⟨us, hr, A, c, e, hle, h⟩ := hH _ (zaf hm)
    obtain ⟨v, hv, h2, h3, h4⟩ := hr.get hX
    have hlt : q < us.length := (List.getElem?_eq_some_iff.1 hv).1
    rcases h with h | ⟨g, p, eA, ho⟩
    · omega
    · have hat := ho.sl.at_ (k := p.length + q) (x := v) (by rw [List.getElem?_append_right (by omega), show p.length + q - p.length = q by omega]; exact hv)
      have eo : of_ u = p.length * z := by rw [e, eA]; rfl
      have eb : bl u = g := by rw [e, eA]; rfl
      refine load_one (p := of_ u + q * z) (o := 0) (by rw [Nat.add_zero]; exact hk.op hx) hg h2 h3 ?_ hd
      rw [eo, eb, ← Nat.add_mul]
      simpa [bl, of_] using hat⟩
/-- what is left of a tail -/
theorem ef_slice_slo {t e : TypeId} {z a j : Nat} {x : Operand} {lo : Option Operand} {u : Value} {T : TypeId} {xs : List D} {rl : Option Int} (hx : opO K x = some u) (hm : nth H j = some (.slo u z T xs)) (hlo : bndD K lo = some rl) (ha : Bnd rl 0 a)
    (ht : ∀ w, (underlying t).run P w = .ok (.slice e) w) (hs : ∀ w, (Go.sizeOf e).run P w = .ok z w) (han : a ≤ xs.length) : Ef P (.slice t x lo none none) ty K H (fun d H' => ∃ u', d = .ov u' ∧ H' = H.set j (.slo u' z T (xs.drop a))) :=
  ⟨fun C ρ w F hk gd => by
    obtain ⟨us, hr, A, c, e, hle, h⟩ := gd.h.ok _ (zaf hm)
    have hl := hr.len
    refine zdm (n := xs.length) (a := a) (b := xs.length) (z := z) (zK ρ [x]) (opv1 ρ (hk.opO hx)) rfl rfl (ha.out (zcx hk hlo)) (.inl ⟨rfl, rfl⟩) ht hs ⟨A, c, by rw [e, hl], by omega⟩ han ?_
    have hdl : (us.drop a).length = xs.length - a := by rw [List.length_drop, hl]
    have hok : ∀ kp : Keep w F w F, (Hp.slo (cut z u a xs.length) z T (xs.drop a)).ok w F := fun _ => by
      refine ⟨us.drop a, hr.drop a, if c = a then A else A.map (·.add (a * z)), c - a, by rw [e, hdl]; rfl, by omega, ?_⟩
      rcases h with h | ⟨g, p, eA, ho⟩
      · left; omega
      · by_cases hca : c = a
        · left; omega
        · right
          refine ⟨g, p ++ us.take a, ?_, ?_⟩
          · rw [if_neg hca, eA, Option.map_some, zcd, List.length_append, List.length_take, Nat.min_eq_left (by omega), Nat.add_mul]
          · rw [List.append_assoc, List.take_append_drop, List.length_append, List.length_take, Nat.min_eq_left (by omega), hdl, show p.length + a + (xs.length - a) = p.length + us.length by omega, show p.length + a + (c - a) = p.length + c by omega]
            exact ho
    have := gd.turn (h' := .slo (cut z u a xs.length) z T (xs.drop a)) hm (fun q _ _ => rfl) (Nat.le_refl _) rfl rfl rfl (fun q ⟨A', n', c', e', hc', hb'⟩ => by
      left
      rw [e] at e'
      unfold cut at e'
      injection e' with e1 _ e2
      have hca : ¬ c = a := by omega
      rw [if_neg hca] at e1
      cases hA : A with
      | none => rw [hA] at e1; cases e1
      | some A0 =>
        rw [hA] at e1; injection e1 with e1
        refine ⟨A0, _, c, by rw [e, hA], by omega, ?_⟩
        rw [← hb', ← e1]
        rcases h with h | ⟨g, p, eA, _⟩
        · omega
        · rw [eA] at hA; injection hA with hA; rw [← hA]; show _ = (Addr.add _ _).block; rw [zcd]) hok
    exact ⟨F, .ov _, _, ⟨_, rfl, rfl⟩, ⟨rfl, by rw [e]; rfl⟩, this.1, this.2⟩⟩
end

theorem ef_slice_slo_m {P : Program} {ty : TypeId} {K : Kd} {H : List Hp} {α : Type} {f : α → D} {t e : TypeId} {z a j : Nat} {x : Operand} {lo : Option Operand} {u : Value} {T : TypeId} {l : List α} {rl : Option Int} (hx : opO K x = some u) (hm : nth H j = some (.slo u z T (l.map f))) (hlo : bndD K lo = some rl) (ha : Bnd rl 0 a)
    (ht : ∀ w, (underlying t).run P w = .ok (.slice e) w) (hs : ∀ w, (Go.sizeOf e).run P w = .ok z w) (han : a ≤ l.length) : Ef P (.slice t x lo none none) ty K H (fun d H' => ∃ u', d = .ov u' ∧ H' = H.set j (.slo u' z T ((l.drop a).map f))) := by
  have := ef_slice_slo (ty := ty) hx hm hlo ha ht hs (by rw [List.length_map]; exact han)
  rw [← List.map_drop] at this
  exact this
theorem append_tail_in {P : Program} {w w' : World} {t ty E k n c g m c2 : Nat} {B : Option Addr} {v' : Value} {i : TypeInfo} (ht : P.underlying t = some (.slice E)) (hi : P.info? E = some i) (hn : n + m ≤ c)
    (h : (Builtin.append_ #[t, t] ty #[.slice (some ⟨g, 0, none⟩) (k + n) (k + c), .slice B m c2]).run P w = .ok v' w') : (Builtin.append_ #[t, t] ty #[.slice (some ⟨g, k * i.size, none⟩) n c, .slice B m c2]).run P w = .ok (.slice (some ⟨g, k * i.size, none⟩) (n + m) c) w' := by
  simp [Builtin.append_, run_underlying ht, Go.sizeOf, typeInfo, hi, Builtin.lenOf, show k + n + m ≤ k + c by omega, zcd] at h
  obtain ⟨a, w1, h1, h⟩ := zbR h
  obtain ⟨b, w2, h2, h⟩ := zbR h
  cases h
  have e : k * i.size + n * i.size = (k + n) * i.size := by rw [Nat.add_mul]
  simp [Builtin.append_, run_underlying ht, Go.sizeOf, typeInfo, hi, Builtin.lenOf, hn, zcd, e, h1, h2]
theorem append_tail_new {P : Program} {w : World} {t ty E n c m c2 bytes z : Nat} {A : Option Addr} {B : Addr} {zv : Value} {i : TypeInfo} (ht : P.underlying t = some (.slice E)) (i1 : P.info? E = some i) (i2 : i.zero = some zv) (i3 : i.size = z) (i4 : i.bytes = bytes)
    (olds news : List Value) (hlo : olds.length = n * z) (holds : ∀ a, A = some a → ∀ j u, olds[j]? = some u → w.cell? (a.add j) = some u) (hA : A = none → n = 0 ∧ c = 0) (hl : news.length = m * z) (hnews : ∀ j u, news[j]? = some u → w.cell? (B.add j) = some u)
    (hg : c < n + m) (h63 : n + m ≤ maxLen) (hb : (n + m) * bytes ≤ 140737488355328) (hzs : zv.cells.size = z) :
    ∃ v' w' cap, (Builtin.append_ #[t, t] ty #[.slice A n c, .slice (some B) m c2]).run P w = .ok v' w' ∧ v' = .slice (some ⟨w.heap.size, 0, none⟩) (n + m) cap ∧ w'.ownsRow 0 E z v' (n + m) (olds ++ news) ∧ Ext w w' := by
  have hs63 : n + m ≤ 9223372036854775807 := by simp only [maxLen] at h63; omega
  have hlen : (olds ++ news).length = (n + m) * z := by rw [List.length_append, hlo, hl, Nat.add_mul]
  have own : ∀ old, old < n + m → (w.drew.alloc (.cells (olds.toArray ++ news.toArray ++ Builtin.zeroCells zv.cells (grownCap w (n + m) old E - (n + m))) E)).ownsRow 0 E z (.slice (some ⟨w.heap.size, 0, none⟩) (n + m) (grownCap w (n + m) old E)) (n + m) (olds ++ news) := by
    intro old ho
    have hge := grownCap_ge w (n + m) old E
    have hcm := grownCap_le_maxLen w (n + m) old E h63
    refine ⟨hlen, .inr ⟨w.heap.size, _, _, rfl, Nat.zero_le _, heap_alloc_new w.drew _, hge, hcm, ?_, ?_⟩⟩
    · simp only [Array.size_append, List.size_toArray, size_zeroCells, hzs, hlo, hl, ← Nat.add_mul]
      congr 1
      omega
    · simp only [Array.toList_append, List.append_assoc]
      rw [← List.append_assoc, ← hlen]
      exact List.take_left ..
  subst i3
  cases A with
  | none =>
    obtain ⟨rfl, rfl⟩ := hA rfl
    have hx : olds = [] := List.eq_nil_of_length_eq_zero (by simpa using hlo)
    subst hx
    have hr := run_append_nil (P := P) w t ty E i zv ht i1 i2 B m c2 news hl hnews (by omega) (by omega) (by rw [i4]; have hb' := hb; simp only [Nat.zero_add] at hb'; omega)
    have ho := own 0 (by omega)
    simp only [Nat.zero_add, List.nil_append, Array.empty_append] at ho hr ⊢
    exact ⟨_, _, _, hr, rfl, ho, (Ext.drew w).trans (Ext.alloc _ _)⟩
  | some a =>
    have hr := run_append_grow (P := P) w t ty E i zv ht i1 i2 a n c olds hlo (holds a rfl) B m c2 news hl hnews hg (by omega) (by rw [i4]; exact growslice_fits (by omega) hb)
    exact ⟨_, _, _, hr, rfl, own c (by omega), (Ext.drew w).trans (Ext.alloc _ _)⟩

/-- append onto a row that has room -/
theorem append_row_in {P : Program} {w : World} {t ty E z g n cap : Nat} {i : TypeInfo} {xs : List Value} (ht : P.underlying t = some (.slice E)) (hi : P.info? E = some i) (hs : i.size = z) (hown : w.ownsRow 0 E z (.slice (some ⟨g, 0, none⟩) n cap) n xs)
    (a : Addr) (m c : Nat) (news : List Value) (hl : news.length = m * z) (hnews : ∀ j u, news[j]? = some u → w.cell? (a.add j) = some u) (h1 : ∀ u ∈ news, u.oneCell' = true) (hroom : n + m ≤ cap) :
    ∃ v' w', (Builtin.append_ #[t, t] ty #[.slice (some ⟨g, 0, none⟩) n cap, .slice (some a) m c]).run P w = .ok v' w' ∧ w'.ownsRow 0 E z v' (n + m) (xs ++ news) ∧ w.grownBy w' (some g) := by
  subst hs
  have hlen : (xs ++ news).length = (n + m) * i.size := by rw [List.length_append, hown.1, hl, Nat.add_mul]
  rcases hown.2 with ⟨e, _⟩ | ⟨g', cap', cur, e, hbg, hg, hnc, hcm, hcs, htake⟩
  · cases e
  · injection e with e1 _ e2; injection e1 with e1; injection e1 with e1
    subst e1; subst e2
    have hfit : n * i.size + news.length ≤ cur.size := by rw [hl, hcs, ← Nat.add_mul]; exact Nat.mul_le_mul_right _ hroom
    have hr := run_append_room (P := P) w t ty E i ht hi g n cap cur hg a m c news hl hnews h1 hroom hfit
    refine ⟨_, _, hr, ⟨hlen, .inr ⟨g, cap, _, rfl, hbg, setRow_heap w g cur _ E _ hg, hroom, hcm, ?_, ?_⟩⟩, ⟨rfl, rfl, rfl, by simp, fun k _ hk => setRow_other w g k _ (fun e => hk (by rw [e]))⟩⟩
    · simp only [List.size_toArray, List.length_append, List.length_take, List.length_drop, Array.length_toList]
      omega
    · rw [htake, ← hlen]
      exact List.take_left ..

section
variable {P : Program} {ty : TypeId} {K : Kd} {H : List Hp} {α : Type} {f : α → D}
/-- append onto a tail: it grows in its place, or moves -/
theorem ef_append_slo {t : TypeId} {x y : Operand} {z bytes i : Nat} {u zv : Value} {T : TypeId} {l l' : List α} {d : D} (hx : opO K x = some u) (hm : nth H i = some (.slo u z T (l.map f))) (hy : opD K y = some d) (hsrc : SrcD H z d (l'.map f)) (hl' : 0 < l'.length) (ht : P.underlying t = some (.slice T))
    (hi' : ∃ i, P.info? T = some i ∧ i.zero = some zv ∧ i.size = z ∧ i.bytes = bytes) (hzs : zv.cells.size = z) (hsz : Nat.blt 0 z = true) (hlen : l.length + l'.length ≤ maxLen) (hbytes : (l.length + l'.length) * bytes ≤ 140737488355328) :
    Ef P (.call { callee := .builtin .append, args := #[x, y], argTypes := #[t, t] }) ty K H (fun d H' => ∃ u', d = .ov u' ∧ H' = H.set i (.slo u' z T ((l ++ l').map f))) :=
  ⟨fun C ρ w F hk gd => by
    obtain ⟨us, hus, A, c, eu, hnc, hcase⟩ := gd.h.ok _ (zaf hm)
    obtain ⟨vs, hvs, hsl⟩ := hsrc.out w F _ gd.flt gd.h.ok (hk.op hy)
    have hul := hus.len
    have hvl := hvs.len
    rw [List.length_map] at hul hvl
    have hz := zbb.1 hsz
    obtain ⟨j, i1, i2, i3, i4⟩ := hi'
    have hsl0 := hsl
    obtain ⟨B, c2, es, e2, e3, e4, _⟩ := hsl
    simp only [List.length_map] at es e2
    obtain ⟨b, o, eB, _⟩ := e4 (by intro e; have := congrArg List.length e; simp at this; subst this; simp at hvl; omega)
    have hvz := hvs.size
    have hfl : (vs.flatMap vcs).length = vs.length * z := zbE hvz
    have hall : ∀ u ∈ vs.flatMap vcs, u.oneCell' = true := by
      intro u hu
      obtain ⟨y, hy, huy⟩ := List.mem_flatMap.1 hu
      exact hvs.one y hy u huy
    have hcells : ∀ j u, (vs.flatMap vcs)[j]? = some u → w.cell? ((⟨b, o, none⟩ : Addr).add j) = some u := by
      intro j u hu
      rw [zcd]; exact hsl0.cell_flat (by rw [es, eB]) j u hu
    have hex : ev ρ x = u := hk.opO hx
    have hey : ev ρ y = .slice (some ⟨b, o, none⟩) vs.length c2 := by rw [← eB]; exact es
    by_cases hin : us.length + vs.length ≤ c
    · -- in its place
      rcases hcase with hc0 | ⟨g, p, eA, hown⟩
      · omega
      · have hcm : p.length + c ≤ maxLen := by
          rcases hown.1.2 with ⟨e, _⟩ | ⟨g', cap, cur, e, _, _, _, hm', _⟩
          · cases e
          · injection e with _ _ e; rw [e]; exact hm'
        have hrow := hown.1
        rw [List.length_append] at hrow
        obtain ⟨v', w', r1, r2, r3⟩ := append_row_in (P := P) (w := w) (ty := ty) ht i1 i3 hrow ⟨b, o, none⟩ vs.length c2 (vs.flatMap vcs) hfl hcells hall (by omega)
        have e1 := append_inplace ht i1 (by omega) r1
        have r6 := append_tail_in (P := P) (g := g) ht i1 hin r1
        rw [i3] at r6
        refine EOp.of_run (v := .slice (some ⟨g, p.length * z, none⟩) (us.length + vs.length) c) (w' := w') (by simp [execOp, zaX, resolve, invoke, builtin, hex, hey, eu, eA, r6]) ?_
        have hnew : Own vcs z T w' 0 v' (p ++ us ++ vs) := ⟨by rw [List.length_append, List.length_append, List.flatMap_append]; exact r2, fun q hq => by
          rcases List.mem_append.1 hq with hq | hq
          · exact hown.2 q hq
          · exact hvz q hq⟩
        have := gd.turn (h' := .slo (.slice (some ⟨g, p.length * z, none⟩) (us.length + vs.length) c) z T ((l ++ l').map f)) hm (fun q hq hn => r3.block q hq (fun e => hn ⟨_, _, _, by rw [eu, eA], by omega, by injection e with e; exact e.symm⟩)) r3.size r3.os r3.tape r3.output (fun q ⟨A', n', c', e', hc', hb'⟩ => by
          injection e' with e' _ e''; injection e' with e'
          exact .inl ⟨_, _, _, by rw [eu, eA], by omega, by rw [← hb', ← e']⟩) (fun kp => ⟨us ++ vs, by rw [List.map_append]; exact (hus.keep kp).app (hvs.keep kp), _, c, by rw [List.length_append], by rw [List.length_append]; omega, .inr ⟨g, p, rfl, by
            rw [List.append_assoc] at hnew
            rw [List.length_append, ← Nat.add_assoc, ← e1]; exact hnew⟩⟩)
        exact ⟨F, .ov _, _, ⟨_, rfl, rfl⟩, ⟨rfl, rfl⟩, this.1, this.2⟩
    · -- it moves
      have hdz := hus.size
      have hold : ∀ a, A = some a → ∀ q x, (us.flatMap vcs)[q]? = some x → w.cell? (a.add q) = some x := by
        intro a ea q x hq
        rcases hcase with hc0 | ⟨g, p, eA, hown⟩
        · have : us = [] := List.eq_nil_of_length_eq_zero (by omega)
          rw [this] at hq; simp at hq
        · rw [ea] at eA; injection eA with eA; subst eA
          rw [zcd]
          have hz' : ∀ q ∈ p, (vcs q).length = z := fun q hq => hown.2 q (List.mem_append_left _ hq)
          have hpl : (p.flatMap vcs).length = p.length * z := zbE hz'
          have := hown.1.cells (g := g) rfl (p.length * z + q) x (by rw [List.flatMap_append, List.getElem?_append_right (by omega), hpl, show p.length * z + q - p.length * z = q by omega]; exact hq)
          rw [zcd, Nat.zero_add] at this; exact this
      obtain ⟨v', w', cap', r1, rv, r2, E⟩ := append_tail_new (P := P) (w := w) (ty := ty) (n := us.length) (c := c) (m := vs.length) (c2 := c2) (A := A) (B := ⟨b, o, none⟩) ht i1 i2 i3 i4 (us.flatMap vcs) (vs.flatMap vcs) (zbE hdz) hold
        (fun ea => by
          rcases hcase with hc0 | ⟨g, p, eA, _⟩
          · omega
          · rw [ea] at eA; cases eA) hfl hcells (by omega) (by omega) (by rw [hul, hvl]; exact hbytes) hzs
      refine EOp.of_run (v := v') (w' := w') (by simp [execOp, zaX, resolve, invoke, builtin, hex, hey, eu, r1]) ?_
      have hnew : Own vcs z T w' 0 v' (us ++ vs) := ⟨by rw [List.length_append, List.flatMap_append]; exact r2, fun q hq => by
        rcases List.mem_append.1 hq with hq | hq
        · exact hdz q hq
        · exact hvz q hq⟩
      have hcp : us.length + vs.length ≤ cap' := by
        rcases r2.2 with ⟨e, _⟩ | ⟨g, cp, cur, e, _, _, hcp, _⟩
        · rw [rv] at e; cases e
        · rw [rv] at e; injection e with _ _ e; omega
      have := gd.turn (h' := .slo v' z T ((l ++ l').map f)) hm (fun q hq _ => E.block q hq (.inr (Nat.zero_le _))) E.size E.os E.tape E.output (fun q ⟨A', n', c', e', _, hb'⟩ => by
        rw [rv] at e'; injection e' with e' _ _; injection e' with e'
        rw [← hb', ← e']; exact .inr (Nat.le_refl _)) (fun kp => ⟨us ++ vs, by rw [List.map_append]; exact (hus.keep kp).app (hvs.keep kp), _, cap', by rw [rv, List.length_append], by rw [List.length_append]; exact hcp, .inr ⟨w.heap.size, [], by simp, by
          simp only [List.length_nil, Nat.zero_add, List.nil_append, List.length_append]
          rw [← rv]; exact hnew⟩⟩)
      exact ⟨F, .ov _, _, ⟨_, rfl, rfl⟩, ⟨rfl, by rw [rv]; rfl⟩, this.1, this.2⟩⟩
end
end Lp
