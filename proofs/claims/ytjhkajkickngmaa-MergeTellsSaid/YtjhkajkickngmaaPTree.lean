/-
  The tree of a merge, as data; places in lists; the document's own merge.
-/
import Derived.Test.YtjhkajkickngmaaPSort
set_option linter.unusedVariables false
namespace Lp
open Go Go.RowKit

structure TreeD where
  o : Int
  l : LLs
  width : Nat
  best : List Nat
def TreeD.d (t : TreeD) : D := .agg [.v (.int .i64 t.o), .sh 1 (t.l.map (D.ls 2 RowD.d)), .v (.int .i64 (t.width : Int)), .sh 1 (t.best.map dN)]

theorem hd_at {ll : LLs} {k : Nat} {l : List RowD} (h : ll[k]? = some l) : hd ll k = l.head? := by unfold hd; rw [h]; rfl
theorem hd_far {ll : LLs} {k : Nat} (h : ll.length ≤ k) : hd ll k = none := by unfold hd; rw [List.getElem?_eq_none h]; rfl
theorem hd_zero {ll : LLs} {k : Nat} {l : List RowD} (h : ll[k]? = some l) (h0 : l.length = 0) : hd ll k = none := by
  rw [hd_at h, List.eq_nil_of_length_eq_zero h0]; rfl
theorem hd_first {ll : LLs} {k : Nat} {l : List RowD} {x : RowD} (h : ll[k]? = some l) (h0 : l[0]? = some x) : hd ll k = some x := by
  rw [hd_at h]; cases l with
  | nil => simp at h0
  | cons y r => simpa using h0
theorem pop_at {ll : LLs} {k : Nat} {l : List RowD} (h : ll[k]? = some l) : ll.set k ((l.take l.length).drop 1) = pop ll k := by
  unfold pop; rw [List.getD_eq_getElem?_getD, h, List.take_length]; rfl
theorem set_step {c : List Nat} {wd k : Nat} (h : ∀ j, j < k → c[wd + j]? = some j) (hl : wd + k < c.length) : ∀ j, j < k + 1 → (c.set (wd + k) k)[wd + j]? = some j := by
  intro j hj
  by_cases e : j = k
  · subst e; rw [List.getElem?_set_self hl]
  · rw [List.getElem?_set_ne (by omega)]; exact h j (by omega)
/-- What is left of lists of which so many rows are taken. -/
def rest (ll : LLs) (c : List Nat) : LLs := List.zipWith (fun l n => l.drop n) ll c
theorem rest_get {ll : LLs} {c : List Nat} {i n : Nat} {l : List RowD} (h : ll[i]? = some l) (hc : c[i]? = some n) : (rest ll c)[i]? = some (l.drop n) := by
  unfold rest; rw [List.getElem?_zipWith, h, hc]
theorem rest_length {ll : LLs} {c : List Nat} (h : c.length = ll.length) : (rest ll c).length = ll.length := by unfold rest; rw [List.length_zipWith, h]; omega
theorem rest_zero (ll : LLs) : rest ll (List.replicate ll.length 0) = ll := by
  apply List.ext_getElem?
  intro i
  rcases Nat.lt_or_ge i ll.length with h | h
  · obtain ⟨l, hl⟩ := get_some ll i h
    rw [rest_get hl (by rw [List.getElem?_replicate, if_pos h]), hl]; rfl
  · rw [List.getElem?_eq_none (by rw [rest_length List.length_replicate]; exact h), List.getElem?_eq_none h]
theorem hd_rest {ll : LLs} {c : List Nat} {i n : Nat} {l : List RowD} (h : ll[i]? = some l) (hc : c[i]? = some n) : hd (rest ll c) i = l[n]? := by
  unfold hd; rw [rest_get h hc]; simp [List.head?_drop]
theorem pop_rest {ll : LLs} {c : List Nat} {i n : Nat} {l : List RowD} (h : ll[i]? = some l) (hc : c[i]? = some n) : pop (rest ll c) i = rest ll (c.set i (n + 1)) := by
  have hlt := get_lt h
  have hlc := get_lt hc
  apply List.ext_getElem?
  intro j
  unfold pop
  by_cases e : j = i
  · subst e
    have hr := rest_get h hc
    rw [List.getElem?_set_self (get_lt hr), List.getD_eq_getElem?_getD, hr, rest_get h (List.getElem?_set_self hlc)]
    simp [List.drop_drop]
  · rw [List.getElem?_set_ne (Ne.symm e)]
    unfold rest
    rw [List.getElem?_zipWith, List.getElem?_zipWith, List.getElem?_set_ne (Ne.symm e)]
/-- The best of the first i lists' heads: none (-1), or its number. -/
def BestTo (o : Int) (L : LLs) (i : Nat) (b : Int) : Prop := (b = -1 ∧ ∀ j, j < i → hd L j = none) ∨ ∃ m : Nat, b = (m : Int) ∧ m < i ∧ (∃ x, hd L m = some x) ∧ ∀ j, j < i → Wins o L m j
theorem BestTo.zero (o : Int) (L : LLs) : BestTo o L 0 (-1) := .inl ⟨rfl, fun j hj => absurd hj (Nat.not_lt_zero j)⟩
theorem BestTo.skip {o : Int} {L : LLs} {i : Nat} {b : Int} (h : BestTo o L i b) (hn : hd L i = none) : BestTo o L (i + 1) b := by
  rcases h with ⟨h1, h2⟩ | ⟨m, h1, h2, h3, h4⟩
  · refine .inl ⟨h1, fun j hj => ?_⟩
    rcases Nat.lt_or_ge j i with h | h
    · exact h2 j h
    · obtain rfl : j = i := by omega
      exact hn
  · refine .inr ⟨m, h1, by omega, h3, fun j hj => ?_⟩
    rcases Nat.lt_or_ge j i with h | h
    · exact h4 j h
    · obtain rfl : j = i := by omega
      exact Wins.of_none hn
theorem BestTo.first {o : Int} {L : LLs} {i : Nat} {b : Int} {x : RowD} (h : BestTo o L i b) (hb : b < 0) (hx : hd L i = some x) : BestTo o L (i + 1) (i : Int) := by
  rcases h with ⟨h1, h2⟩ | ⟨m, h1, _⟩
  · refine .inr ⟨i, rfl, by omega, ⟨x, hx⟩, fun j hj => ?_⟩
    rcases Nat.lt_or_ge j i with h | h
    · exact Wins.of_none (h2 j h)
    · obtain rfl : j = i := by omega
      exact Wins.refl o L _
  · omega
theorem BestTo.take {o : Int} {L : LLs} {i m : Nat} {x y : RowD} (h : BestTo o L i (m : Int)) (hx : hd L i = some x) (hy : hd L m = some y) (hl : less o x y = true) : BestTo o L (i + 1) (i : Int) := by
  rcases h with ⟨h1, _⟩ | ⟨m', h1, h2, h3, h4⟩
  · omega
  · obtain rfl : m' = m := by omega
    refine .inr ⟨i, rfl, by omega, ⟨x, hx⟩, fun j hj => ?_⟩
    have hw : Wins o L i m' := by
      intro y' hy'
      rw [hy] at hy'; injection hy' with e; subst e
      exact ⟨x, hx, by rw [less_false]; rw [less_iff] at hl; omega, fun _ => hl⟩
    rcases Nat.lt_or_ge j i with h | h
    · exact hw.trans (h4 j h)
    · obtain rfl : j = i := by omega
      exact Wins.refl o L _
theorem BestTo.keep {o : Int} {L : LLs} {i m : Nat} {x y : RowD} (h : BestTo o L i (m : Int)) (hx : hd L i = some x) (hy : hd L m = some y) (hl : less o x y = false) : BestTo o L (i + 1) (m : Int) := by
  rcases h with ⟨h1, _⟩ | ⟨m', h1, h2, h3, h4⟩
  · omega
  · obtain rfl : m' = m := by omega
    refine .inr ⟨m', rfl, by omega, h3, fun j hj => ?_⟩
    rcases Nat.lt_or_ge j i with h | h
    · exact h4 j h
    · obtain rfl : j = i := by omega
      intro x' hx'
      rw [hx] at hx'; injection hx' with e; subst e
      exact ⟨y, hy, hl, fun hlt => by omega⟩
end Lp
namespace Lp
theorem BestTo.lt {o : Int} {L : LLs} {i : Nat} {b : Int} (h : BestTo o L i b) : -1 ≤ b ∧ b < (i : Int) ∨ (b = -1) := by
  rcases h with ⟨h, _⟩ | ⟨m, h, h2, _⟩ <;> omega
theorem BestTo.nat {o : Int} {L : LLs} {i : Nat} {b : Int} (h : BestTo o L i b) (hb : ¬ b < 0) : ∃ m x, b = ((m : Nat) : Int) ∧ m < i ∧ hd L m = some x ∧ ∀ j, j < i → Wins o L m j := by
  rcases h with ⟨h, _⟩ | ⟨m, h, h2, ⟨x, hx⟩, h4⟩
  · omega
  · exact ⟨m, x, h, h2, hx, h4⟩
end Lp
namespace Lp
open Go
theorem hd_rest_some {ll : LLs} {c : List Nat} {m : Nat} {u : RowD} (h : hd (rest ll c) m = some u) : ∃ z q, ll[m]? = some z ∧ c[m]? = some q ∧ z[q]? = some u := by
  have hlt := hd_lt h
  have hl : m < ll.length ∧ m < c.length := by unfold rest at hlt; rw [List.length_zipWith] at hlt; omega
  obtain ⟨l, hl1⟩ := get_some ll m hl.1
  obtain ⟨q, hq⟩ := get_some c m hl.2
  rw [hd_rest hl1 hq] at h
  exact ⟨l, q, hl1, hq, h⟩
theorem hd_rest_of {ll : LLs} {c : List Nat} {i n : Nat} {y : List RowD} (hy : ll[i]? = some y) (hn : c[i]? = some n) : hd (rest ll c) i = y[n]? := hd_rest (hy) hn
theorem BestTo.all {o : Int} {ll : LLs} {c : List Nat} {i : Nat} {b : Int} (h : BestTo o (rest ll c) i b) (hi : ll.length ≤ i) (hb : b < 0) : ∀ k, hd (rest ll c) k = Option.none := by
  rcases h with ⟨_, h⟩ | ⟨m, h, _⟩
  · intro k
    rcases Nat.lt_or_ge k i with hk | hk
    · exact h k hk
    · cases e : hd (rest ll c) k with
      | none => rfl
      | some u =>
        obtain ⟨z, q, hz, _, _⟩ := hd_rest_some e
        have := get_lt hz; omega
  · omega
theorem wins_all {o : Int} {ll : LLs} {c : List Nat} {i m : Nat} (h : ∀ j, j < i → Wins o (rest ll c) m j) (hi : ll.length ≤ i) : ∀ j, Wins o (rest ll c) m j := by
  intro j
  rcases Nat.lt_or_ge j i with hk | hk
  · exact h j hk
  · refine Wins.of_none ?_
    cases e : hd (rest ll c) j with
    | none => rfl
    | some u =>
      obtain ⟨z, q, hz, _, _⟩ := hd_rest_some e
      have := get_lt hz; omega
end Lp
