/-
  The order of rows as a way of comparing.
-/
import Derived.Test.YtjhkajkickngmaaPSym
set_option linter.unusedVariables false
namespace Lp
open Go
/-- what omega shall not look into -/
structure Hid (p : Prop) : Prop where
  out : p
theorem cmpRow_cmp (o : Int) : Cmp (cmpRow o) := ⟨fun a b => cmpRow_neg o a b, fun a b d => cmpRow_tr o a b d⟩
theorem rot_none {α : Type} {L : List α} {a m b : Nat} (h1 : a ≤ m) (h2 : m ≤ b) (hb : b ≤ L.length) (h : a = m ∨ m = b) : rotL a m b L = L := by
  obtain ⟨P, X, R1, e1, hP, hX⟩ := dec2 (L := L) (a := a) (b := m) h1 (by omega)
  obtain ⟨Z, Y, R, e2, hZ, hY⟩ := dec2 (L := R1) (a := 0) (b := b - m) (by omega) (by have := congrArg List.length e1; simp only [List.length_append] at this; omega)
  rw [List.eq_nil_of_length_eq_zero hZ, List.nil_append] at e2
  subst e2; subst e1
  rw [rotL_dec (by omega) (by omega) (by omega)]
  rcases h with h | h
  · have : X = [] := List.eq_nil_of_length_eq_zero (by omega)
    subst this; simp
  · have : Y = [] := List.eq_nil_of_length_eq_zero (by omega)
    subst this; simp
theorem half_srt {α : Type} {c : α → α → Int} {L : List α} {a s b : Nat} (h1 : Srt c (seg L a s)) (h2 : Srt c (seg L s b)) (ha : a ≤ s) (hb : s ≤ b) (hl : b ≤ L.length) (h : a = s ∨ s = b) : Srt c (seg L a b) := by
  rcases h with rfl | rfl
  · exact h2
  · exact h1
theorem isrt_fixI {α : Type} {c : α → α → Int} {L : List α} {a b : Nat} (ha : a ≤ b) (hb : b ≤ L.length) : isrt c a b b (a + 1) L = fixI c a b L := by
  obtain ⟨P, X, R, e, hP, hX⟩ := dec2 ha hb
  subst e
  rw [fixI_dec (a := a) (b := b) (by omega) (by omega)]
  cases X with
  | nil => rw [isrt_end (by simp at hX; omega)]; rfl
  | cons x X =>
    have key := isrt_isort (c := c) (A := P) (R := R) X.length [x] X rfl
    have e1 : isort c [x] = [x] := rfl
    rw [e1] at key
    simp only [List.length_cons, List.length_nil, List.append_assoc, List.singleton_append] at key hX
    have more : ∀ (n m i : Nat) (L : List α), b ≤ i + n → n ≤ m → isrt c a b m i L = isrt c a b n i L := by
      intro n
      induction n with
      | zero => intro m i L h1 _; rw [isrt_end (by omega), isrt_end (by omega)]
      | succ n ih =>
        intro m i L h1 h2
        obtain ⟨m, rfl⟩ : ∃ k, m = k + 1 := ⟨m - 1, by omega⟩
        rcases Nat.lt_or_ge i b with h | h
        · rw [isrt_next h, isrt_next h]; exact ih m _ _ (by omega) (by omega)
        · rw [isrt_end h, isrt_end h]
    rw [more X.length b (a + 1) _ (by omega) (by omega)]
    subst hP
    rw [show b = P.length + (0 + 1) + X.length by omega, show P.length + 1 = P.length + (0 + 1) by omega]
    exact key
end Lp
