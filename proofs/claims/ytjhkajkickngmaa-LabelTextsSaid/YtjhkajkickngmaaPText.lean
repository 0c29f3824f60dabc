/-
  Texts of labels, as plain data: runes as bytes, quotation marks, joining.
-/
import Derived.Test.YtjhkajkickngmaaPLbl
set_option linter.unusedVariables false
namespace Lp
open Go

/-- a rune as bytes -/
def encR (x : Nat) : List UInt8 :=
  if x ≤ 127 then [UInt8.ofNat (x % 256)]
  else if x ≤ 2047 then [UInt8.ofNat (192 + x / 64 % 256), UInt8.ofNat (128 + x % 256 % 64)]
  else if x < 55296 ∨ (57343 < x ∧ x ≤ 65535) then [UInt8.ofNat (224 + x / 4096 % 256), UInt8.ofNat (128 + x / 64 % 256 % 64), UInt8.ofNat (128 + x % 256 % 64)]
  else if 65535 < x ∧ x ≤ 1114111 then [UInt8.ofNat (240 + x / 262144 % 256), UInt8.ofNat (128 + x / 4096 % 256 % 64), UInt8.ofNat (128 + x / 64 % 256 % 64), UInt8.ofNat (128 + x % 256 % 64)]
  else [239, 191, 189]
theorem encR_len (x : Nat) : (encR x).length ≤ 4 := by unfold encR; (repeat' split) <;> simp
def hasP (a b : ByteArray) : Bool := decide (b.size ≤ a.size) && decide (a.extract 0 b.size = b)
def wide : ByteArray := ⟨#[239, 191, 189]⟩
def hexd : ByteArray := ⟨#[48, 49, 50, 51, 52, 53, 54, 55, 56, 57, 97, 98, 99, 100, 101, 102]⟩
def hexB (n : Nat) : UInt8 := hexd[n]?.getD 0
def byteAt (s : ByteArray) (p : Nat) : Nat := (s[p]?.getD 0).toNat
/-- what a rune becomes between quotation marks -/
def piece (s : ByteArray) (p : Nat) : List UInt8 :=
  if decR s p = 34 ∨ decR s p = 92 then 92 :: encR (decR s p)
  else if decR s p = 10 then [92, 110]
  else if decR s p = 65533 ∧ hasP (s.extract p s.size) wide = false then [92, 120, hexB (byteAt s p / 16), hexB (byteAt s p % 16)]
  else encR (decR s p)
theorem piece_len (s : ByteArray) (p : Nat) : (piece s p).length ≤ 5 := by
  have := encR_len (decR s p)
  unfold piece
  (repeat' split) <;> simp <;> omega
def quoteAt (s : ByteArray) (p : Nat) : List UInt8 := if h : p < s.size then piece s p ++ quoteAt s (p + decW s p) else []
termination_by s.size - p
decreasing_by have := decW_pos s p; omega
theorem quoteAt_lt {s : ByteArray} {p : Nat} (h : p < s.size) : quoteAt s p = piece s p ++ quoteAt s (p + decW s p) := by
  conv => lhs; unfold quoteAt
  rw [dif_pos h]
theorem quoteAt_ge {s : ByteArray} {p : Nat} (h : s.size ≤ p) : quoteAt s p = [] := by
  unfold quoteAt; rw [dif_neg (by omega)]
def quoteL (s : ByteArray) : List UInt8 := 34 :: (quoteAt s 0 ++ [34])
def quoteB (s : ByteArray) : ByteArray := ⟨(quoteL s).toArray⟩
/-- texts, something between them -/
def joinL (sep : ByteArray) : List ByteArray → List UInt8
  | [] => []
  | [x] => x.data.toList
  | x :: y :: r => x.data.toList ++ sep.data.toList ++ joinL sep (y :: r)
def joinB (sep : ByteArray) (l : List ByteArray) : ByteArray := ⟨(joinL sep l).toArray⟩
def partB (x : Lbl) : ByteArray := x.n ++ (⟨#[61]⟩ : ByteArray) ++ quoteB x.v
def textB (l : List Lbl) : ByteArray := (⟨#[123]⟩ : ByteArray) ++ joinB ⟨#[44]⟩ (l.map partB) ++ (⟨#[125]⟩ : ByteArray)

theorem piece_1 {s : ByteArray} {p : Nat} (h : decR s p = 34 ∨ decR s p = 92) : piece s p = [92] ++ encR (decR s p) := by unfold piece; rw [if_pos h]; rfl
theorem piece_2 {s : ByteArray} {p : Nat} (h : ¬ (decR s p = 34 ∨ decR s p = 92)) (h2 : decR s p = 10) : piece s p = [92, 110] := by unfold piece; rw [if_neg h, if_pos h2]
theorem piece_3 {s : ByteArray} {p : Nat} (h : ¬ (decR s p = 34 ∨ decR s p = 92)) (h2 : ¬ decR s p = 10) (h3 : decR s p = 65533 ∧ hasP (s.extract p s.size) wide = false) : piece s p = [92, 120, hexB (byteAt s p / 16), hexB (byteAt s p % 16)] := by unfold piece; rw [if_neg h, if_neg h2, if_pos h3]
theorem piece_4 {s : ByteArray} {p : Nat} (h : ¬ (decR s p = 34 ∨ decR s p = 92)) (h2 : ¬ decR s p = 10) (h3 : ¬ (decR s p = 65533 ∧ hasP (s.extract p s.size) wide = false)) : piece s p = encR (decR s p) := by unfold piece; rw [if_neg h, if_neg h2, if_neg h3]
theorem hexB_at {n : Nat} {u : UInt8} (h : hexd[n]? = some u) : u = hexB n := by unfold hexB; rw [h]; rfl
theorem byteAt_at {s : ByteArray} {p : Nat} {u : UInt8} (h : s[p]? = some u) : u.toNat = byteAt s p := by unfold byteAt; rw [h]; rfl
def sumSz (l : List ByteArray) : Nat := (l.map ByteArray.size).sum
theorem sumSz_take {l : List ByteArray} {k : Nat} {x : ByteArray} (h : l[k]? = some x) : sumSz (l.take (k + 1)) = sumSz (l.take k) + x.size := by
  rw [take_snoc h]; simp [sumSz]
theorem sumSz_le (l : List ByteArray) (k : Nat) : sumSz (l.take k) ≤ sumSz l := by
  conv => rhs; rw [← List.take_append_drop k l]
  unfold sumSz; rw [List.map_append, List.sum_append]; omega
theorem joinL_snoc (sep : ByteArray) : ∀ (l : List ByteArray) (x : ByteArray), l ≠ [] → joinL sep (l ++ [x]) = joinL sep l ++ sep.data.toList ++ x.data.toList
  | [], x, h => absurd rfl h
  | [a], x, _ => by simp [joinL]
  | a :: b :: r, x, _ => by
    have := joinL_snoc sep (b :: r) x (by simp)
    show a.data.toList ++ sep.data.toList ++ joinL sep ((b :: r) ++ [x]) = _
    rw [this]; simp [joinL, List.append_assoc]
theorem joinL_take {sep : ByteArray} {l : List ByteArray} {k : Nat} {x : ByteArray} (h : l[k + 1]? = some x) : joinL sep (l.take (k + 2)) = joinL sep (l.take (k + 1)) ++ sep.data.toList ++ x.data.toList := by
  rw [take_snoc h, joinL_snoc]
  intro e
  have h0 : (l.take (k + 1)).length = 0 := by rw [e]; rfl
  have hk := (List.getElem?_eq_some_iff.1 h).1
  rw [List.length_take] at h0
  omega
theorem joinL_one {sep : ByteArray} {l : List ByteArray} {x : ByteArray} (h : l[0]? = some x) : joinL sep (l.take 1) = x.data.toList := by
  rw [show (1 : Nat) = 0 + 1 from rfl, take_snoc h]; simp [joinL]
theorem joinB_none {sep : ByteArray} {l : List ByteArray} (h : l.length = 0) : ByteArray.empty = joinB sep l := by
  rw [List.eq_nil_of_length_eq_zero h]; rfl
theorem joinB_one {sep : ByteArray} {l : List ByteArray} {x : ByteArray} (h : l[0]? = some x) (hl : l.length = 1) : x = joinB sep l := by
  have := joinL_one (sep := sep) h
  rw [List.take_of_length_le (by omega)] at this
  unfold joinB; rw [this]
theorem joinB_all {sep : ByteArray} {l : List ByteArray} {k : Nat} {bs : List UInt8} (h : bs = joinL sep (l.take (k + 1))) (hl : l.length ≤ k + 1) : (⟨bs.toArray⟩ : ByteArray) = joinB sep l := by
  rw [h, List.take_of_length_le hl]; rfl
theorem len_toList (x : ByteArray) : x.data.toList.length = x.size := by simp
theorem quoteAt_len (s : ByteArray) : ∀ (n p : Nat), s.size - p = n → (quoteAt s p).length ≤ 5 * (s.size - p) := by
  intro n
  induction n using Nat.strongRecOn with
  | _ n ih =>
    intro p hp
    rcases Nat.lt_or_ge p s.size with h | h
    · have h1 := decW_pos s p
      have h2 := piece_len s p
      rw [quoteAt_lt h, List.length_append]
      have := ih (s.size - (p + decW s p)) (by omega) _ rfl
      omega
    · rw [quoteAt_ge h]; simp
theorem quoteB_size (s : ByteArray) : (quoteB s).size ≤ 5 * s.size + 2 := by
  have := quoteAt_len s _ 0 rfl
  show (quoteL s).toArray.size ≤ _
  unfold quoteL
  simp only [List.size_toArray, List.length_cons, List.length_append, List.length_nil]
  omega
theorem partB_size (x : Lbl) : (partB x).size ≤ x.n.size + 5 * x.v.size + 3 := by
  have := quoteB_size x.v
  unfold partB
  simp only [ByteArray.size_append]
  have e : (⟨#[61]⟩ : ByteArray).size = 1 := rfl
  omega
theorem joinL_len {sep : ByteArray} (h : sep.size = 1) : ∀ l : List ByteArray, (joinL sep l).length ≤ sumSz l + l.length
  | [] => by simp [joinL]
  | [x] => by simp [joinL, sumSz]
  | x :: y :: r => by
    have := joinL_len h (y :: r)
    simp only [joinL, List.length_append, len_toList, sumSz, List.map_cons, List.sum_cons, List.length_cons] at *
    omega
theorem joinB_size {sep : ByteArray} (h : sep.size = 1) (l : List ByteArray) : (joinB sep l).size ≤ sumSz l + l.length := by
  have := joinL_len h l
  show (joinL sep l).toArray.size ≤ _
  simpa using this
theorem sumSz_part {l : List Lbl} (hz : ∀ x ∈ l, x.n.size ≤ 100000 ∧ x.v.size ≤ 100000) : sumSz (l.map partB) ≤ l.length * 600003 := by
  induction l with
  | nil => simp [sumSz]
  | cons x r ih =>
    have h1 := partB_size x
    have h2 := hz x List.mem_cons_self
    have h3 := ih (fun y hy => hz y (List.mem_cons_of_mem _ hy))
    simp only [sumSz, List.map_cons, List.sum_cons, List.length_cons] at *
    omega
theorem sumSz_parts {l : List Lbl} (hl : l.length ≤ 1000) (hz : ∀ x ∈ l, x.n.size ≤ 100000 ∧ x.v.size ≤ 100000) (k : Nat) : sumSz ((l.take k).map partB) ≤ 1000000000 := by
  have h1 := sumSz_part (l := l.take k) (fun x hx => hz x (List.mem_of_mem_take hx))
  rw [List.length_take] at h1
  omega
end Lp
