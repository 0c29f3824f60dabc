/-
  THE ENGINE, seventh part: slices whose elements are data of a kind; small lemmas on numbers and lists.
-/
import Derived.Test.YtjhkajkickngmaaEngP
namespace Lp
open Go Go.RowKit

theorem w64eq {n c : Int} (h : n = c) (hb : -9223372036854775808 ≤ c ∧ c ≤ 9223372036854775807) : IntKind.i64.wrap n = c := by rw [h]; exact w64 hb

theorem get_some {α : Type} (xs : List α) (k : Nat) (h : k < xs.length) : ∃ x, xs[k]? = some x := ⟨xs[k], List.getElem?_eq_getElem h⟩
theorem take_snoc {α : Type} {xs : List α} {k : Nat} {x : α} (h : xs[k]? = some x) : xs.take (k + 1) = xs.take k ++ [x] := by
  rw [List.take_succ_eq_append_getElem (List.getElem?_eq_some_iff.1 h).1, (List.getElem?_eq_some_iff.1 h).2]
theorem get_lt {α : Type} {xs : List α} {k : Nat} {x : α} (h : xs[k]? = some x) : k < xs.length := (List.getElem?_eq_some_iff.1 h).1

/-- A slice of data of a kind, each of z cells. -/
def SlT {α : Type} (cs : α → List Value) (z : Nat) (w : World) (lo hi : Nat) (v : Value) (xs : List α) : Prop := Sl w lo hi z v (xs.map cs)

section
variable {α : Type} {cs : α → List Value} {z : Nat} {w w' : World} {lo hi : Nat} {v : Value} {xs : List α}
theorem SlT.upd {a b : Nat} (h : SlT cs z w lo hi v xs) (U : Upd a b w w') (hh : hi ≤ a ∨ b ≤ lo) : SlT cs z w' lo hi v xs := Sl.upd h U hh
theorem SlT.ext (h : SlT cs z w lo hi v xs) (E : Ext w w') : SlT cs z w' lo hi v xs := Sl.ext h E
theorem SlT.wide {lo' hi' : Nat} (h : SlT cs z w lo hi v xs) (h1 : lo' ≤ lo) (h2 : hi ≤ hi') (h3 : hi' ≤ w.heap.size) : SlT cs z w lo' hi' v xs := Sl.wide h h1 h2 h3
theorem SlT.at_ (h : SlT cs z w lo hi v xs) {k : Nat} {x : α} (hx : xs[k]? = some x) : At w (bl v) (of_ v + k * z) (cs x) := Sl.at_ h (by simp [hx])
theorem SlT.len (h : SlT cs z w lo hi v xs) : Len v xs.length := by have := Sl.len h; simpa using this
theorem SlT.has (h : SlT cs z w lo hi v xs) {k : Nat} (hk : k < xs.length) : Has v k := Sl.has h (by simpa using hk)
theorem SlT.one (h : SlT cs z w lo hi v xs) : v.oneCell' = true := by
  obtain ⟨A, c, rfl, _⟩ := h; rfl
theorem SlT.nil (h : hi ≤ w.heap.size) : SlT cs z w lo hi (.slice none 0 0) [] := Sl.nil _ _ _ _ h
theorem SlT.cut (h : SlT cs z w lo hi v xs) (l k : Nat) (hl : l ≤ k) (hh : k ≤ xs.length) : SlT cs z w lo hi (cut z v l k) ((xs.take k).drop l) := by
  have := Sl.cut h l k hl (by simpa using hh)
  simpa [SlT, List.map_take, List.map_drop] using this
theorem SlT.block (h : SlT cs z w lo hi v xs) (hn : 0 < xs.length) : lo ≤ bl v ∧ bl v < hi := Sl.block h (by intro e; simp at e; subst e; simp at hn)
theorem SlT.capOk (h : SlT cs z w lo hi v xs) : ∃ A c, v = .slice A xs.length c ∧ xs.length ≤ c := by
  obtain ⟨A, c, h1, h2, _⟩ := h; exact ⟨A, c, by simpa using h1, by simpa using h2⟩
end

/-- A label as data. -/
structure Lbl where
  n : ByteArray
  v : ByteArray
  deriving DecidableEq

def Lbl.cs (x : Lbl) : List Value := [.string x.n, .string x.v]
end Lp
