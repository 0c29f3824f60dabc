/-
  Lists that are kept, marked, grown: plain data.
-/
import Derived.Test.YtjhkajkickngmaaDN
set_option linter.unusedVariables false
namespace Lp
open Go
/-- marks of the list i, from a place on -/
def mkL {α : Type} (g : Nat → Nat → α) (i f n : Nat) : List α := (List.range' f n).map (g i)
def gR (i k : Nat) : RowD := ⟨[], ((-1000) * ((i : Nat) : Int)) - ((k : Nat) : Int) - 1⟩
def gI (i k : Nat) : Int := ((-1000000) * ((i : Nat) : Int)) - ((k : Nat) : Int) - 7
section
variable {α : Type} {g : Nat → Nat → α}
theorem mkL_len {i f n : Nat} : (mkL g i f n).length = n := by unfold mkL; simp
theorem mkL_app {i f n m : Nat} : mkL g i f n ++ mkL g i (f + n) m = mkL g i f (n + m) := by
  unfold mkL; rw [← List.map_append, List.range'_append_1]
theorem mkL_succ {i f n : Nat} : mkL g i f (n + 1) = mkL g i f n ++ [g i (f + n)] := by rw [← mkL_app]; rfl
theorem mkL_take {i f n m : Nat} (h : n ≤ m) : (mkL g i f m).take n = mkL g i f n := by
  obtain ⟨k, rfl⟩ := Nat.le.dest h
  rw [← mkL_app, List.take_left' mkL_len]
theorem mkL_more {i n m : Nat} {l l2 : List α} (h : l = mkL g i 0 n) (h2 : l2 = mkL g i n m) : l ++ l2 = mkL g i 0 (n + m) := by
  rw [h, h2]; have := mkL_app (g := g) (i := i) (f := 0) (n := n) (m := m); rwa [Nat.zero_add] at this
/-- what marking leaves -/
def putK (g : Nat → Nat → α) (K : List (Kp α)) : List (Kp α) := K.mapIdx (fun i p => ⟨p.v, mkL g i 0 p.l.length⟩)
theorem putK_len {K : List (Kp α)} : (putK g K).length = K.length := by unfold putK; simp
theorem putK_get {K : List (Kp α)} {i : Nat} {x : Kp α} (h : K[i]? = some x) : (putK g K)[i]? = some ⟨x.v, mkL g i 0 x.l.length⟩ := by unfold putK; rw [List.getElem?_mapIdx, h]; rfl
theorem putK_d {K : List (Kp α)} : (putK g K).map Kp.d = K.map Kp.d := by
  apply List.ext_getElem?; intro i
  unfold putK
  rw [List.getElem?_map, List.getElem?_map, List.getElem?_mapIdx]
  cases K[i]? <;> rfl
theorem putK_marked {K : List (Kp α)} : ∀ i x, (putK g K)[i]? = some x → x.l = mkL g i 0 x.l.length := by
  intro i x h
  unfold putK at h
  rw [List.getElem?_mapIdx] at h
  cases e : K[i]? with
  | none => rw [e] at h; cases h
  | some y => rw [e] at h; injection h with h; subst h; rw [mkL_len]
theorem putK_light {K : List (Kp α)} {N : Nat} (h : ∀ x ∈ K, x.l.length ≤ N) : ∀ x ∈ putK g K, x.l.length ≤ N := by
  intro x hx
  obtain ⟨i, he⟩ := List.mem_iff_getElem?.1 hx
  unfold putK at he
  rw [List.getElem?_mapIdx] at he
  cases e : K[i]? with
  | none => rw [e] at he; cases he
  | some y => rw [e] at he; injection he with he; subst he; rw [mkL_len]; exact h _ (List.mem_of_getElem? e)
theorem putK_step {K : List (Kp α)} {i : Nat} {x : Kp α} (h : K[i]? = some x) : (putK g K).take i ++ [⟨x.v, mkL g i 0 x.l.length⟩] = (putK g K).take (i + 1) := (take_snoc (putK_get h)).symm
/-- grown so far -/
structure Grown (g : Nat → Nat → α) (K : List (Kp α)) (G : List (K2 α)) : Prop where
  v0 : G.map K2.d0 = K.map Kp.d
  at_ : ∀ i y, G[i]? = some y → y.l = mkL g i 0 (y.m + 72) ∧ y.m ≤ 1000000
theorem Grown.nil : Grown g [] [] := ⟨rfl, fun i y h => by simp at h⟩
theorem Grown.len {K : List (Kp α)} {G : List (K2 α)} (h : Grown g K G) : G.length = K.length := by have := congrArg List.length h.v0; simpa using this
theorem Grown.snoc {K : List (Kp α)} {G : List (K2 α)} {i : Nat} {x : Kp α} {v' : Value} {l : List α} (h : Grown g (K.take i) G) (hx : K[i]? = some x) (hl : l = mkL g i 0 (x.l.length + 72)) (hb : x.l.length ≤ 1000000) : Grown g (K.take (i + 1)) (G ++ [⟨x.v, v', x.l.length, l⟩]) := by
  have hi := get_lt hx
  have hlen := h.len
  rw [List.length_take] at hlen
  refine ⟨by rw [take_snoc hx, List.map_append, List.map_append, h.v0]; rfl, fun j y hj => ?_⟩
  rcases Nat.lt_or_ge j G.length with hlt | hge
  · rw [List.getElem?_append_left hlt] at hj; exact h.at_ j y hj
  · rw [List.getElem?_append_right hge] at hj
    have hj0 : j - G.length = 0 := by have := get_lt hj; simp at this; omega
    rw [hj0] at hj
    injection hj with hj; subst hj
    have : j = i := by omega
    subst this
    exact ⟨hl, hb⟩
end
end Lp
