/-
  THE ENGINE, ninth part: stores into rows of the call's own; rows that are apart.
-/
import Derived.Test.YtjhkajkickngmaaEngB
namespace Lp
open Go Go.RowKit

theorem spl_app {cs r : List Value} {o : Nat} {vs : List Value} (h : o + vs.length ≤ cs.length) : spl (cs ++ r) o vs = spl cs o vs ++ r := by
  unfold spl
  rw [List.take_append_of_le_length (by omega), List.drop_append_of_le_length (by omega)]
  simp
theorem infz_of {P : Program} {E : TypeId} {zv : Value} {z b : Nat} (h : (P.info? E).map (fun i => (i.zero, i.size, i.bytes)) = some (some zv, z, b)) : ∃ i, P.info? E = some i ∧ i.zero = some zv ∧ i.size = z ∧ i.bytes = b := by
  obtain ⟨i, h1, h2⟩ := Option.map_eq_some_iff.1 h
  simp only [Prod.mk.injEq] at h2
  exact ⟨i, h1, h2.1, h2.2.1, h2.2.2⟩
theorem inf_of {P : Program} {E : TypeId} {z b : Nat} (h : (P.info? E).map (fun i => (i.size, i.bytes)) = some (z, b)) : ∃ i, P.info? E = some i ∧ i.bytes = b ∧ i.size = z := by
  obtain ⟨i, h1, h2⟩ := Option.map_eq_some_iff.1 h
  simp only [Prod.mk.injEq] at h2
  exact ⟨i, h1, h2.2, h2.1⟩
section
variable {α : Type} {cs : α → List Value} {z : Nat} {E : TypeId} {base : Nat} {v : Value} {xs : List α} {w w' : World}

theorem flat_len (hz : ∀ x ∈ xs, (cs x).length = z) : (xs.flatMap cs).length = xs.length * z := by
  induction xs with
  | nil => simp
  | cons y r ih => rw [List.flatMap_cons, List.length_append, hz y List.mem_cons_self, ih (fun x hx => hz x (List.mem_cons_of_mem _ hx)), List.length_cons, Nat.add_mul]; omega

theorem spl_flat (hz : ∀ x ∈ xs, (cs x).length = z) {d : α} (hd : (cs d).length = z) : ∀ {k : Nat}, k < xs.length → spl (xs.flatMap cs) (k * z) (cs d) = (xs.set k d).flatMap cs := by
  induction xs with
  | nil => intro k h; simp at h
  | cons y r ih =>
    have hy := hz y List.mem_cons_self
    intro k hk
    cases k with
    | zero =>
      rw [List.set_cons_zero, List.flatMap_cons, List.flatMap_cons]
      unfold spl
      rw [Nat.zero_mul, List.take_zero, Nat.zero_add, hd, List.nil_append, ← hy, List.drop_left]
    | succ k =>
      have := ih (fun x hx => hz x (List.mem_cons_of_mem _ hx)) (by simpa using hk)
      rw [List.set_cons_succ, List.flatMap_cons, List.flatMap_cons, ← this]
      unfold spl
      rw [show (k + 1) * z = (cs y).length + k * z by rw [hy, Nat.add_mul]; omega, List.take_append, show (cs y).length + k * z + (cs d).length = (cs y).length + (k * z + (cs d).length) by omega, List.drop_append]
      rw [List.take_of_length_le (by omega), List.drop_eq_nil_of_le (by omega)]
      simp

/-- A row of the call's own that is not empty: its block. -/
theorem Own.form (h : Own cs z E w base v xs) (hn : 0 < xs.length) : ∃ cap r, v = .slice (some ⟨bl v, 0, none⟩) xs.length cap ∧ base ≤ bl v ∧ Box w (bl v) E (xs.flatMap cs ++ r) ∧ xs.length ≤ cap ∧ cap ≤ maxLen ∧ (xs.flatMap cs ++ r).length = cap * z := by
  rcases h.1.2 with ⟨_, h0⟩ | ⟨g, cap, cur, rfl, hb, hg, hnc, hm, hsz, htake⟩
  · omega
  · refine ⟨cap, cur.toList.drop (xs.length * z), rfl, hb, ?_, hnc, hm, ?_⟩
    · unfold Box; rw [← htake, List.take_append_drop]; simpa [bl] using hg
    · rw [← htake, List.take_append_drop]; simpa using hsz
theorem Own.block (h : Own cs z E w base v xs) (hn : 0 < xs.length) : base ≤ bl v ∧ bl v < w.heap.size ∧ of_ v = 0 ∧ v.ownBlock = some (bl v) := by
  obtain ⟨cap, r, e, hb, hB, _⟩ := h.form hn
  refine ⟨hb, hB.lt, ?_, ?_⟩
  · rw [e]; rfl
  · rw [e]; rfl

/-- Another row is appended to: rows of another type stay. -/
theorem Own.app {β : Type} {cs' : β → List Value} {z' E' base' : Nat} {v' : Value} {ys : List β} {a b : Nat} (h : Own cs z E w base v xs) (h0 : Own cs' z' E' w base' v' ys) (hE : E ≠ E') (U : Upd a b w w') (hU : (a = 0 ∧ b = 0) ∨ (v'.ownBlock = some a ∧ b = a + 1 ∧ base' ≤ a)) : Own cs z E w' base v xs := by
  refine h.upd U (fun g hg => ?_)
  rcases hU with ⟨rfl, rfl⟩ | ⟨ho, rfl, _⟩
  · exact .inr (Nat.zero_le _)
  · have := h.ne h0 hE hg ho; omega
theorem rep_flat (d : α) : ∀ n : Nat, (List.replicate n (cs d)).flatten = (List.replicate n d).flatMap cs
  | 0 => rfl
  | n + 1 => by rw [List.replicate_succ, List.replicate_succ, List.flatten_cons, List.flatMap_cons, rep_flat d n]
theorem Own.off {β : Type} {cs' : β → List Value} {z' E' base' : Nat} {v' : Value} {ys : List β} {a b g : Nat} (h : Own cs z E w base v xs) (h0 : Own cs' z' E' w base' v' ys) (hE : E ≠ E') (hU : (a = 0 ∧ b = 0) ∨ (v'.ownBlock = some a ∧ b = a + 1 ∧ base' ≤ a)) (hg : v.ownBlock = some g) : g < a ∨ b ≤ g := by
  rcases hU with ⟨rfl, rfl⟩ | ⟨ho, rfl, _⟩
  · exact .inr (Nat.zero_le _)
  · have := h.ne h0 hE hg ho; omega
end
end Lp
