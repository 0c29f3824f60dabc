/-
  THE ENGINE, tenth part: what came in. A slice that the statement's reader has trodden reads as a list of data.
-/
import Derived.WalkKit
import Derived.ProofKit
import Derived.OpenShut
import Derived.ShutString
import Derived.ChangeOld
import Derived.Below
import Derived.Deep.Slices
import Derived.Test.YtjhkajkickngmaaEngW
namespace Lp
open Go Go.RowKit Go.ChangeShapes Go.Deep

section
variable {H : Type} {enc : TypeId × Value → H} {P : Program} {w : World} {held : Bool} {sp : Nat → Bool}

theorem addr_plain {a : Addr} {i : Nat} {v : Value} (h : w.cell? (a.add i) = some v) : a.add i = ⟨a.block, a.off + i, none⟩ ∧ (i = 0 → a.spot = none) ∧ a.block < w.heap.size := by
  have hblk : (a.add i).block = a.block := by unfold Addr.add; split <;> rfl
  have hspot : (a.add i).spot = none := by
    cases hsp : (a.add i).spot with
    | none => rfl
    | some s =>
      simp only [World.cell?] at h
      split at h
      · simp [hsp] at h
      · cases h
  refine ⟨?_, ?_, ?_⟩
  · unfold Addr.add at hspot ⊢
    split
    · rename_i h0
      subst h0
      rw [if_pos rfl] at hspot
      cases a
      simp_all
    · rfl
  · rintro rfl; simpa [Addr.add] using hspot
  · rw [← hblk]
    simp only [World.cell?] at h
    split at h
    · rename_i hb; exact (Array.getElem?_eq_some_iff.1 hb).1
    · cases h

theorem open_sl {α : Type} [Inhabited α] {cs : α → List Value} {z : Nat} {t e : TypeId} {fuel : Nat} {vs : List Value} {x : DataW H × List MemPlace} (Q : α → Prop) (ht : P.underlying t = some (.slice e)) (hz : P.cellsOf e = z) (hz0 : 0 < z)
    (h : DataW.trod enc P w 0 sp held fuel t vs = some x)
    (el : ∀ n cs' y, DataW.trod enc P w 0 sp held n e cs' = some y → ∃ d : α, cs' = cs d ∧ (cs d).length = z ∧ Q d) :
    ∃ v xs, vs = [v] ∧ SlT cs z w 0 w.heap.size v xs ∧ (∀ d ∈ xs, Q d) ∧ xs.length ≤ maxLen := by
  rcases open_slice ht h with ⟨rfl, _⟩ | ⟨a, len, cap, m, n, D, Pl, rfl, _, hl, hm, hmm, _, hx⟩
  · exact ⟨_, [], rfl, SlT.nil (Nat.le_refl _), by simp, by simp⟩
  have hlm : len ≤ m := by rw [hmm]; split <;> omega
  obtain ⟨f, hf⟩ := choose_lt (α := α) (n := len) (p := fun i d => w.cells? 0 (a.add (i * z)) z = some (cs d) ∧ (cs d).length = z ∧ Q d) (fun i hi => by
    obtain ⟨cs', h1, h2⟩ := hx i (by omega)
    obtain ⟨d, rfl, h3, h4⟩ := el _ _ _ h2
    rw [hz] at h1
    exact ⟨d, h1, h3, h4⟩)
  have hlen : ((List.range len).map f).length = len := by simp
  refine ⟨_, (List.range len).map f, rfl, ?_, ?_, by rw [hlen]; omega⟩
  · refine ⟨some a, cap, by simp, by simpa using hl, ?_, fun hne => ?_, Nat.le_refl _⟩
    · intro y hy
      simp only [List.mem_map, List.mem_range] at hy
      obtain ⟨d, ⟨i, hi, rfl⟩, rfl⟩ := hy
      exact (hf i hi).2.1
    · have hl0 : 0 < len := by
        rcases Nat.eq_zero_or_pos len with h0 | h0
        · subst h0; simp at hne
        · exact h0
      obtain ⟨c1, c2, c3⟩ := World.cells?_some (hf 0 hl0).1
      have hc0 := c3 0 hz0
      have : ((cs (f 0))[0]?).isSome := by rw [List.getElem?_eq_getElem (by omega)]; rfl
      obtain ⟨u, hu⟩ := Option.isSome_iff_exists.1 this
      rw [hu] at hc0
      simp only [Nat.zero_mul] at hc0
      have ha0 : a.add 0 = a := by simp [Addr.add]
      rw [ha0, ha0] at hc0
      obtain ⟨p1, p2, p3⟩ := addr_plain (a := a) (i := 0) (by rw [ha0]; exact hc0)
      rw [ha0] at p1
      refine ⟨a.block, a.off, by rw [Nat.add_zero] at p1; exact congrArg some p1, Nat.zero_le _, p3, fun i y hy => ?_⟩
      simp only [List.getElem?_map, Option.map_map] at hy
      have hi : i < len := by
        rcases Nat.lt_or_ge i len with e | e
        · exact e
        · rw [List.getElem?_eq_none (by simpa using e)] at hy; cases hy
      rw [List.getElem?_range hi] at hy
      simp at hy
      subst hy
      refine ⟨p3, fun j u hu => ?_⟩
      obtain ⟨d1, d2, d3⟩ := World.cells?_some (hf i hi).1
      have hj : j < z := by rw [← (hf i hi).2.1]; exact (List.getElem?_eq_some_iff.1 hu).1
      have hc := d3 j hj
      rw [hu, add_add] at hc
      rw [(addr_plain hc).1] at hc
      rw [Nat.add_assoc]; exact hc
  · intro d hd
    simp only [List.mem_map, List.mem_range] at hd
    obtain ⟨i, hi, rfl⟩ := hd
    exact (hf i hi).2.2

theorem open_str2 {t : TypeId} {f0 f1 : Field} {n : Nat} {cs : List Value} {y : DataW H × List MemPlace} (ht : P.underlying t = some (.struct #[f0, f1])) (o0 : f0.offset = 0) (o1 : f1.offset = 1) (c0 : P.cellsOf f0.type = 1) (c1 : P.cellsOf f1.type = 1) (cc : P.cellsOf t = 2)
    (h : DataW.trod enc P w 0 sp held n t cs = some y) : ∃ a b y0 y1 m, cs = [a, b] ∧ DataW.trod enc P w 0 sp held m f0.type [a] = some y0 ∧ DataW.trod enc P w 0 sp held m f1.type [b] = some y1 := by
  obtain ⟨y0, y1, m, _, h2, h3, h4⟩ := trod_struct2 ht h
  rw [cc] at h2
  rw [o0, c0] at h3
  rw [o1, c1] at h4
  match cs, h2 with
  | [a, b], _ => exact ⟨a, b, y0, y1, m, rfl, by simpa using h3, by simpa using h4⟩
end
end Lp
