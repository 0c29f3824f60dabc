/-
  Lists that were brought into order, each a row of the call's own, beside one more row (all rows, one behind the other) of the same type.
-/
import Derived.Test.YtjhkajkickngmaaMOne
import Derived.Test.YtjhkajkickngmaaMSort
set_option linter.unusedVariables false
namespace Lp
open Go Go.RowKit

structure Srt (w : World) (B : Nat) (fv : Value) (lo hi : Nat) (lss : List LR) : Prop where
  own : ∀ x ∈ lss, Own RowD.cs 2 34 w B x.sv x.rs
  lab : ∀ x ∈ lss, Labs w lo hi x.rs
  ne : ∀ x ∈ lss, ∀ g, x.sv.ownBlock = some g → fv.ownBlock ≠ some g
section
variable {w w' : World} {B lo hi : Nat} {fv : Value} {lss : List LR}
theorem Srt.nil (w : World) (B : Nat) (fv : Value) (lo hi : Nat) : Srt w B fv lo hi [] := ⟨by simp, by simp, by simp⟩
theorem Srt.ext (h : Srt w B fv lo hi lss) (E : Ext w w') : Srt w' B fv lo hi lss := ⟨fun x hx => (h.own x hx).ext E, fun x hx => (h.lab x hx).ext E, h.ne⟩
theorem Srt.app {α : Type} {cs : α → List Value} {z T B' : Nat} {v : Value} {xs : List α} {a b : Nat} (h : Srt w B fv lo hi lss) (h0 : Own cs z T w B' v xs) (hT : 34 ≠ T) (U : Upd a b w w') (hU : (a = 0 ∧ b = 0) ∨ (v.ownBlock = some a ∧ b = a + 1 ∧ B' ≤ a)) (hi' : hi ≤ B') : Srt w' B fv lo hi lss :=
  ⟨fun x hx => (h.own x hx).app h0 hT U hU, fun x hx => (h.lab x hx).upd U (by rcases hU with ⟨_, h⟩ | ⟨_, _, h⟩ <;> omega), h.ne⟩
theorem Srt.flat {B' : Nat} {fv' : Value} {a b : Nat} (h : Srt w B fv lo hi lss) (U : Upd a b w w') (hU : (a = 0 ∧ b = 0) ∨ (fv.ownBlock = some a ∧ b = a + 1 ∧ B' ≤ a)) (hn : fv'.ownBlock = fv.ownBlock ∨ fv'.ownBlock = some w.heap.size) (hi' : hi ≤ B') : Srt w' B fv' lo hi lss := by
  refine ⟨fun x hx => (h.own x hx).upd U (fun g hg => ?_), fun x hx => (h.lab x hx).upd U (by rcases hU with ⟨_, h⟩ | ⟨_, _, h⟩ <;> omega), fun x hx g hg => ?_⟩
  · rcases hU with ⟨rfl, rfl⟩ | ⟨ha, rfl, _⟩
    · exact .inr (Nat.zero_le _)
    · have : a ≠ g := by rintro rfl; exact h.ne x hx a hg ha
      omega
  · rcases hn with e | e <;> rw [e]
    · exact h.ne x hx g hg
    · intro e2; injection e2 with e2
      have := ((h.own x hx).lt hg).2; omega
theorem Srt.snoc {x : LR} {b : Nat} (h : Srt w B fv lo hi lss) (hx : Own RowD.cs 2 34 w b x.sv x.rs) (hl : Labs w lo hi x.rs) (hb : B ≤ b) (hf : ∀ g, fv.ownBlock = some g → g < b) : Srt w B fv lo hi (lss ++ [x]) := by
  refine ⟨fun y hy => ?_, fun y hy => ?_, fun y hy g hg => ?_⟩ <;> (rcases List.mem_append.1 hy with hy | hy)
  · exact h.own y hy
  · simp at hy; subst hy; exact hx.base_le hb
  · exact h.lab y hy
  · simp at hy; subst hy; exact hl
  · exact h.ne y hy g hg
  · simp at hy; subst hy
    intro e
    have := hf g e
    have := (hx.lt hg).1; omega
theorem Srt.rws (h : Srt w B fv lo hi lss) : Rws w 0 w.heap.size lss := fun x hx => rrow_of (h.own x hx) (h.lab x hx)
theorem Rws.take {ll : List LR} (h : Rws w lo hi ll) (a b : Nat) : Rws w lo hi ((ll.take b).drop a) := fun x hx => h x (List.mem_of_mem_take (List.mem_of_mem_drop hx))
end
theorem Stable.append {o : Int} {a b ra rb r : List RowD} (ha : ∀ c, ra.filter (eqR o c) = a.filter (eqR o c)) (hb : ∀ c, rb.filter (eqR o c) = b.filter (eqR o c)) (h : Stable o (ra ++ rb) r) : Stable o (a ++ b) r :=
  ⟨h.sorted, fun c => by rw [h.same c, List.filter_append, List.filter_append, ha, hb]⟩
/-- Bringing each list into order first changes nothing of the order of all. -/
theorem sortR_flatten (o : Int) (ll : LLs) : sortR o (ll.map (sortR o)).flatten = sortR o ll.flatten := by
  refine Stable.eq (l := ll.flatten) ⟨(sortR_stable o _).sorted, fun c => ?_⟩ (sortR_stable o _)
  rw [(sortR_stable o _).same c]
  induction ll with
  | nil => rfl
  | cons l r ih => simp only [List.map_cons, List.flatten_cons, List.filter_append, ih, (sortR_stable o l).same c]
theorem sortR_two (o : Int) (a b : List RowD) : sortR o (sortR o a ++ sortR o b) = sortR o (a ++ b) := by
  have := sortR_flatten o [a, b]
  simpa using this
theorem srt_fe {ll : List LR} {k : Nat} {y : LR} {fl : List RowD} (h : fl = (lls (ll.take k)).flatten) (hy : ll[k]? = some y) : fl ++ y.rs = (lls (ll.take (k + 1))).flatten := by
  rw [take_snoc hy, h]; simp [lls]
theorem srt_le {o : Int} {ll lss : List LR} {k : Nat} {y : LR} {v : Value} (h : lls lss = (lls (ll.take k)).map (sortR o)) (hy : ll[k]? = some y) : lls (lss ++ [⟨v, sortR o y.rs⟩]) = (lls (ll.take (k + 1))).map (sortR o) := by
  have e : lls (lss ++ [⟨v, sortR o y.rs⟩]) = lls lss ++ [sortR o y.rs] := by simp [lls]
  rw [e, h, take_snoc hy]; simp [lls]
theorem srt_small {n : Nat} {o : Int} {ls l : LLs} (h : ls = l.map (sortR o)) (hS : Small n l) : Small n ls := by
  intro x hx
  rw [h] at hx
  obtain ⟨y, hy, rfl⟩ := List.mem_map.1 hx
  exact ⟨by rw [sortR_length]; exact (hS y hy).1, fun r hr => (hS y hy).2 r ((sortR_stable o y).mem.1 hr)⟩
theorem srt_total {o : Int} {ls l : LLs} (h : ls = l.map (sortR o)) : total ls = total l := by
  rw [h]; unfold total; rw [List.map_map]; congr 1
  apply List.map_congr_left; intro x _; exact sortR_length o x
theorem srt_sorted {o : Int} {ls l : LLs} (h : ls = l.map (sortR o)) : ∀ x ∈ ls, Sorted o x := by
  intro x hx; rw [h] at hx
  obtain ⟨y, _, rfl⟩ := List.mem_map.1 hx
  exact (sortR_stable o y).sorted
theorem lls_cut (ll : List LR) (a b : Nat) : lls ((ll.take b).drop a) = ((lls ll).take b).drop a := by simp [lls, List.map_drop, List.map_take]
theorem mem_cut {α : Type} {l : List α} {a b : Nat} {x : α} (h : x ∈ (l.take b).drop a) : x ∈ l := List.mem_of_mem_take (List.mem_of_mem_drop h)
theorem total_append (a b : LLs) : total (a ++ b) = total a + total b := by simp [total]
theorem total_cut (l : LLs) (a b : Nat) : total ((l.take b).drop a) ≤ total l := by
  have h1 : total (l.take b) + total (l.drop b) = total l := by rw [← total_append, List.take_append_drop]
  have h2 : total ((l.take b).take a) + total ((l.take b).drop a) = total (l.take b) := by rw [← total_append, List.take_append_drop]
  omega
theorem flat_total (l : LLs) : l.flatten.length = total l := by simp [total, List.length_flatten]
/-- Put together in two heaps, or in one. -/
theorem two_heaps (o : Int) (ls : LLs) (k : Nat) (hk : k ≤ ls.length) : sortR o (sortR o ((ls.take k).drop 0).flatten ++ (sortR o ((ls.take ls.length).drop k).flatten)) = sortR o ls.flatten := by
  rw [sortR_two, List.drop_zero, List.take_length, ← List.flatten_append, List.take_append_drop]
theorem RRow.all {w : World} {lo hi : Nat} {v : Value} {rs : List RowD} (h : RRow w lo hi v rs) : RRow w 0 w.heap.size v rs :=
  ⟨h.sl.wide (Nat.zero_le _) h.top (Nat.le_refl _), fun r hr => (h.lab r hr).wide (Nat.zero_le _) h.top (Nat.le_refl _)⟩
theorem rws2 {w : World} {lo hi : Nat} {a b : Value} {A B : List RowD} (ha : RRow w lo hi a A) (hb : RRow w lo hi b B) : Rws w lo hi [⟨a, A⟩, ⟨b, B⟩] := by
  intro x hx; simp at hx
  rcases hx with rfl | rfl
  · exact ha
  · exact hb
theorem heaps2 (o : Int) (lss : List LR) (k : Nat) (hk : k ≤ lss.length) (a b : Value) : sortR o (lls [⟨a, sortR o (lls ((lss.take k).drop 0)).flatten⟩, ⟨b, sortR o (lls ((lss.take lss.length).drop k)).flatten⟩]).flatten = sortR o (lls lss).flatten := by
  have := two_heaps o (lls lss) k (by rw [lls_length]; exact hk)
  rw [lls_cut, lls_cut]
  rw [lls_length] at this
  simpa [lls] using this
theorem small_flat {n : Nat} {o : Int} {ls : LLs} (hS : Small n ls) (ht : total ls ≤ n) : (sortR o ls.flatten).length ≤ n ∧ ∀ r ∈ sortR o ls.flatten, r.ls.length ≤ n := by
  refine ⟨by rw [sortR_length, flat_total]; exact ht, fun r hr => ?_⟩
  have := (sortR_stable o _).mem.1 hr
  obtain ⟨l, hl, hr⟩ := List.mem_flatten.1 this
  exact (hS l hl).2 r hr
theorem small_cut {n : Nat} {lss : List LR} (hS : Small n (lls lss)) (a b : Nat) : Small n (lls ((lss.take b).drop a)) := fun x hx => hS x (by rw [lls_cut] at hx; exact mem_cut hx)
theorem heaps_small {n : Nat} {o : Int} {lss : List LR} (hS : Small n (lls lss)) (ht : total (lls lss) ≤ n) (k : Nat) (a b : Value) : Small n (lls [⟨a, sortR o (lls ((lss.take k).drop 0)).flatten⟩, ⟨b, sortR o (lls ((lss.take lss.length).drop k)).flatten⟩]) := by
  intro x hx
  simp [lls] at hx
  rcases hx with rfl | rfl
  · have := small_flat (o := o) (small_cut hS 0 k) (by rw [lls_cut]; exact Nat.le_trans (total_cut _ _ _) ht)
    simpa [lls] using this
  · have := small_flat (o := o) (small_cut hS k lss.length) (by rw [lls_cut]; exact Nat.le_trans (total_cut _ _ _) ht)
    simpa [lls] using this
theorem heaps_total {o : Int} {lss : List LR} (k : Nat) (a b : Value) : total (lls [⟨a, sortR o (lls ((lss.take k).drop 0)).flatten⟩, ⟨b, sortR o (lls ((lss.take lss.length).drop k)).flatten⟩]) ≤ total (lls lss) + total (lls lss) := by
  have h1 := total_cut (lls lss) 0 k
  have h2 := total_cut (lls lss) k lss.length
  have e : total (lls [⟨a, sortR o (lls ((lss.take k).drop 0)).flatten⟩, ⟨b, sortR o (lls ((lss.take lss.length).drop k)).flatten⟩]) = (sortR o (lls ((lss.take k).drop 0)).flatten).length + (sortR o (lls ((lss.take lss.length).drop k)).flatten).length := by
    show total [_, _] = _
    simp only [total, List.map_cons, List.map_nil, List.sum_cons, List.sum_nil, Nat.add_zero]
  rw [e, sortR_length, sortR_length, flat_total, flat_total, lls_cut, lls_cut]; omega
theorem heaps_sorted {o : Int} {A B : List RowD} (a b : Value) : ∀ l ∈ lls [⟨a, sortR o A⟩, ⟨b, sortR o B⟩], Sorted o l := by
  intro x hx
  simp only [lls, List.map_cons, List.map_nil, List.mem_cons, List.not_mem_nil, or_false] at hx
  rcases hx with rfl | rfl <;> exact (sortR_stable o _).sorted
theorem total_take (ll : List LR) (k : Nat) : total (lls (ll.take k)) ≤ total (lls ll) := by
  have := total_cut (lls ll) 0 k
  rw [List.drop_zero] at this
  simpa [lls, List.map_take] using this
theorem flat_lab {w : World} {lo hi : Nat} {ll : List LR} {fl : List RowD} (h : fl = (lls ll).flatten) (hR : Rws w lo hi ll) : Labs w lo hi fl := by
  intro r hr
  rw [h] at hr
  obtain ⟨l, hl, hr⟩ := List.mem_flatten.1 hr
  obtain ⟨x, hx, rfl⟩ := List.mem_map.1 hl
  exact (hR x hx).lab r hr
theorem flat_len2 {n : Nat} {ll : List LR} {fl : List RowD} (h : fl = (lls ll).flatten) (hS : Small n (lls ll)) : ∀ r ∈ fl, r.ls.length ≤ n := by
  intro r hr
  rw [h] at hr
  obtain ⟨l, hl, hr⟩ := List.mem_flatten.1 hr
  exact (hS l hl).2 r hr
end Lp
