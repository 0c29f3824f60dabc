/-
  THE ENGINE, third part: memory, and a rule for each operation.
-/
import Derived.WalkLawsBesides
import Derived.Test.YtjhkajkickngmaaEngO
namespace Lp
open Go Go.RowKit

/-! ### Worlds -/

/-- Blocks outside [lo, hi) are as they were; none has gone. -/
structure Upd (lo hi : Nat) (w w' : World) : Prop where
  os : w'.os = w.os
  tape : w'.tape = w.tape
  output : w'.output = w.output
  size : w.heap.size ≤ w'.heap.size
  block : ∀ k, k < w.heap.size → (k < lo ∨ hi ≤ k) → w'.heap[k]? = w.heap[k]?

/-- Nothing that was there has turned. -/
abbrev Ext (w w' : World) : Prop := Upd 0 0 w w'

theorem Upd.refl (lo hi : Nat) (w : World) : Upd lo hi w w := ⟨rfl, rfl, rfl, Nat.le_refl _, fun _ _ _ => rfl⟩
theorem Ext.rfl' {w : World} : Ext w w := Upd.refl 0 0 w
theorem Upd.mono {lo hi lo' hi' : Nat} {w w' : World} (h : Upd lo hi w w') (h1 : lo' ≤ lo ∨ hi ≤ lo) (h2 : hi ≤ hi' ∨ hi ≤ lo) : Upd lo' hi' w w' :=
  ⟨h.os, h.tape, h.output, h.size, fun k hk hh => h.block k hk (by omega)⟩
theorem Upd.trans {lo hi : Nat} {a b c : World} (h : Upd lo hi a b) (k : Upd lo hi b c) : Upd lo hi a c :=
  ⟨k.os.trans h.os, k.tape.trans h.tape, k.output.trans h.output, Nat.le_trans h.size k.size, fun i hi' hh => (k.block i (Nat.lt_of_lt_of_le hi' h.size) hh).trans (h.block i hi' hh)⟩
/-- Of what was there at a: the change lies from a's end on, or is none. -/
theorem Upd.then_ {lo hi lo' hi' : Nat} {a b c : World} (h : Upd lo hi a b) (k : Upd lo' hi' b c) (h1 : a.heap.size ≤ lo' ∨ hi' ≤ lo' ∨ (lo ≤ lo' ∧ hi' ≤ hi)) : Upd lo hi a c :=
  ⟨k.os.trans h.os, k.tape.trans h.tape, k.output.trans h.output, Nat.le_trans h.size k.size, fun i hi2 hh => (k.block i (Nat.lt_of_lt_of_le hi2 h.size) (by omega)).trans (h.block i hi2 hh)⟩
theorem Ext.then_ {lo' hi' : Nat} {a b c : World} (h : Ext a b) (k : Upd lo' hi' b c) (h1 : a.heap.size ≤ lo' ∨ hi' ≤ lo') : Ext a c :=
  Upd.then_ h k (by omega)
theorem Ext.below {w w' : World} (h : Ext w w') : Below w.heap.size w w' := ⟨h.os, h.tape, h.output, h.size, fun k hk => h.block k hk (.inr (Nat.zero_le _))⟩
theorem Ext.alloc (w : World) (o : Obj) : Ext w (w.alloc o) := ⟨rfl, rfl, rfl, by simp, fun k hk _ => Below.heap_alloc w o k hk⟩
theorem Ext.drew (w : World) : Ext w w.drew := ⟨rfl, rfl, rfl, Nat.le_refl _, fun _ _ _ => rfl⟩

theorem Upd.cell {lo hi : Nat} {w w' : World} (h : Upd lo hi w w') {b o : Nat} (hb : b < w.heap.size) (hh : b < lo ∨ hi ≤ b) : w'.cell? ⟨b, o, none⟩ = w.cell? ⟨b, o, none⟩ :=
  World.cell?_of_block (w := w) (h.block b hb hh)
theorem Upd.frozen {lo hi : Nat} {w w' : World} (h : Upd lo hi w w') {b o : Nat} (hb : b < w.heap.size) (hh : b < lo ∨ hi ≤ b) : w'.frozen? ⟨b, o, none⟩ = w.frozen? ⟨b, o, none⟩ :=
  World.frozen?_of_block (w := w) (h.block b hb hh)

/-! ### Cells -/

/-- From cell o of block b on these values lie. -/
def At (w : World) (b o : Nat) (cs : List Value) : Prop := b < w.heap.size ∧ ∀ j u, cs[j]? = some u → w.cell? ⟨b, o + j, none⟩ = some u

theorem At.upd {lo hi : Nat} {w w' : World} {b o : Nat} {cs : List Value} (h : At w b o cs) (U : Upd lo hi w w') (hh : b < lo ∨ hi ≤ b) : At w' b o cs :=
  ⟨Nat.lt_of_lt_of_le h.1 U.size, fun j u hu => (U.cell h.1 hh).trans (h.2 j u hu)⟩
theorem At.ext {w w' : World} {b o : Nat} {cs : List Value} (h : At w b o cs) (E : Ext w w') : At w' b o cs := h.upd E (.inr (Nat.zero_le _))
theorem At.cell {w : World} {b o : Nat} {cs : List Value} (h : At w b o cs) (j : Nat) {u : Value} (hu : nth cs j = some u) : w.cell? ⟨b, o + j, none⟩ = some u := h.2 j u (by rw [← nth_eq]; exact hu)
theorem At.sub {w : World} {b o : Nat} {cs : List Value} (h : At w b o cs) (i n : Nat) : At w b (o + i) ((cs.drop i).take n) := by
  refine ⟨h.1, fun j u hu => ?_⟩
  rw [List.getElem?_take] at hu
  split at hu
  · rw [List.getElem?_drop] at hu
    rw [Nat.add_assoc]; exact h.2 _ _ hu
  · cases hu

/-- A block of the call's own, known whole, that may be written. -/
def Box (w : World) (g : Nat) (t : TypeId) (cs : List Value) : Prop := w.heap[g]? = some (.cells cs.toArray t (0, 0))

theorem Box.lt {w : World} {g : Nat} {t : TypeId} {cs : List Value} (h : Box w g t cs) : g < w.heap.size := by
  rcases Nat.lt_or_ge g w.heap.size with hl | hl
  · exact hl
  · unfold Box at h; rw [Array.getElem?_eq_none hl] at h; cases h
theorem Box.at_ {w : World} {g : Nat} {t : TypeId} {cs : List Value} (h : Box w g t cs) : At w g 0 cs :=
  ⟨h.lt, fun j u hu => by rw [cell_of_row w g (0 + j) cs.toArray t (0, 0) h]; simpa using hu⟩
theorem Box.upd {lo hi : Nat} {w w' : World} {g : Nat} {t : TypeId} {cs : List Value} (h : Box w g t cs) (U : Upd lo hi w w') (hh : g < lo ∨ hi ≤ g) : Box w' g t cs :=
  (U.block g h.lt hh).trans h
theorem Box.ext {w w' : World} {g : Nat} {t : TypeId} {cs : List Value} (h : Box w g t cs) (E : Ext w w') : Box w' g t cs := h.upd E (.inr (Nat.zero_le _))
theorem Box.new (w : World) (t : TypeId) (cs : List Value) : Box (w.alloc (.cells cs.toArray t)) w.heap.size t cs := heap_alloc_new w _
theorem Box.frozen {w : World} {g : Nat} {t : TypeId} {cs : List Value} (h : Box w g t cs) (o : Nat) : w.frozen? ⟨g, o, none⟩ = false := by
  unfold Box at h; simp [World.frozen?, h]

/-- A list with some places written anew. -/
def spl (cs : List Value) (o : Nat) (vs : List Value) : List Value := cs.take o ++ vs ++ cs.drop (o + vs.length)

theorem spl_length (cs : List Value) (o : Nat) (vs : List Value) (h : o + vs.length ≤ cs.length) : (spl cs o vs).length = cs.length := by
  simp [spl]; omega

theorem spl_get (cs : List Value) (o : Nat) (vs : List Value) (h : o + vs.length ≤ cs.length) (j : Nat) : (spl cs o vs)[j]? = if o ≤ j ∧ j < o + vs.length then vs[j - o]? else cs[j]? := by
  unfold spl
  by_cases h1 : j < o
  · rw [if_neg (by omega), List.getElem?_append_left (by simp; omega), List.getElem?_append_left (by simp; omega), List.getElem?_take, if_pos h1]
  · by_cases h2 : j < o + vs.length
    · rw [if_pos (by omega), List.getElem?_append_left (by simp; omega), List.getElem?_append_right (by simp; omega)]
      congr 1; simp; omega
    · rw [if_neg (by omega), List.getElem?_append_right (by simp; omega), List.getElem?_drop]
      congr 1; simp; omega

theorem spl_cons (cs : List Value) (o : Nat) (v : Value) (vs : List Value) (h : o + (v :: vs).length ≤ cs.length) : spl (spl cs o [v]) (o + 1) vs = spl cs o (v :: vs) := by
  apply List.ext_getElem?
  intro j
  have hl := spl_length cs o [v] (by simp at h ⊢; omega)
  rw [spl_get _ _ _ (by rw [hl]; simp at h; omega), spl_get _ _ _ (by simp at h ⊢; omega), spl_get _ _ _ h]
  by_cases h1 : j = o
  · subst h1; simp; intro h9; omega
  · by_cases h2 : o + 1 ≤ j ∧ j < o + 1 + vs.length
    · rw [if_pos h2, if_pos (by simp; omega)]
      rw [show j - o = (j - (o + 1)) + 1 by omega]; simp
    · rw [if_neg h2, if_neg (by simp; omega), if_neg (by simp at *; omega)]

theorem Box.set1 {w : World} {g : Nat} {t : TypeId} {cs : List Value} (h : Box w g t cs) (o : Nat) (v : Value) (ho : o < cs.length) : Box (w.setCell ⟨g, o, none⟩ v) g t (spl cs o [v]) := by
  unfold Box at h ⊢
  simp only [World.setCell, Array.getElem?_modify, h, ↓reduceIte, Option.map_some]
  congr 2
  apply Array.ext'
  simp only [Option.isSome_none, Bool.false_eq_true, ↓reduceIte, Array.toList_setIfInBounds]
  apply List.ext_getElem?
  intro j
  rw [spl_get _ _ _ (by simp; omega), List.getElem?_set]
  by_cases e : o = j
  · subst e; simp [ho]
  · rw [if_neg e, if_neg (by simp; omega)]

theorem Upd.setCell (w : World) (g o : Nat) (v : Value) : Upd g (g + 1) w (w.setCell ⟨g, o, none⟩ v) :=
  ⟨rfl, rfl, rfl, by simp, fun k _ hh => Below.heap_setCell w _ v k (by simp; omega)⟩

theorem run_storeCells (P : Program) (g : Nat) (t : TypeId) : ∀ (vs : List Value) (w : World) (cs : List Value) (o i : Nat), Box w g t cs → o + i + vs.length ≤ cs.length → (∀ v ∈ vs, v.oneCell' = true) →
    ∃ w', (storeCells ⟨g, o, none⟩ vs i).run P w = .ok () w' ∧ Box w' g t (spl cs (o + i) vs) ∧ Upd g (g + 1) w w' ∧ w'.heap.size = w.heap.size
  | [], w, cs, o, i, h, _, _ => ⟨w, by simp [storeCells], by simpa [spl] using h, Upd.refl _ _ _, rfl⟩
  | v :: vs, w, cs, o, i, h, hl, h1 => by
    have hb := h.set1 (o + i) v (by simp at hl; omega)
    obtain ⟨w', e1, e2, e3, e4⟩ := run_storeCells P g t vs (w.setCell ⟨g, o + i, none⟩ v) (spl cs (o + i) [v]) o (i + 1) hb (by rw [spl_length _ _ _ (by simp at hl ⊢; omega)]; simp at hl; omega) (fun u hu => h1 u (List.mem_cons_of_mem _ hu))
    refine ⟨w', ?_, ?_, (Upd.setCell w g (o + i) v).trans e3, by rw [e4]; simp⟩
    · unfold storeCells
      have ha : (⟨g, o, none⟩ : Addr).add i = ⟨g, o + i, none⟩ := by cases i <;> simp [Addr.add]
      have hc : w.cell? ⟨g, o + i, none⟩ = cs[o + i]? := by
        have := cell_of_row w g (o + i) cs.toArray t (0, 0) h
        simpa using this
      rw [Sem.run_bind, ha, run_store _ _ _ _ _ (h1 v List.mem_cons_self), hc, List.getElem?_eq_getElem (by simp at hl; omega), h.frozen]
      simpa using e1
    · rw [show o + (i + 1) = o + i + 1 by omega, spl_cons _ _ _ _ hl] at e2
      exact e2

theorem run_loadCellsFrom (P : Program) (w : World) (b o : Nat) : ∀ (n i : Nat) (acc : Array Value) (cs : List Value), cs.length = n → (∀ j u, cs[j]? = some u → w.cell? ⟨b, o + i + j, none⟩ = some u) →
    (loadCellsFrom ⟨b, o, none⟩ i n acc).run P w = .ok (acc ++ cs.toArray) w
  | 0, i, acc, cs, hl, _ => by
    have : cs = [] := List.eq_nil_of_length_eq_zero hl
    subst this; simp [loadCellsFrom]
  | n + 1, i, acc, cs, hl, h => by
    cases cs with
    | nil => simp at hl
    | cons c cs =>
      unfold loadCellsFrom
      have ha : (⟨b, o, none⟩ : Addr).add i = ⟨b, o + i, none⟩ := by cases i <;> simp [Addr.add]
      have h0 := h 0 c (by simp)
      rw [Sem.run_bind, ha, run_load]
      rw [show o + i + 0 = o + i by omega] at h0
      simp only [h0, Result.andThen_ok]
      rw [run_loadCellsFrom P w b o n (i + 1) (acc.push c) cs (by simpa using hl) (fun j u hu => by
        have := h (j + 1) u (by simpa using hu)
        rw [show o + (i + 1) + j = o + i + (j + 1) by omega]; exact this)]
      simp

theorem run_loadCells (P : Program) (w : World) (b o : Nat) (cs : List Value) (h : At w b o cs) : (loadCells ⟨b, o, none⟩ cs.length).run P w = .ok cs.toArray w := by
  unfold loadCells
  rw [run_loadCellsFrom P w b o cs.length 0 #[] cs rfl (fun j u hu => by simpa using h.2 j u hu)]
  simp

/-! ### Slices -/

def bl : Value → Nat
  | .slice (some a) _ _ => a.block
  | _ => 0
def of_ : Value → Nat
  | .slice (some a) _ _ => a.off
  | _ => 0

/-- A slice that reads as a list of elements of z cells each; its row lies among the blocks [lo, hi). -/
def Sl (w : World) (lo hi z : Nat) (v : Value) (xs : List (List Value)) : Prop :=
  ∃ A c, v = .slice A xs.length c ∧ xs.length ≤ c ∧ (∀ x ∈ xs, x.length = z) ∧
    (xs ≠ [] → ∃ b o, A = some ⟨b, o, none⟩ ∧ lo ≤ b ∧ b < hi ∧ ∀ i x, xs[i]? = some x → At w b (o + i * z) x) ∧ hi ≤ w.heap.size

theorem Sl.hi {w : World} {lo hi z : Nat} {v : Value} {xs : List (List Value)} (h : Sl w lo hi z v xs) : hi ≤ w.heap.size := by
  obtain ⟨_, _, _, _, _, _, h⟩ := h; exact h
theorem Sl.upd {a b : Nat} {w w' : World} {lo hi z : Nat} {v : Value} {xs : List (List Value)} (h : Sl w lo hi z v xs) (U : Upd a b w w') (hh : hi ≤ a ∨ b ≤ lo) : Sl w' lo hi z v xs := by
  obtain ⟨A, c, h1, h2, h3, h4, h5⟩ := h
  refine ⟨A, c, h1, h2, h3, fun hn => ?_, Nat.le_trans h5 U.size⟩
  obtain ⟨b', o, e1, e2, e3, e4⟩ := h4 hn
  exact ⟨b', o, e1, e2, e3, fun i x hx => (e4 i x hx).upd U (by omega)⟩
theorem Sl.ext {w w' : World} {lo hi z : Nat} {v : Value} {xs : List (List Value)} (h : Sl w lo hi z v xs) (E : Ext w w') : Sl w' lo hi z v xs := h.upd E (.inr (Nat.zero_le _))
theorem Sl.wide {w : World} {lo hi lo' hi' z : Nat} {v : Value} {xs : List (List Value)} (h : Sl w lo hi z v xs) (h1 : lo' ≤ lo) (h2 : hi ≤ hi') (h3 : hi' ≤ w.heap.size) : Sl w lo' hi' z v xs := by
  obtain ⟨A, c, k1, k2, k3, k4, _⟩ := h
  refine ⟨A, c, k1, k2, k3, fun hn => ?_, h3⟩
  obtain ⟨b', o, e1, e2, e3, e4⟩ := k4 hn
  exact ⟨b', o, e1, by omega, by omega, e4⟩
theorem Sl.nil (w : World) (lo hi z : Nat) (h : hi ≤ w.heap.size) : Sl w lo hi z (.slice none 0 0) [] := ⟨none, 0, rfl, Nat.le_refl _, by simp, by simp, h⟩

/-- An element of a slice: its place. -/
theorem Sl.at_ {w : World} {lo hi z : Nat} {v : Value} {xs : List (List Value)} (h : Sl w lo hi z v xs) {k : Nat} {x : List Value} (hx : xs[k]? = some x) : At w (bl v) (of_ v + k * z) x := by
  obtain ⟨A, c, rfl, h2, h3, h4, _⟩ := h
  obtain ⟨b, o, rfl, e2, e3, e4⟩ := h4 (by rintro rfl; simp at hx)
  exact e4 k x hx
theorem Sl.block {w : World} {lo hi z : Nat} {v : Value} {xs : List (List Value)} (h : Sl w lo hi z v xs) (hn : xs ≠ []) : lo ≤ bl v ∧ bl v < hi := by
  obtain ⟨A, c, rfl, h2, h3, h4, _⟩ := h
  obtain ⟨b, o, rfl, e2, e3, e4⟩ := h4 hn
  exact ⟨e2, e3⟩

/-- The value is a slice of so many elements. -/
def Len (v : Value) (n : Nat) : Prop := ∃ A c, v = .slice A n c
theorem Sl.len {w : World} {lo hi z : Nat} {v : Value} {xs : List (List Value)} (h : Sl w lo hi z v xs) : Len v xs.length := by
  obtain ⟨A, c, h1, _⟩ := h; exact ⟨A, c, h1⟩
/-- The value is a slice whose k-th element is there. -/
def Has (v : Value) (k : Nat) : Prop := ∃ b o n c, v = .slice (some ⟨b, o, none⟩) n c ∧ k < n
theorem Sl.has {w : World} {lo hi z : Nat} {v : Value} {xs : List (List Value)} (h : Sl w lo hi z v xs) {k : Nat} (hk : k < xs.length) : Has v k := by
  obtain ⟨A, c, rfl, h2, h3, h4, _⟩ := h
  obtain ⟨b, o, rfl, e2, e3, e4⟩ := h4 (by rintro rfl; simp at hk)
  exact ⟨b, o, _, c, rfl, hk⟩

/-- The part of a slice. -/
def cut (z : Nat) (v : Value) (l h : Nat) : Value :=
  match v with
  | .slice a _ cap => .slice (if cap = l then a else a.map (·.add (l * z))) (h - l) (cap - l)
  | v => v

theorem Sl.cut {w : World} {lo hi z : Nat} {v : Value} {xs : List (List Value)} (hs : Sl w lo hi z v xs) (l h : Nat) (hl : l ≤ h) (hh : h ≤ xs.length) : Sl w lo hi z (cut z v l h) ((xs.take h).drop l) := by
  obtain ⟨A, c, rfl, h2, h3, h4, h5⟩ := hs
  have hlen : ((xs.take h).drop l).length = h - l := by simp; omega
  refine ⟨_, _, by rw [hlen]; rfl, by rw [hlen]; omega, fun x hx => h3 x (List.mem_of_mem_take (List.mem_of_mem_drop hx)), fun hn => ?_, h5⟩
  have hlt : l < h := by
    rcases Nat.lt_or_ge l h with e | e
    · exact e
    · exact absurd (List.eq_nil_of_length_eq_zero (by omega)) hn
  obtain ⟨b, o, rfl, e2, e3, e4⟩ := h4 (by rintro rfl; simp at hh; omega)
  rw [if_neg (by omega)]
  refine ⟨b, o + l * z, ?_, e2, e3, fun i x hx => ?_⟩
  · simp only [Option.map_some, Addr.add]
    split
    · rename_i h0; rw [h0]; rfl
    · rfl
  · rw [List.getElem?_drop, List.getElem?_take] at hx
    split at hx
    · have := e4 _ _ hx
      rw [show o + l * z + i * z = o + (l + i) * z by rw [Nat.add_mul]; omega]; exact this
    · cases hx

theorem w64 {n : Int} (h : -9223372036854775808 ≤ n ∧ n ≤ 9223372036854775807) : IntKind.i64.wrap n = n := IntWalk.i64_in n h

end Lp
