/-
  THE ENGINE, ninth part: stores into rows of the call's own; rows that are apart.
-/
import Derived.Test.YtjhkajkickngmaaEngB
namespace Lp
open Go Go.RowKit

theorem spl_app {cs r : List Value} {o : Nat} {vs : List Value} (h : o + vs.length ≤ cs.length) : spl (cs ++ r) o vs = spl cs o vs ++ r := by
  unfold spl
  rw [List.take_append_of_le_length (by omega), List.drop_append_of_le_length (by omega)]
  simp
theorem e_store1 {P : Program} {ρ : Env} {l : Kn} {w : World} {K : Value → World → Prop} {ty : TypeId} {t : TypeId} {x y : Operand} {g o : Nat} {v : Value} {T : TypeId} {cs : List Value} (hk : Knows ρ l) (hx : opv l x = some (.pointer (some ⟨g, o, none⟩))) (hy : opv l y = some v)
    (hs : ∀ w, (Go.sizeOf t).run P w = .ok 1 w) (hB : Box w g T cs) (ho : o + 1 ≤ cs.length) (h1 : v.oneCell' = true)
    (h : ∀ w', Box w' g T (spl cs o [v]) → Upd g (g + 1) w w' → w'.heap.size = w.heap.size → K undef w') : EOp P (.store t x y) ty ρ w K := by
  have hc : v.cells.toList = [v] := by rw [cells_one h1]
  have hz : v.cells.size = 1 := by rw [cells_one h1]; rfl
  exact e_store hk hx hy (by rw [hz]; exact hs) hB (by rw [hc]; exact ho) (by rw [hc]; exact ⟨h1, trivial⟩) (by rw [hc]; exact h)
theorem infz_of {P : Program} {E : TypeId} {zv : Value} {z b : Nat} (h : (P.info? E).map (fun i => (i.zero, i.size, i.bytes)) = some (some zv, z, b)) : ∃ i, P.info? E = some i ∧ i.zero = some zv ∧ i.size = z ∧ i.bytes = b := by
  obtain ⟨i, h1, h2⟩ := Option.map_eq_some_iff.1 h
  simp only [Prod.mk.injEq] at h2
  exact ⟨i, h1, h2.1, h2.2.1, h2.2.2⟩
theorem inf_of {P : Program} {E : TypeId} {z b : Nat} (h : (P.info? E).map (fun i => (i.size, i.bytes)) = some (z, b)) : ∃ i, P.info? E = some i ∧ i.bytes = b ∧ i.size = z := by
  obtain ⟨i, h1, h2⟩ := Option.map_eq_some_iff.1 h
  simp only [Prod.mk.injEq] at h2
  exact ⟨i, h1, h2.2, h2.1⟩
theorem e_build2 {P : Program} {ρ : Env} {l : Kn} {w : World} {K : Value → World → Prop} {ty : TypeId} {t : TypeId} {ps : Array (Nat × Operand)} (is : List Nat) (xs : List Operand) {vs : List Value} (v : Value) (hk : Knows ρ l) (hp : ps = (is.zip xs).toArray) (hv : opvs l xs = some vs)
    (hr : ∀ w, (Instr.build t (is.zip vs).toArray).run P w = .ok v w) (h : K v w) : EOp P (.build t ps) ty ρ w K := by
  refine e_build (qs := (is.zip vs).toArray) ?_ hr h
  subst hp
  apply Array.ext'
  simp only [Array.toList_map]
  rw [← hk.ops hv, List.zip_map_right]
  simp [Prod.map]
section
variable {α : Type} {cs : α → List Value} {z : Nat} {E : TypeId} {base : Nat} {v : Value} {xs : List α} {w w' : World}

theorem flat_len (hz : ∀ x ∈ xs, (cs x).length = z) : (xs.flatMap cs).length = xs.length * z := by
  induction xs with
  | nil => simp
  | cons y r ih => rw [List.flatMap_cons, List.length_append, hz y List.mem_cons_self, ih (fun x hx => hz x (List.mem_cons_of_mem _ hx)), List.length_cons, Nat.add_mul]; omega

theorem spl_flat (hz : ∀ x ∈ xs, (cs x).length = z) {d : α} (hd : (cs d).length = z) : ∀ {k : Nat}, k < xs.length → spl (xs.flatMap cs) (k * z) (cs d) = (xs.set k d).flatMap cs := by
  induction xs with
  | nil => intro k h; simp at h
  | cons y r ih =>
    have hy := hz y List.mem_cons_self
    intro k hk
    cases k with
    | zero =>
      rw [List.set_cons_zero, List.flatMap_cons, List.flatMap_cons]
      unfold spl
      rw [Nat.zero_mul, List.take_zero, Nat.zero_add, hd, List.nil_append, ← hy, List.drop_left]
    | succ k =>
      have := ih (fun x hx => hz x (List.mem_cons_of_mem _ hx)) (by simpa using hk)
      rw [List.set_cons_succ, List.flatMap_cons, List.flatMap_cons, ← this]
      unfold spl
      rw [show (k + 1) * z = (cs y).length + k * z by rw [hy, Nat.add_mul]; omega, List.take_append, show (cs y).length + k * z + (cs d).length = (cs y).length + (k * z + (cs d).length) by omega, List.drop_append]
      rw [List.take_of_length_le (by omega), List.drop_eq_nil_of_le (by omega)]
      simp

/-- A row of the call's own that is not empty: its block. -/
theorem Own.form (h : Own cs z E w base v xs) (hn : 0 < xs.length) : ∃ cap r, v = .slice (some ⟨bl v, 0, none⟩) xs.length cap ∧ base ≤ bl v ∧ Box w (bl v) E (xs.flatMap cs ++ r) ∧ xs.length ≤ cap ∧ cap ≤ maxLen ∧ (xs.flatMap cs ++ r).length = cap * z := by
  rcases h.1.2 with ⟨_, h0⟩ | ⟨g, cap, cur, rfl, hb, hg, hnc, hm, hsz, htake⟩
  · omega
  · refine ⟨cap, cur.toList.drop (xs.length * z), rfl, hb, ?_, hnc, hm, ?_⟩
    · unfold Box; rw [← htake, List.take_append_drop]; simpa [bl] using hg
    · rw [← htake, List.take_append_drop]; simpa using hsz
theorem Own.block (h : Own cs z E w base v xs) (hn : 0 < xs.length) : base ≤ bl v ∧ bl v < w.heap.size ∧ of_ v = 0 ∧ v.ownBlock = some (bl v) := by
  obtain ⟨cap, r, e, hb, hB, _⟩ := h.form hn
  refine ⟨hb, hB.lt, ?_, ?_⟩
  · rw [e]; rfl
  · rw [e]; rfl

theorem e_storeRow {P : Program} {ρ : Env} {l : Kn} {K : Value → World → Prop} {ty : TypeId} {t : TypeId} {x y : Operand} {k : Nat} {u : Value} {d : α} (hk : Knows ρ l) (hx : opv l x = some (.pointer (some ⟨bl v, of_ v + k * z, none⟩))) (hy : opv l y = some u)
    (hs : ∀ w, (Go.sizeOf t).run P w = .ok u.cells.size w) (hO : Own cs z E w base v xs) (hlt : k < xs.length) (hu : u.cells.toList = cs d) (hd : (cs d).length = z) (h1 : AllOne u.cells.toList)
    (h : ∀ w', Own cs z E w' base v (xs.set k d) → Upd (bl v) (bl v + 1) w w' → w'.heap.size = w.heap.size → K undef w') : EOp P (.store t x y) ty ρ w K := by
  obtain ⟨cap, r, e, hb, hB, hc1, hc2, hc3⟩ := hO.form (by omega)
  have ho : of_ v = 0 := by rw [e]; rfl
  have hfl := flat_len hO.2
  have hkz : k * z + z ≤ xs.length * z := by
    have : (k + 1) * z ≤ xs.length * z := Nat.mul_le_mul_right z hlt
    rw [Nat.add_mul] at this; omega
  rw [ho, Nat.zero_add] at hx
  refine e_store hk hx hy hs hB (by rw [hu, hd, List.length_append, hfl]; omega) h1 (fun w' h2 h3 h4 => h w' ?_ h3 h4)
  rw [hu, spl_app (by rw [hd, hfl]; exact hkz), spl_flat hO.2 hd hlt] at h2
  have hz' : ∀ x ∈ xs.set k d, (cs x).length = z := by
    intro x hx
    rcases List.mem_or_eq_of_mem_set hx with hx | rfl
    · exact hO.2 x hx
    · exact hd
  refine ⟨⟨flat_len hz', .inr ⟨bl v, cap, _, by rw [List.length_set]; exact e, hb, h2, by simpa using hc1, hc2, ?_, ?_⟩⟩, hz'⟩
  · simp only [List.size_toArray]
    rw [List.length_append, flat_len hz', List.length_set, ← hfl, ← List.length_append]; exact hc3
  · rw [List.length_set, ← hfl]
    simp only
    rw [show (xs.flatMap cs).length = ((xs.set k d).flatMap cs).length by rw [flat_len hz', List.length_set, hfl], List.take_left]

/-- Another row is appended to: rows of another type stay. -/
theorem Own.app {β : Type} {cs' : β → List Value} {z' E' base' : Nat} {v' : Value} {ys : List β} {a b : Nat} (h : Own cs z E w base v xs) (h0 : Own cs' z' E' w base' v' ys) (hE : E ≠ E') (U : Upd a b w w') (hU : (a = 0 ∧ b = 0) ∨ (v'.ownBlock = some a ∧ b = a + 1 ∧ base' ≤ a)) : Own cs z E w' base v xs := by
  refine h.upd U (fun g hg => ?_)
  rcases hU with ⟨rfl, rfl⟩ | ⟨ho, rfl, _⟩
  · exact .inr (Nat.zero_le _)
  · have := h.ne h0 hE hg ho; omega
theorem SlT.capLe {lo hi : Nat} (h : SlT cs z w lo hi v xs) {b : Nat} (hb : b ≤ xs.length) : ∃ A c, v = .slice A xs.length c ∧ b ≤ c := by
  obtain ⟨A, c, e, h⟩ := h.capOk; exact ⟨A, c, e, by omega⟩
theorem rep_flat (d : α) : ∀ n : Nat, (List.replicate n (cs d)).flatten = (List.replicate n d).flatMap cs
  | 0 => rfl
  | n + 1 => by rw [List.replicate_succ, List.replicate_succ, List.flatten_cons, List.flatMap_cons, rep_flat d n]
theorem e_makeOwn {P : Program} {ρ : Env} {l : Kn} {K : Value → World → Prop} {ty : TypeId} {t e by_ n : Nat} {x y : Operand} {k1 k2 : IntKind} {a b : Int} {zv : Value} {d : α} (hk : Knows ρ l) (hx : opv l x = some (.int k1 a)) (hy : opv l y = some (.int k2 b)) (ht : ∀ w, (underlying t).run P w = .ok (.slice e) w)
    (hi : ∃ i, P.info? e = some i ∧ i.bytes = by_ ∧ i.size = z) (hzv : ∀ w, (zeroValue e).run P w = .ok zv w) (hd : zv.cells.toList = cs d) (hz : (cs d).length = z) (ha : a = (n : Int)) (hb : b = (n : Int)) (hn : by_ * n ≤ 281474976710656) (hm : n ≤ 281474976710656) (hB : base ≤ w.heap.size)
    (h : ∀ v' w', Own cs z e w' base v' (List.replicate n d) → Ext w w' → v'.ownBlock = some w.heap.size → w'.heap.size = w.heap.size + 1 → bl v' = w.heap.size → K v' w') : EOp P (.makeSlice t x y) ty ρ w K := by
  refine e_make hk hx hy ht hi hzv (by rw [← hz, ← hd]; simp) ha hb hn hm (fun g w' N => ?_)
  have hg := N.num
  have hs := N.size
  subst hg
  have := Box.own (base := base) (xs := List.replicate n d) (cs := cs) (z := z) N.box hB (by rw [hd, rep_flat]) (by intro x hx; rw [List.eq_of_mem_replicate hx]; exact hz) (by rw [List.length_replicate]; unfold maxLen; omega)
  rw [List.length_replicate] at this
  exact h _ _ this N.ext rfl hs rfl
theorem Own.off {β : Type} {cs' : β → List Value} {z' E' base' : Nat} {v' : Value} {ys : List β} {a b g : Nat} (h : Own cs z E w base v xs) (h0 : Own cs' z' E' w base' v' ys) (hE : E ≠ E') (hU : (a = 0 ∧ b = 0) ∨ (v'.ownBlock = some a ∧ b = a + 1 ∧ base' ≤ a)) (hg : v.ownBlock = some g) : g < a ∨ b ≤ g := by
  rcases hU with ⟨rfl, rfl⟩ | ⟨ho, rfl, _⟩
  · exact .inr (Nat.zero_le _)
  · have := h.ne h0 hE hg ho; omega
theorem app_nil {w w' : World} {B : Nat} (h : ∃ a b, Upd a b w w' ∧ ((a = 0 ∧ b = 0) ∨ ((Value.slice none 0 0).ownBlock = some a ∧ b = a + 1 ∧ B ≤ a))) : Ext w w' := by
  obtain ⟨a, b, U, h⟩ := h
  rcases h with ⟨rfl, rfl⟩ | ⟨h, _⟩
  · exact U
  · cases h
theorem app_old {w0 w w' : World} {v : Value} {B : Nat} (E : Ext w0 w) (h : ∃ a b, Upd a b w w' ∧ ((a = 0 ∧ b = 0) ∨ (v.ownBlock = some a ∧ b = a + 1 ∧ B ≤ a))) (hB : w0.heap.size ≤ B) : Ext w0 w' := by
  obtain ⟨a, b, U, h⟩ := h
  refine Ext.then_ E U ?_
  rcases h with ⟨rfl, rfl⟩ | ⟨_, rfl, h⟩ <;> omega
end
end Lp
