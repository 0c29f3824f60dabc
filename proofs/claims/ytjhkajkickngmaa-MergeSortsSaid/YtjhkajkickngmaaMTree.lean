/-
  The tree of a tournament, as it lies in memory: its box, its row of lists, its row of places. All are the call's own, among the blocks [base, top).
-/
import Derived.Test.YtjhkajkickngmaaMRun
import Derived.Test.YtjhkajkickngmaaEngW
namespace Lp
open Go Go.RowKit

def natCs (n : Nat) : List Value := [.int .i64 (n : Int)]
def LR.pop1 (x : LR) : LR := ⟨cut 2 x.sv 1 x.rs.length, (x.rs.take x.rs.length).drop 1⟩
def lls (ll : List LR) : LLs := ll.map LR.rs
theorem lls_get {ll : List LR} {k : Nat} {x : LR} (h : ll[k]? = some x) : (lls ll)[k]? = some x.rs := by unfold lls; rw [List.getElem?_map, h]; rfl
theorem lls_length (ll : List LR) : (lls ll).length = ll.length := by simp [lls]
theorem lls_pop {ll : List LR} {k : Nat} {x : LR} (h : ll[k]? = some x) : lls (ll.set k x.pop1) = pop (lls ll) k := by
  unfold lls pop
  rw [List.map_set]
  congr 1
  rw [List.getD_eq_getElem?_getD, List.getElem?_map, h]
  simp [LR.pop1]
theorem hd_some {ll : List LR} {k : Nat} {r : RowD} (h : hd (lls ll) k = some r) : ∃ x rest, ll[k]? = some x ∧ x.rs = r :: rest := by
  obtain ⟨t, ht⟩ := hd_get h
  unfold lls at ht
  rw [List.getElem?_map] at ht
  obtain ⟨x, hx, e⟩ := Option.map_eq_some_iff.1 ht
  exact ⟨x, t, hx, e⟩
theorem hd_none {ll : List LR} {k : Nat} (h : hd (lls ll) k = none) : ll.length ≤ k ∨ ∃ x, ll[k]? = some x ∧ x.rs = [] := by
  rcases Nat.lt_or_ge k ll.length with e | e
  · obtain ⟨x, hx⟩ := get_some ll k e
    refine .inr ⟨x, hx, ?_⟩
    unfold hd at h
    rw [lls_get hx] at h
    cases e2 : x.rs with
    | nil => rfl
    | cons y r => rw [e2] at h; cases h
  · exact .inl e
theorem hd_of {ll : List LR} {k : Nat} {x : LR} {r : RowD} (h : ll[k]? = some x) (h0 : x.rs[0]? = some r) : hd (lls ll) k = some r := by
  unfold hd; rw [lls_get h]
  cases e : x.rs with
  | nil => rw [e] at h0; cases h0
  | cons y t => rw [e] at h0; simpa using h0

def Rws (w : World) (lo hi : Nat) (ll : List LR) : Prop := ∀ x ∈ ll, RRow w lo hi x.sv x.rs
theorem Rws.upd {a b : Nat} {w w' : World} {lo hi : Nat} {ll : List LR} (h : Rws w lo hi ll) (U : Upd a b w w') (hh : hi ≤ a ∨ b ≤ lo) : Rws w' lo hi ll := fun x hx => (h x hx).upd U hh
theorem Rws.ext {w w' : World} {lo hi : Nat} {ll : List LR} (h : Rws w lo hi ll) (E : Ext w w') : Rws w' lo hi ll := fun x hx => (h x hx).ext E
theorem Rws.lab {w : World} {lo hi : Nat} {ll : List LR} (h : Rws w lo hi ll) {k : Nat} {r : RowD} (hk : hd (lls ll) k = some r) : RLab w lo hi r.lv r.ls := by
  obtain ⟨x, rest, hx, e⟩ := hd_some hk
  exact (h x (mem_get hx)).lab r (by rw [e]; exact List.mem_cons_self)
theorem RRow.pop1 {w : World} {lo hi : Nat} {x : LR} (h : RRow w lo hi x.sv x.rs) (hn : 0 < x.rs.length) : RRow w lo hi x.pop1.sv x.pop1.rs :=
  ⟨h.sl.cut 1 x.rs.length hn (Nat.le_refl _), fun r hr => h.lab r (List.mem_of_mem_take (List.mem_of_mem_drop hr))⟩
theorem Rws.set {w : World} {lo hi : Nat} {ll : List LR} (h : Rws w lo hi ll) {k : Nat} {x : LR} (hx : ll[k]? = some x) (hn : 0 < x.rs.length) : Rws w lo hi (ll.set k x.pop1) := by
  intro y hy
  rcases List.mem_or_eq_of_mem_set hy with hy | rfl
  · exact h y hy
  · exact (h x (mem_get hx)).pop1 hn

/-- A bound on the lengths of lists and labels. -/
def Small (n : Nat) (ll : LLs) : Prop := ∀ l ∈ ll, l.length ≤ n ∧ ∀ r ∈ l, r.ls.length ≤ n
theorem Small.hd {n : Nat} {ll : LLs} (h : Small n ll) {k : Nat} {r : RowD} (hk : Lp.hd ll k = some r) : r.ls.length ≤ n := by
  obtain ⟨t, ht⟩ := hd_get hk
  exact (h _ (List.mem_of_getElem? ht)).2 r List.mem_cons_self
theorem Small.row {n : Nat} {ll : List LR} (h : Small n (lls ll)) {k : Nat} {x : LR} (hk : ll[k]? = some x) : x.rs.length ≤ n := (h _ (List.mem_of_getElem? (lls_get hk))).1
theorem Small.pop {n : Nat} {ll : LLs} (h : Small n ll) (k : Nat) : Small n (pop ll k) := by
  intro l hl
  unfold Lp.pop at hl
  rcases List.mem_or_eq_of_mem_set hl with hl | rfl
  · exact h l hl
  · cases e : ll[k]? with
    | none => rw [List.getD_eq_getElem?_getD, e]; simp
    | some y =>
      have := h y (List.mem_of_getElem? e)
      rw [List.getD_eq_getElem?_getD, e]
      simp only [Option.getD_some, List.length_drop]
      exact ⟨by omega, fun r hr => this.2 r (List.mem_of_mem_drop hr)⟩

/-- The tree in memory. -/
structure Tree (w : World) (base top t : Nat) (o : Int) (lv : Value) (ll : List LR) (wd : Nat) (bv : Value) (bs : List Nat) : Prop where
  box : Box w t 189 [.int .i64 o, lv, .int .i64 wd, bv]
  t0 : base ≤ t
  t1 : t < top
  ol : Own LR.cs 1 27 w base lv ll
  ob : Own natCs 1 3 w base bv bs
  l1 : ∀ g, lv.ownBlock = some g → g < top
  b1 : ∀ g, bv.ownBlock = some g → g < top
  top_ : top ≤ w.heap.size
section
variable {w w' : World} {base top t : Nat} {o : Int} {lv : Value} {ll : List LR} {wd : Nat} {bv : Value} {bs : List Nat}
theorem Tree.at_ (h : Tree w base top t o lv ll wd bv bs) : At w t 0 [.int .i64 o, lv, .int .i64 wd, bv] := h.box.at_
theorem Tree.upd {a b : Nat} (h : Tree w base top t o lv ll wd bv bs) (U : Upd a b w w') (hh : top ≤ a ∨ b ≤ base) : Tree w' base top t o lv ll wd bv bs where
  box := h.box.upd U (by have := h.t0; have := h.t1; omega)
  t0 := h.t0
  t1 := h.t1
  ol := h.ol.upd U (fun g hg => by have := h.l1 g hg; have := (h.ol.lt hg).1; omega)
  ob := h.ob.upd U (fun g hg => by have := h.b1 g hg; have := (h.ob.lt hg).1; omega)
  l1 := h.l1
  b1 := h.b1
  top_ := Nat.le_trans h.top_ U.size
theorem Tree.ext (h : Tree w base top t o lv ll wd bv bs) (E : Ext w w') : Tree w' base top t o lv ll wd bv bs where
  box := h.box.ext E
  t0 := h.t0
  t1 := h.t1
  ol := h.ol.ext E
  ob := h.ob.ext E
  l1 := h.l1
  b1 := h.b1
  top_ := Nat.le_trans h.top_ E.size
theorem Tree.lsl (h : Tree w base top t o lv ll wd bv bs) : SlT LR.cs 1 w base w.heap.size lv ll := h.ol.sl
theorem Tree.bsl (h : Tree w base top t o lv ll wd bv bs) : SlT natCs 1 w base w.heap.size bv bs := h.ob.sl

variable {P : Program} {ρ : Env} {l : Kn} {K : Value → World → Prop} {ty : TypeId}
theorem e_setBest {x y : Operand} {k n : Nat} {s : TypeId} (hk : Knows ρ l) (hx : opv l x = some (.pointer (some ⟨bl bv, of_ bv + k * 1, none⟩))) (hy : opv l y = some (.int .i64 (n : Int)))
    (hs : ∀ w, (Go.sizeOf s).run P w = .ok 1 w) (T : Tree w base top t o lv ll wd bv bs) (hlt : k < bs.length)
    (h : ∀ w', Tree w' base top t o lv ll wd bv (bs.set k n) → Upd base top w w' → w'.heap.size = w.heap.size → K undef w') : EOp P (.store s x y) ty ρ w K := by
  have hb := T.ob.block (by omega)
  have hb1 := T.b1 _ hb.2.2.2
  have hne := T.ob.ne_box T.box (by decide) hb.2.2.2
  refine e_storeRow hk hx hy hs T.ob hlt (d := n) rfl rfl ⟨rfl, trivial⟩ (fun w' h1 h2 h3 => h w' ?_ (h2.mono (.inl (by omega)) (.inl (by omega))) h3)
  exact ⟨T.box.upd h2 (by omega), T.t0, T.t1, T.ol.upd h2 (fun g hg => by have := T.ob.ne T.ol (by decide) hb.2.2.2 hg; omega), h1, T.l1, T.b1, by have := T.top_; omega⟩
theorem e_setList {x y : Operand} {k : Nat} {d : LR} {s : TypeId} (hk : Knows ρ l) (hx : opv l x = some (.pointer (some ⟨bl lv, of_ lv + k * 1, none⟩))) (hy : opv l y = some d.sv)
    (hs : ∀ w, (Go.sizeOf s).run P w = .ok 1 w) (h1 : d.sv.oneCell' = true) (T : Tree w base top t o lv ll wd bv bs) (hlt : k < ll.length)
    (h : ∀ w', Tree w' base top t o lv (ll.set k d) wd bv bs → Upd base top w w' → w'.heap.size = w.heap.size → K undef w') : EOp P (.store s x y) ty ρ w K := by
  have hb := T.ol.block (by omega)
  have hb1 := T.l1 _ hb.2.2.2
  have hne := T.ol.ne_box T.box (by decide) hb.2.2.2
  have hc : d.sv.cells.toList = LR.cs d := by rw [cells_one h1]; rfl
  have hz : d.sv.cells.size = 1 := by rw [cells_one h1]; rfl
  refine e_storeRow hk hx hy (by rw [hz]; exact hs) T.ol hlt (d := d) hc rfl (by rw [hc]; exact ⟨h1, trivial⟩) (fun w' h1 h2 h3 => h w' ?_ (h2.mono (.inl (by omega)) (.inl (by omega))) h3)
  exact ⟨T.box.upd h2 (by omega), T.t0, T.t1, h1, T.ob.upd h2 (fun g hg => by have := T.ol.ne T.ob (by decide) hb.2.2.2 hg; omega), T.l1, T.b1, by have := T.top_; omega⟩
end
end Lp
namespace Lp
open Go Go.RowKit
/-- The labels of rows. -/
def Labs (w : World) (lo hi : Nat) (rs : List RowD) : Prop := ∀ r ∈ rs, RLab w lo hi r.lv r.ls
theorem Labs.upd {a b : Nat} {w w' : World} {lo hi : Nat} {rs : List RowD} (h : Labs w lo hi rs) (U : Upd a b w w') (hh : hi ≤ a ∨ b ≤ lo) : Labs w' lo hi rs := fun x hx => (h x hx).upd U hh
theorem Labs.ext {w w' : World} {lo hi : Nat} {rs : List RowD} (h : Labs w lo hi rs) (E : Ext w w') : Labs w' lo hi rs := fun x hx => (h x hx).ext E
theorem Labs.snoc {w : World} {lo hi : Nat} {rs : List RowD} (h : Labs w lo hi rs) {r : RowD} (hr : RLab w lo hi r.lv r.ls) : Labs w lo hi (rs ++ [r]) := by
  intro x hx
  rcases List.mem_append.1 hx with hx | hx
  · exact h x hx
  · simp at hx; subst hx; exact hr
theorem Labs.nil {w : World} {lo hi : Nat} : Labs w lo hi [] := by intro x hx; cases hx
theorem set_step {c : List Nat} {wd k : Nat} (h : ∀ j, j < k → c[wd + j]? = some j) (hl : wd + k < c.length) : ∀ j, j < k + 1 → (c.set (wd + k) k)[wd + j]? = some j := by
  intro j hj
  by_cases e : j = k
  · subst e; rw [List.getElem?_set_self hl]
  · rw [List.getElem?_set_ne (by omega)]; exact h j (by omega)
end Lp
