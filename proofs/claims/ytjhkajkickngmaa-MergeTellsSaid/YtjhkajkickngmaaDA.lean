/-
  DATA: what a value reads as, memory and all; rows and boxes of the call's own.
-/
import Derived.Test.YtjhkajkickngmaaEngI
namespace Lp
open Go Go.RowKit

/-- Data: a value as it reads. -/
inductive D where
  | v (u : Value)
  /-- a value of one cell -/
  | ov (u : Value)
  | s (b : ByteArray)
  | agg (cs : List D)
  | tup (cs : List D)
  | ifc (t : TypeId) (d : D)
  | fn (f : FuncId) (first cap : List D)
  /-- a slice in memory that nobody writes any more -/
  | sh (z : Nat) (xs : List D)
  /-- the first n elements of such a slice, with room behind them in which what stands is known -/
  | shr (z n : Nat) (xs : List D)
  /-- a pointer to a cell of such a datum -/
  | el (x : D) (o : Nat)
  | any

def One (u : Value) : Prop := ∀ c ∈ u.cells.toList, c.oneCell' = true
abbrev vcs (u : Value) : List Value := u.cells.toList

theorem One.one {u : Value} (h : u.oneCell' = true) : One u := by
  intro c hc; rw [cells_one h] at hc; simp at hc; exact hc ▸ h
theorem vcs_one {u : Value} (h : u.oneCell' = true) : vcs u = [u] := by unfold vcs; rw [cells_one h]

mutual
def D.rep (w : World) (F : Nat → Prop) : D → Value → Prop
  | .v u, a => a = u
  | .ov u, a => a = u ∧ u.oneCell' = true
  | .s b, a => a = .string b ∧ b.size ≤ maxLen
  | .agg cs, a => ∃ vs, a = .agg vs.toArray ∧ D.repL w F cs vs
  | .tup cs, a => ∃ vs, a = .tuple vs.toArray ∧ D.repA w F cs vs
  | .ifc t d, a => ∃ u, a = .iface t u ∧ D.rep w F d u
  | .fn f p q, a => ∃ us vs, a = .func (.func f) us.toArray vs.toArray ∧ D.repA w F p us ∧ D.repA w F q vs
  | .sh z xs, a => ∃ A c, a = .slice A xs.length c ∧ xs.length ≤ c ∧ xs.length ≤ maxLen ∧ (xs ≠ [] → ∃ b o, A = some ⟨b, o, none⟩ ∧ F b ∧ D.repC w F z b xs o)
  | .shr z n xs, a => ∃ A c, a = .slice A n c ∧ n ≤ xs.length ∧ xs.length ≤ c ∧ xs.length ≤ maxLen ∧ (xs ≠ [] → ∃ b o, A = some ⟨b, o, none⟩ ∧ F b ∧ D.repC w F z b xs o)
  | .el x o, a => ∃ b p u, a = .pointer (some ⟨b, p + o, none⟩) ∧ F b ∧ D.rep w F x u ∧ One u ∧ At w b p (vcs u)
  | .any, a => a.oneCell' = true
/-- cells -/
def D.repL (w : World) (F : Nat → Prop) : List D → List Value → Prop
  | [], vs => vs = []
  | d :: r, vs => ∃ u us, vs = u :: us ∧ u.oneCell' = true ∧ D.rep w F d u ∧ D.repL w F r us
/-- values -/
def D.repA (w : World) (F : Nat → Prop) : List D → List Value → Prop
  | [], vs => vs = []
  | d :: r, vs => ∃ u us, vs = u :: us ∧ D.rep w F d u ∧ D.repA w F r us
/-- elements, one behind the other, from cell o on -/
def D.repC (w : World) (F : Nat → Prop) (z b : Nat) : List D → Nat → Prop
  | [], _ => True
  | x :: r, o => (∃ u, D.rep w F x u ∧ One u ∧ u.cells.size = z ∧ At w b o (vcs u)) ∧ D.repC w F z b r (o + z)
end

/-- What blocks of F hold stays, and they stay in it. -/
structure Keep (w : World) (F : Nat → Prop) (w' : World) (F' : Nat → Prop) : Prop where
  sub : ∀ b, F b → F' b
  same : ∀ b, F b → b < w.heap.size → w'.heap[b]? = w.heap[b]?

theorem Keep.rfl' {w : World} {F : Nat → Prop} : Keep w F w F := ⟨fun _ h => h, fun _ _ _ => rfl⟩

theorem At.same {w w' : World} {b o : Nat} {cs : List Value} (h : At w b o cs) (e : w'.heap[b]? = w.heap[b]?) : At w' b o cs := by
  refine ⟨?_, fun j u hu => (World.cell?_of_block e).trans (h.2 j u hu)⟩
  have h1 : (w.heap[b]?).isSome := by rw [Array.getElem?_eq_getElem h.1]; rfl
  rw [← e] at h1
  obtain ⟨x, hx⟩ := Option.isSome_iff_exists.1 h1
  exact (Array.getElem?_eq_some_iff.1 hx).1

section
variable {w w' : World} {F F' : Nat → Prop}
mutual
theorem D.keep (k : Keep w F w' F') : ∀ (d : D) (a : Value), D.rep w F d a → D.rep w' F' d a
  | .v _, _, h => h
  | .ov _, _, h => h
  | .s _, _, h => h
  | .agg cs, _, ⟨vs, e, h⟩ => ⟨vs, e, D.keepL k cs vs h⟩
  | .tup cs, _, ⟨vs, e, h⟩ => ⟨vs, e, D.keepA k cs vs h⟩
  | .ifc _ d, _, ⟨u, e, h⟩ => ⟨u, e, D.keep k d u h⟩
  | .fn _ p q, _, ⟨us, vs, e, h1, h2⟩ => ⟨us, vs, e, D.keepA k p us h1, D.keepA k q vs h2⟩
  | .sh z xs, _, ⟨A, c, e, h1, h2, h3⟩ => ⟨A, c, e, h1, h2, fun hn => by
      obtain ⟨b, o, e1, e2, e3⟩ := h3 hn
      exact ⟨b, o, e1, k.sub b e2, D.keepC k z b e2 xs o e3⟩⟩
  | .shr z n xs, _, ⟨A, c, e, h0, h1, h2, h3⟩ => ⟨A, c, e, h0, h1, h2, fun hn => by
      obtain ⟨b, o, e1, e2, e3⟩ := h3 hn
      exact ⟨b, o, e1, k.sub b e2, D.keepC k z b e2 xs o e3⟩⟩
  | .el x _, _, ⟨b, p, u, e, h1, h2, h3, h4⟩ => ⟨b, p, u, e, k.sub b h1, D.keep k x u h2, h3, h4.same (k.same b h1 h4.1)⟩
  | .any, _, h => h
theorem D.keepL (k : Keep w F w' F') : ∀ (ds : List D) (vs : List Value), D.repL w F ds vs → D.repL w' F' ds vs
  | [], _, h => h
  | d :: r, _, ⟨u, us, e, h1, h2, h3⟩ => ⟨u, us, e, h1, D.keep k d u h2, D.keepL k r us h3⟩
theorem D.keepA (k : Keep w F w' F') : ∀ (ds : List D) (vs : List Value), D.repA w F ds vs → D.repA w' F' ds vs
  | [], _, h => h
  | d :: r, _, ⟨u, us, e, h2, h3⟩ => ⟨u, us, e, D.keep k d u h2, D.keepA k r us h3⟩
theorem D.keepC (k : Keep w F w' F') (z b : Nat) (hb : F b) : ∀ (xs : List D) (o : Nat), D.repC w F z b xs o → D.repC w' F' z b xs o
  | [], _, h => h
  | x :: r, o, ⟨⟨u, h1, h2, h3, h4⟩, h5⟩ => ⟨⟨u, D.keep k x u h1, h2, h3, h4.same (k.same b hb h4.1)⟩, D.keepC k z b hb r (o + z) h5⟩
end
end

/-- Data without memory. -/
def D.flat : D → Bool
  | .v _ | .ov _ | .s _ | .any => true
  | .agg cs => flatL cs
  | .tup cs => flatL cs
  | .ifc _ d => d.flat
  | .fn _ p q => flatL p && flatL q
  | _ => false
where flatL : List D → Bool
  | [] => true
  | d :: r => d.flat && flatL r

section
variable {w w' : World} {F F' : Nat → Prop}
mutual
theorem D.flat_rep : ∀ (d : D) (a : Value), d.flat = true → D.rep w F d a → D.rep w' F' d a
  | .v _, _, _, h => h
  | .ov _, _, _, h => h
  | .s _, _, _, h => h
  | .agg cs, _, f, ⟨vs, e, h⟩ => ⟨vs, e, D.flat_repL cs vs (by simpa [D.flat] using f) h⟩
  | .tup cs, _, f, ⟨vs, e, h⟩ => ⟨vs, e, D.flat_repA cs vs (by simpa [D.flat] using f) h⟩
  | .ifc _ d, _, f, ⟨u, e, h⟩ => ⟨u, e, D.flat_rep d u (by simpa [D.flat] using f) h⟩
  | .fn _ p q, _, f, ⟨us, vs, e, h1, h2⟩ => by
    simp only [D.flat, Bool.and_eq_true] at f
    exact ⟨us, vs, e, D.flat_repA p us f.1 h1, D.flat_repA q vs f.2 h2⟩
  | .sh _ _, _, f, _ => by simp [D.flat] at f
  | .el _ _, _, f, _ => by simp [D.flat] at f
  | .shr _ _ _, _, f, _ => by simp [D.flat] at f
  | .any, _, _, h => h
theorem D.flat_repL : ∀ (ds : List D) (vs : List Value), D.flat.flatL ds = true → D.repL w F ds vs → D.repL w' F' ds vs
  | [], _, _, h => h
  | d :: r, _, f, ⟨u, us, e, h1, h2, h3⟩ => by
    simp only [D.flat.flatL, Bool.and_eq_true] at f
    exact ⟨u, us, e, h1, D.flat_rep d u f.1 h2, D.flat_repL r us f.2 h3⟩
theorem D.flat_repA : ∀ (ds : List D) (vs : List Value), D.flat.flatL ds = true → D.repA w F ds vs → D.repA w' F' ds vs
  | [], _, _, h => h
  | d :: r, _, f, ⟨u, us, e, h2, h3⟩ => by
    simp only [D.flat.flatL, Bool.and_eq_true] at f
    exact ⟨u, us, e, D.flat_rep d u f.1 h2, D.flat_repA r us f.2 h3⟩
end
end

/-- The cells of a datum. -/
def D.cells : D → List D
  | .agg cs => cs
  | .v (.agg a) => a.toList.map .v
  | d => [d]

theorem repL_v {w : World} {F : Nat → Prop} : ∀ vs : List Value, (∀ c ∈ vs, c.oneCell' = true) → D.repL w F (vs.map .v) vs
  | [], _ => rfl
  | u :: r, h => ⟨u, r, rfl, h u List.mem_cons_self, rfl, repL_v r (fun c hc => h c (List.mem_cons_of_mem _ hc))⟩
theorem repL_len {w : World} {F : Nat → Prop} : ∀ {ds : List D} {vs : List Value}, D.repL w F ds vs → vs.length = ds.length
  | [], _, rfl => rfl
  | _ :: _, _, ⟨_, _, rfl, _, _, h⟩ => by simp [repL_len h]
theorem repA_len {w : World} {F : Nat → Prop} : ∀ {ds : List D} {vs : List Value}, D.repA w F ds vs → vs.length = ds.length
  | [], _, rfl => rfl
  | _ :: _, _, ⟨_, _, rfl, _, h⟩ => by simp [repA_len h]
theorem repL_one {w : World} {F : Nat → Prop} : ∀ {ds : List D} {vs : List Value}, D.repL w F ds vs → ∀ c ∈ vs, c.oneCell' = true
  | [], _, rfl, _, hc => by cases hc
  | _ :: _, _, ⟨_, _, rfl, h1, _, h⟩, c, hc => by
    cases hc with
    | head => exact h1
    | tail _ hm => exact repL_one h c hm
theorem repL_get {w : World} {F : Nat → Prop} : ∀ {ds : List D} {vs : List Value}, D.repL w F ds vs → ∀ {j : Nat} {d : D}, ds[j]? = some d → ∃ u, vs[j]? = some u ∧ u.oneCell' = true ∧ D.rep w F d u
  | [], _, rfl, j, d, h => by simp at h
  | x :: r, _, ⟨u, us, rfl, h1, h2, h3⟩, j, d, h => by
    cases j with
    | zero => simp at h; subst h; exact ⟨u, by simp, h1, h2⟩
    | succ j => obtain ⟨u', e⟩ := repL_get h3 (j := j) (d := d) (by simpa using h); exact ⟨u', by simpa using e⟩
theorem repL_app {w : World} {F : Nat → Prop} : ∀ {ds es : List D} {vs us : List Value}, D.repL w F ds vs → D.repL w F es us → D.repL w F (ds ++ es) (vs ++ us)
  | [], _, _, _, rfl, h => h
  | _ :: _, _, _, _, ⟨u, r, rfl, h1, h2, h3⟩, h => ⟨u, _, rfl, h1, h2, repL_app h3 h⟩
theorem repL_take {w : World} {F : Nat → Prop} : ∀ {ds : List D} {vs : List Value} (n : Nat), D.repL w F ds vs → D.repL w F (ds.take n) (vs.take n)
  | [], _, n, rfl => by simp; rfl
  | _ :: _, _, 0, _ => rfl
  | _ :: _, _, n + 1, ⟨u, us, rfl, h1, h2, h3⟩ => ⟨u, us.take n, rfl, h1, h2, repL_take n h3⟩
theorem repL_drop {w : World} {F : Nat → Prop} : ∀ {ds : List D} {vs : List Value} (n : Nat), D.repL w F ds vs → D.repL w F (ds.drop n) (vs.drop n)
  | [], _, n, rfl => by simp; rfl
  | _ :: _, _, 0, h => h
  | _ :: _, _, n + 1, ⟨u, us, rfl, h1, h2, h3⟩ => repL_drop n h3

/-- The cells of a value read as the cells of its datum. -/
theorem D.rep_cells {w : World} {F : Nat → Prop} {d : D} {u : Value} (h : D.rep w F d u) (h1 : One u) : D.repL w F d.cells (vcs u) := by
  have single : ∀ {d : D} {u : Value}, u.cells = #[u] → One u → D.rep w F d u → D.repL w F [d] (vcs u) := by
    intro d u e h1 h
    refine ⟨u, [], by simp [vcs, e], h1 u (by simp [e]), h, rfl⟩
  cases d with
  | v a =>
    have h' : u = a := h
    subst h'
    cases u with
    | agg a => exact repL_v _ h1
    | _ => exact single rfl h1 rfl
  | agg cs => obtain ⟨vs, rfl, hl⟩ := h; simpa [vcs, Value.cells, D.cells] using hl
  | s b => have h0 := h; obtain ⟨rfl, _⟩ := h; exact single rfl h1 h0
  | ov b => exact single (cells_one (by rw [h.1]; exact h.2)) h1 h
  | tup cs => have h0 := h; obtain ⟨_, rfl, _⟩ := h; exact single rfl h1 h0
  | ifc t x => have h0 := h; obtain ⟨_, rfl, _⟩ := h; exact single rfl h1 h0
  | fn f p q => have h0 := h; obtain ⟨_, _, rfl, _⟩ := h; exact single rfl h1 h0
  | sh z xs => have h0 := h; obtain ⟨_, _, rfl, _⟩ := h; exact single rfl h1 h0
  | el x o => have h0 := h; obtain ⟨_, _, _, rfl, _⟩ := h; exact single rfl h1 h0
  | shr z n xs => have h0 := h; obtain ⟨_, _, rfl, _⟩ := h; exact single rfl h1 h0
  | any => exact single (cells_one h) h1 h

/-! ### Elements -/

/-- Values that read as elements of z cells. -/
def RepE (w : World) (F : Nat → Prop) (z : Nat) : List D → List Value → Prop
  | [], us => us = []
  | x :: r, us => ∃ u t, us = u :: t ∧ D.rep w F x u ∧ One u ∧ u.cells.size = z ∧ RepE w F z r t

section
variable {w w' : World} {F F' : Nat → Prop} {z : Nat}
theorem RepE.len : ∀ {xs : List D} {us : List Value}, RepE w F z xs us → us.length = xs.length
  | [], _, rfl => rfl
  | _ :: _, _, ⟨_, _, rfl, _, _, _, h⟩ => by simp [RepE.len h]
theorem RepE.size : ∀ {xs : List D} {us : List Value}, RepE w F z xs us → ∀ u ∈ us, (vcs u).length = z
  | [], _, rfl, _, hu => by cases hu
  | _ :: _, _, ⟨_, _, rfl, _, _, h, hr⟩, u, hu => by
    cases hu with
    | head => simpa [vcs] using h
    | tail _ hm => exact RepE.size hr u hm
theorem RepE.one : ∀ {xs : List D} {us : List Value}, RepE w F z xs us → ∀ u ∈ us, One u
  | [], _, rfl, _, hu => by cases hu
  | _ :: _, _, ⟨_, _, rfl, _, h, _, hr⟩, u, hu => by
    cases hu with
    | head => exact h
    | tail _ hm => exact RepE.one hr u hm
theorem RepE.keep (k : Keep w F w' F') : ∀ {xs : List D} {us : List Value}, RepE w F z xs us → RepE w' F' z xs us
  | [], _, h => h
  | _ :: _, _, ⟨u, t, e, h1, h2, h3, h4⟩ => ⟨u, t, e, D.keep k _ _ h1, h2, h3, RepE.keep k h4⟩
theorem RepE.flat : ∀ {xs : List D} {us : List Value}, D.flat.flatL xs = true → RepE w F z xs us → RepE w' F' z xs us
  | [], _, _, h => h
  | _ :: _, _, f, ⟨u, t, e, h1, h2, h3, h4⟩ => by
    simp only [D.flat.flatL, Bool.and_eq_true] at f
    exact ⟨u, t, e, D.flat_rep _ _ f.1 h1, h2, h3, RepE.flat f.2 h4⟩
theorem RepE.get : ∀ {xs : List D} {us : List Value}, RepE w F z xs us → ∀ {k : Nat} {x : D}, xs[k]? = some x → ∃ u, us[k]? = some u ∧ D.rep w F x u ∧ One u ∧ u.cells.size = z
  | [], _, rfl, _, _, h => by simp at h
  | _ :: _, _, ⟨u, t, rfl, h1, h2, h3, h4⟩, k, x, h => by
    cases k with
    | zero => simp at h; subst h; exact ⟨u, by simp, h1, h2, h3⟩
    | succ k => obtain ⟨u', e⟩ := RepE.get h4 (k := k) (x := x) (by simpa using h); exact ⟨u', by simpa using e⟩
theorem RepE.app : ∀ {xs ys : List D} {us vs : List Value}, RepE w F z xs us → RepE w F z ys vs → RepE w F z (xs ++ ys) (us ++ vs)
  | [], _, _, _, rfl, h => h
  | _ :: _, _, _, _, ⟨u, t, rfl, h1, h2, h3, h4⟩, h => ⟨u, _, rfl, h1, h2, h3, RepE.app h4 h⟩
theorem RepE.take : ∀ {xs : List D} {us : List Value} (n : Nat), RepE w F z xs us → RepE w F z (xs.take n) (us.take n)
  | [], _, n, rfl => by simp; rfl
  | _ :: _, _, 0, _ => rfl
  | _ :: _, _, n + 1, ⟨u, t, rfl, h1, h2, h3, h4⟩ => ⟨u, t.take n, rfl, h1, h2, h3, RepE.take n h4⟩
theorem RepE.drop : ∀ {xs : List D} {us : List Value} (n : Nat), RepE w F z xs us → RepE w F z (xs.drop n) (us.drop n)
  | [], _, n, rfl => by simp; rfl
  | _ :: _, _, 0, h => h
  | _ :: _, _, n + 1, ⟨u, t, rfl, h1, h2, h3, h4⟩ => RepE.drop n h4
theorem RepE.set : ∀ {xs : List D} {us : List Value} (k : Nat) {x : D} {u : Value}, RepE w F z xs us → D.rep w F x u → One u → u.cells.size = z → RepE w F z (xs.set k x) (us.set k u)
  | [], _, k, _, _, rfl, _, _, _ => by simp; rfl
  | _ :: _, _, 0, _, u, ⟨_, t, rfl, _, _, _, h4⟩, a, b, c => ⟨u, t, rfl, a, b, c, h4⟩
  | _ :: _, _, k + 1, _, u, ⟨v, t, rfl, h1, h2, h3, h4⟩, a, b, c => ⟨v, _, rfl, h1, h2, h3, RepE.set k h4 a b c⟩
theorem RepE.rep (n : Nat) {x : D} {u : Value} (h1 : D.rep w F x u) (h2 : One u) (h3 : u.cells.size = z) : RepE w F z (List.replicate n x) (List.replicate n u) := by
  induction n with
  | zero => exact rfl
  | succ n ih => exact ⟨u, _, List.replicate_succ, h1, h2, h3, ih⟩

theorem repC_els {b : Nat} : ∀ {xs : List D} {o : Nat}, D.repC w F z b xs o → ∃ us, RepE w F z xs us ∧ ∀ i u, us[i]? = some u → At w b (o + i * z) (vcs u)
  | [], _, _ => ⟨[], rfl, by simp⟩
  | x :: r, o, ⟨⟨u, h1, h2, h3, h4⟩, h5⟩ => by
    obtain ⟨us, e1, e2⟩ := repC_els h5
    refine ⟨u :: us, ⟨u, us, rfl, h1, h2, h3, e1⟩, fun i v hv => ?_⟩
    cases i with
    | zero => simp at hv; subst hv; simpa using h4
    | succ i => have := e2 i v (by simpa using hv); rw [show o + (i + 1) * z = o + z + i * z by rw [Nat.add_mul]; omega]; exact this
theorem els_repC {b : Nat} : ∀ {xs : List D} {us : List Value} {o : Nat}, RepE w F z xs us → (∀ i u, us[i]? = some u → At w b (o + i * z) (vcs u)) → D.repC w F z b xs o
  | [], _, _, _, _ => trivial
  | x :: r, _, o, ⟨u, t, rfl, h1, h2, h3, h4⟩, h => by
    refine ⟨⟨u, h1, h2, h3, by simpa using h 0 u (by simp)⟩, els_repC h4 (fun i v hv => ?_)⟩
    have := h (i + 1) v (by simpa using hv)
    rw [show o + z + i * z = o + (i + 1) * z by rw [Nat.add_mul]; omega]; exact this

/-- A shared slice as the elder engine's slice. -/
theorem D.rep_sl {xs : List D} {a : Value} (hF : ∀ b, F b → b < w.heap.size) (h : D.rep w F (.sh z xs) a) : ∃ us, RepE w F z xs us ∧ SlT vcs z w 0 w.heap.size a us ∧ (xs ≠ [] → ∃ b o c, a = .slice (some ⟨b, o, none⟩) xs.length c ∧ F b) ∧ xs.length ≤ maxLen := by
  obtain ⟨A, c, rfl, h1, h2, h3⟩ := h
  cases xs with
  | nil => exact ⟨[], rfl, ⟨A, c, rfl, by simp, by simp, by simp, Nat.le_refl _⟩, by simp, by simp⟩
  | cons x r =>
    obtain ⟨b, o, rfl, hb, hc⟩ := h3 (by simp)
    obtain ⟨us, e1, e2⟩ := repC_els hc
    have hl := e1.len
    refine ⟨us, e1, ⟨_, c, by rw [List.length_map, hl], by rw [List.length_map, hl]; exact h1, ?_, fun _ => ⟨b, o, rfl, Nat.zero_le _, hF b hb, fun i y hy => ?_⟩, Nat.le_refl _⟩, fun _ => ⟨b, o, c, rfl, hb⟩, h2⟩
    · intro y hy; obtain ⟨u, hu, rfl⟩ := List.mem_map.1 hy; exact e1.size u hu
    · rw [List.getElem?_map] at hy
      obtain ⟨u, hu, rfl⟩ := Option.map_eq_some_iff.1 hy
      exact e2 i u hu
theorem D.sl_rep {xs : List D} {us : List Value} {a : Value} {lo hi : Nat} (hr : RepE w F z xs us) (h : SlT vcs z w lo hi a us) (hb : xs ≠ [] → ∀ g, a.ownBlock = some g → F g) (hm : us.length ≤ maxLen) : D.rep w F (.sh z xs) a := by
  obtain ⟨A, c, rfl, h2, h3, h4, _⟩ := h
  have hl := hr.len
  refine ⟨A, c, by rw [List.length_map, hl], by rw [List.length_map, hl] at h2; exact h2, by omega, fun hn => ?_⟩
  obtain ⟨b, o, rfl, e2, e3, e4⟩ := h4 (by intro e; simp at e; subst e; simp at hl; exact hn (List.eq_nil_of_length_eq_zero hl.symm))
  refine ⟨b, o, rfl, hb hn b rfl, els_repC hr (fun i u hu => e4 i (vcs u) (by rw [List.getElem?_map, hu]; rfl))⟩
end

/-! ### What the call owns -/

inductive Hp where
  /-- a row of the call's own: a slice of the whole of it, elements of z cells -/
  | sl (v : Value) (z : Nat) (T : TypeId) (xs : List D)
  /-- a block that holds one datum -/
  | bx (g : Nat) (T : TypeId) (x : D)
  /-- a row that grows: what it was ahead (v0, m elements) reads as it did, in the same block or in another one -/
  | sl2 (v0 v : Value) (z : Nat) (T : TypeId) (m : Nat) (xs : List D)
  /-- the tail of a row of the call's own, as a slice: what stands ahead of it nobody reads -/
  | slo (u : Value) (z : Nat) (T : TypeId) (xs : List D)
  /-- an iterator over a string -/
  | it (g : Nat) (s : ByteArray) (p : Nat)

/-- a tail: where it lies, if it has room at all -/
def TlB (u : Value) (b : Nat) : Prop := ∃ A n c, u = .slice (some A) n c ∧ 0 < c ∧ A.block = b
def TlOk (w : World) (z : Nat) (T : TypeId) (u : Value) (us : List Value) : Prop :=
  ∃ A c, u = .slice A us.length c ∧ us.length ≤ c ∧ (c = 0 ∨ ∃ g p, A = some ⟨g, List.length p * z, none⟩ ∧ Own vcs z T w 0 (.slice (some ⟨g, 0, none⟩) (p.length + us.length) (p.length + c)) (p ++ us))
/-- its blocks -/
def Hp.blk : Hp → Nat → Prop
  | .sl v _ _ _ => fun b => v.ownBlock = some b
  | .bx g _ _ => fun b => g = b
  | .it g _ _ => fun b => g = b
  | .slo u _ _ _ => TlB u
  | .sl2 v0 v _ _ _ _ => fun b => v0.ownBlock = some b ∨ v.ownBlock = some b

def Hp.ok (w : World) (F : Nat → Prop) : Hp → Prop
  | .sl v z T xs => ∃ us, RepE w F z xs us ∧ Own vcs z T w 0 v us
  | .bx g T x => ∃ u, D.rep w F x u ∧ One u ∧ w.heap[g]? = some (.cells u.cells T (0, 0))
  | .it g s p => w.heap[g]? = some (.stringIter s p)
  | .slo u z T xs => ∃ us, RepE w F z xs us ∧ TlOk w z T u us
  | .sl2 v0 v z T m xs => ∃ us, RepE w F z xs us ∧ Own vcs z T w 0 v us ∧ Own vcs z T w 0 v0 (us.take m) ∧ m ≤ xs.length

theorem Hp.lt {w : World} {F : Nat → Prop} {h : Hp} (ok : h.ok w F) {g : Nat} (hg : h.blk g) : g < w.heap.size := by
  cases h with
  | sl v z T xs => obtain ⟨us, _, ho⟩ := ok; exact (ho.lt hg).2
  | sl2 v0 v z T m xs =>
    obtain ⟨us, _, ho, ho0, _⟩ := ok
    rcases hg with hg | hg
    · exact (ho0.lt hg).2
    · exact (ho.lt hg).2
  | bx g' T x => obtain ⟨u, _, _, hh⟩ := ok; cases hg; exact (Array.getElem?_eq_some_iff.1 hh).1
  | it g' s p => cases hg; exact (Array.getElem?_eq_some_iff.1 ok).1
  | slo u z T xs =>
    obtain ⟨us, _, A, c, e, _, h⟩ := ok
    obtain ⟨A', n, c', e', hc, hb⟩ := hg
    rw [e] at e'; injection e' with e1 _ e2
    rcases h with h | ⟨g0, p, eA, ho⟩
    · omega
    · rw [eA] at e1; injection e1 with e1; subst e1; subst hb; exact (ho.lt rfl).2

theorem Hp.keep {w w' : World} {F F' : Nat → Prop} {h : Hp} (ok : h.ok w F) (k : Keep w F w' F') (hs : ∀ g, h.blk g → w'.heap[g]? = w.heap[g]?) : h.ok w' F' := by
  cases h with
  | sl v z T xs =>
    obtain ⟨us, hr, ho⟩ := ok
    refine ⟨us, hr.keep k, ⟨⟨ho.1.1, ?_⟩, ho.2⟩⟩
    rcases ho.1.2 with hn | ⟨g, cap, cur, rfl, hb, hgg, rest⟩
    · exact .inl hn
    · exact .inr ⟨g, cap, cur, rfl, hb, by rw [hs g rfl]; exact hgg, rest⟩
  | bx g T x => obtain ⟨u, hr, h1, hh⟩ := ok; exact ⟨u, D.keep k _ _ hr, h1, by rw [hs g rfl]; exact hh⟩
  | sl2 v0 v z T m xs =>
    obtain ⟨us, hr, ho, ho0, hm⟩ := ok
    refine ⟨us, hr.keep k, ⟨⟨ho.1.1, ?_⟩, ho.2⟩, ⟨⟨ho0.1.1, ?_⟩, ho0.2⟩, hm⟩
    · rcases ho.1.2 with hn | ⟨g, cap, cur, rfl, hb, hgg, rest⟩
      · exact .inl hn
      · exact .inr ⟨g, cap, cur, rfl, hb, by rw [hs g (.inr rfl)]; exact hgg, rest⟩
    · rcases ho0.1.2 with hn | ⟨g, cap, cur, rfl, hb, hgg, rest⟩
      · exact .inl hn
      · exact .inr ⟨g, cap, cur, rfl, hb, by rw [hs g (.inl rfl)]; exact hgg, rest⟩
  | it g s p => show w'.heap[g]? = _; rw [hs g rfl]; exact ok
  | slo u z T xs =>
    obtain ⟨us, hr, A, c, e, hle, h⟩ := ok
    refine ⟨us, hr.keep k, A, c, e, hle, ?_⟩
    rcases h with h | ⟨g0, p, eA, ho⟩
    · exact .inl h
    · rcases Nat.eq_zero_or_pos c with h0 | h0
      · exact .inl h0
      · refine .inr ⟨g0, p, eA, ⟨⟨ho.1.1, ?_⟩, ho.2⟩⟩
        rcases ho.1.2 with ⟨hn, _⟩ | ⟨g, cap, cur, e1, hb, hgg, rest⟩
        · cases hn
        · have : g0 = g := by injection e1 with e1 _ _; injection e1 with e1; injection e1
          subst this
          exact .inr ⟨g0, cap, cur, e1, hb, by rw [hs g0 ⟨_, _, _, by rw [e, eA], h0, rfl⟩]; exact hgg, rest⟩

/-- The blocks of some. -/
def blks (H : List Hp) (g : Nat) : Prop := ∃ h ∈ H, h.blk g

def Apart (h h' : Hp) : Prop := ∀ g, h.blk g → ¬ h'.blk g

structure HOk (w : World) (F A : Nat → Prop) (H : List Hp) : Prop where
  apart : H.Pairwise Apart
  ok : ∀ h ∈ H, h.ok w F
  mine : ∀ g, blks H g → A g ∧ ¬ F g

/-- A call as it began: the world, the blocks that it may write, those that nobody writes. -/
structure Ctx where
  w0 : World
  Bor : Nat → Prop
  F0 : Nat → Prop

structure Good (C : Ctx) (H : List Hp) (w : World) (F : Nat → Prop) : Prop where
  size : C.w0.heap.size ≤ w.heap.size
  os : w.os = C.w0.os
  tape : w.tape = C.w0.tape
  output : w.output = C.w0.output
  frame : ∀ b, b < C.w0.heap.size → ¬ C.Bor b → w.heap[b]? = C.w0.heap[b]?
  fsub : ∀ b, C.F0 b → F b
  fnew : ∀ b, F b → C.F0 b ∨ C.w0.heap.size ≤ b ∨ C.Bor b
  flt : ∀ b, F b → b < w.heap.size
  h : HOk w F (fun g => C.w0.heap.size ≤ g ∨ C.Bor g) H

theorem Good.sub {C : Ctx} {H H' : List Hp} {w : World} {F : Nat → Prop} (g : Good C H w F) (hs : H'.Sublist H) : Good C H' w F :=
  { g with h := ⟨g.h.apart.sublist hs, fun h hh => g.h.ok h (hs.subset hh), fun b ⟨h, hh, e⟩ => g.h.mine b ⟨h, hs.subset hh, e⟩⟩ }

/-- The world has only grown: no block that was there has turned. -/
theorem Good.ext {C : Ctx} {H : List Hp} {w w' : World} {F : Nat → Prop} (g : Good C H w F) (E : Ext w w') : Good C H w' F where
  size := Nat.le_trans g.size E.size
  os := E.os.trans g.os
  tape := E.tape.trans g.tape
  output := E.output.trans g.output
  frame := fun b hb hn => (E.block b (Nat.lt_of_lt_of_le hb g.size) (.inr (Nat.zero_le _))).trans (g.frame b hb hn)
  fsub := g.fsub
  fnew := g.fnew
  flt := fun b hb => Nat.lt_of_lt_of_le (g.flt b hb) E.size
  h := ⟨g.h.apart, fun h hh => Hp.keep (g.h.ok h hh) ⟨fun _ h => h, fun b _ hb => E.block b hb (.inr (Nat.zero_le _))⟩ (fun b hb => E.block b (Hp.lt (g.h.ok h hh) hb) (.inr (Nat.zero_le _))), g.h.mine⟩

theorem Keep.ext {w w' : World} {F : Nat → Prop} (E : Ext w w') : Keep w F w' F := ⟨fun _ h => h, fun b _ hb => E.block b hb (.inr (Nat.zero_le _))⟩
theorem Keep.trans {w w' w'' : World} {F F' F'' : Nat → Prop} (k : Keep w F w' F') (k' : Keep w' F' w'' F'') (hF : ∀ b, F b → b < w.heap.size) (hs : w.heap.size ≤ w'.heap.size) : Keep w F w'' F'' :=
  ⟨fun b h => k'.sub b (k.sub b h), fun b h hb => (k'.same b (k.sub b h) (Nat.lt_of_lt_of_le (hF b h) hs)).trans (k.same b h hb)⟩

end Lp
