/-
  THE ENGINE, eighth part: literals of slices, make, append; rows of the call's own; the order of strings.
-/
import Derived.Great.BuildSlice
import Derived.Lib.Bytealg
import Derived.Laws.Externs
import Derived.WalkKit
import Derived.ProofKit
import Derived.OpenShut
import Derived.ShutString
import Derived.ChangeOld
import Derived.Below
import Derived.Deep.Slices
import Derived.Test.YtfjinapgehafiaaGreatEngT
namespace Lp
open Go Go.RowKit

/-- The cells of some values, each of z. -/
def zc2 (z : Nat) : List Value → List (List Value) → Prop
  | [], [] => True
  | v :: r, c :: cr => v.cells = c.toArray ∧ c.length = z ∧ zc2 z r cr
  | _, _ => False

theorem zbW {v : Value} (h : v.oneCell' = true) : v.cells = [v].toArray := by cases v <;> first | rfl | cases h

theorem zc2.size {z : Nat} : ∀ {vs : List Value} {cs : List (List Value)}, zc2 z vs cs → ∀ v ∈ vs, v.cells.size = z
  | [], [], _, v, hv => by cases hv
  | v :: r, c :: cr, ⟨h1, h2, h3⟩, u, hu => by
    cases hu with
    | head => rw [h1]; simpa using h2
    | tail _ hm => exact zc2.size h3 u hm
theorem zc2.flat {z : Nat} : ∀ {vs : List Value} {cs : List (List Value)}, zc2 z vs cs → (vs.flatMap fun v => v.cells.toList) = cs.flatten
  | [], [], _ => rfl
  | v :: r, c :: cr, ⟨h1, h2, h3⟩ => by simp [h1, zc2.flat h3]

section
variable {P : Program} {ty : TypeId} {ρ : Env} {w : World} {K : Value → World → Prop} {l : Kn}

theorem e_buildSlice {t e len z : Nat} {ps : Array (Nat × Operand)} {zv : Value} (xs : List Operand) {vs : List Value} (css : List (List Value)) (hk : zaf ρ l) (hp : ps.toList = (xs.zipIdx 0).map fun x => (x.2, x.1)) (hv : opvs l xs = some vs)
    (ht : ∀ w, (underlying t).run P w = .ok (.slice e) w) (hs : ∀ w, (Go.sizeOf e).run P w = .ok z w) (hzv : ∀ w, (zeroValue e).run P w = .ok zv w) (hlen : vs.length = len) (hz : Nat.blt 0 z = true) (hsm : Nat.ble (len * z) 1000 = true) (hl0 : Nat.blt 0 len = true)
    (hcs : zc2 z vs css) (h : ∀ g w', New w w' g e css.flatten → K (.slice (some ⟨g, 0, none⟩) len len) w') : EOp P (.buildSlice t len ps) ty ρ w K := by
  have hz' : 0 < z := za6.1 hz
  have hl' : 0 < len := za6.1 hl0
  have hsm' := Nat.le_of_ble_eq_true hsm
  have hpos : 0 < len * z := Nat.mul_pos hl' hz'
  refine EOp.of_run (v := .slice (some ⟨w.heap.size, 0, none⟩) len len) (w' := w.alloc (.cells css.flatten.toArray e)) (zby ?_) (h _ _ ?_)
  · have e1 : (ps.map fun (i, x) => (i, ev ρ x)).toList = (vs.zipIdx 0).map fun x => (x.2, x.1) := by
      rw [Array.toList_map, hp, List.map_map, ← hk.ops hv]
      simp [List.zipIdx_map, List.map_map, Function.comp_def]
    have hf := Great.fill_whole hz' vs ((Array.range (len * z)).map (zv.cells[· % zv.cells.size]!)) (fun v hv' => hcs.size v hv') (by simp [hlen])
    rw [hcs.flat] at hf
    simp only [Instr.buildSlice, Sem.run_bind, ht, Result.andThen_ok, hs]
    rw [if_neg (by omega), if_neg (by omega)]
    simp only [Sem.run_bind, hzv, Result.andThen_ok, Sem.run_pure, e1, hf]
    simp [newRow]
  · have := New.mk' w e css.flatten.toArray
    simpa using this

/-- A call of a function without a body that the model has a row for. -/
theorem e_ext {f : FuncId} {args : Array Operand} {ats : Array TypeId} {vs : List Value} {v : Value} (hk : zaf ρ l) (hargs : opvs l args.toList = some vs)
    (hc : ∀ w, (callFunc f vs.toArray).run P w = .ok (.value v) w) (h : K v w) : EOp P (.call { callee := .value (.func f), args := args, argTypes := ats }) ty ρ w K := by
  have e1 : args.map (ev ρ) = vs.toArray := by
    apply Array.ext'; rw [Array.toList_map, hk.ops hargs]
  exact EOp.of_run (v := v) (w' := w) (by simp [execOp, zap, resolve, ev, Deferred.ofValue, invoke, hc, e1]) h

/-! ### rows of the call's own -/

/-- A slice of the call's own (from block 'base' on), that may be written and appended to. -/
def Own {α : Type} (cs : α → List Value) (z : Nat) (E : TypeId) (w : World) (base : Nat) (v : Value) (xs : List α) : Prop :=
  w.ownsRow base E z v xs.length (xs.flatMap cs) ∧ ∀ x ∈ xs, (cs x).length = z

variable {α : Type} {cs : α → List Value} {z : Nat} {E : TypeId} {base : Nat} {v : Value} {xs : List α} {w' : World}

theorem flatMap_get {n : Nat} (hz : ∀ x ∈ xs, (cs x).length = n) : ∀ (i : Nat) (x : α), xs[i]? = some x → ∀ j u, (cs x)[j]? = some u → (xs.flatMap cs)[i * n + j]? = some u := by
  induction xs with
  | nil => intro i x h; simp at h
  | cons y r ih =>
    intro i x hx j u hu
    rw [List.flatMap_cons]
    cases i with
    | zero =>
      simp at hx; subst hx
      rw [Nat.zero_mul, Nat.zero_add, List.getElem?_append_left (by exact (List.getElem?_eq_some_iff.1 hu).1)]; exact hu
    | succ i =>
      have hy := hz y List.mem_cons_self
      rw [List.getElem?_append_right (by rw [hy, Nat.add_mul]; omega), hy, show (i + 1) * n + j - n = i * n + j by rw [Nat.add_mul]; omega]
      exact ih (fun x hx => hz x (List.mem_cons_of_mem _ hx)) i x (by simpa using hx) j u hu

theorem Own.sl (h : Own cs z E w base v xs) : SlT cs z w base w.heap.size v xs := by
  obtain ⟨h, hz⟩ := h
  rcases h.2 with ⟨rfl, h0⟩ | ⟨g, cap, cur, rfl, hb, hg, hnc, _, hsz, htake⟩
  · have : xs = [] := List.eq_nil_of_length_eq_zero h0
    subst this; exact SlT.nil (Nat.le_refl _)
  · have hlt : g < w.heap.size := (Array.getElem?_eq_some_iff.1 hg).1
    refine ⟨_, cap, by simp, by simpa using hnc, ?_, fun _ => ⟨g, 0, rfl, hb, hlt, fun i x hx => ⟨hlt, fun j u hu => ?_⟩⟩, Nat.le_refl _⟩
    · intro x hx; obtain ⟨y, hy, rfl⟩ := List.mem_map.1 hx; exact hz y hy
    · rw [List.getElem?_map] at hx
      obtain ⟨y, hy, rfl⟩ := Option.map_eq_some_iff.1 hx
      rw [cell_of_row w g _ cur E (0, 0) hg]
      have := flatMap_get hz i y hy j u hu
      rw [← htake, List.getElem?_take] at this
      split at this
      · simpa using this
      · cases this

theorem Own.upd {lo hi : Nat} (h : Own cs z E w base v xs) (U : Upd lo hi w w') (hh : ∀ g, v.ownBlock = some g → g < lo ∨ hi ≤ g) : Own cs z E w' base v xs := by
  refine ⟨⟨h.1.1, ?_⟩, h.2⟩
  rcases h.1.2 with hn | ⟨g, cap, cur, rfl, hb, hgg, rest⟩
  · exact .inl hn
  · refine .inr ⟨g, cap, cur, rfl, hb, ?_, rest⟩
    rw [U.block g (Array.getElem?_eq_some_iff.1 hgg).1 (hh g rfl)]
    exact hgg
theorem Own.ext (h : Own cs z E w base v xs) (U : Ext w w') : Own cs z E w' base v xs := h.upd U (fun _ _ => .inr (Nat.zero_le _))
theorem Own.lt (h : Own cs z E w base v xs) {g : Nat} (hg : v.ownBlock = some g) : base ≤ g ∧ g < w.heap.size := h.1.lt g hg
theorem Own.nil (w : World) (base : Nat) : Own cs z E w base (.slice none 0 0) [] := ⟨World.ownsRow_nil w base E z, by simp⟩
theorem Own.one (h : Own cs z E w base v xs) : v.oneCell' = true := h.sl.one
theorem Own.len (h : Own cs z E w base v xs) : Len v xs.length := h.sl.len
theorem Own.ne {β : Type} {cs' : β → List Value} {z' E' base' : Nat} {v' : Value} {ys : List β} (h : Own cs z E w base v xs) (h' : Own cs' z' E' w base' v' ys) (hE : E ≠ E') {g g' : Nat} (hg : v.ownBlock = some g) (hg' : v'.ownBlock = some g') : g ≠ g' := by
  rintro rfl
  rcases h.1.2 with ⟨rfl, _⟩ | ⟨g1, _, _, rfl, _, h1, _⟩
  · cases hg
  rcases h'.1.2 with ⟨rfl, _⟩ | ⟨g2, _, _, rfl, _, h2, _⟩
  · cases hg'
  simp [Value.ownBlock] at hg hg'
  subst hg; subst hg'
  rw [h1] at h2
  injection h2 with h2
  injection h2 with _ ht
  exact hE ht
/-- A new block that is a whole row. -/
theorem Box.own {g : Nat} {cc : List Value} (h : Box w g E cc) (hb : base ≤ g) (hc : cc = xs.flatMap cs) (hz : ∀ x ∈ xs, (cs x).length = z) (hm : xs.length ≤ maxLen) : Own cs z E w base (.slice (some ⟨g, 0, none⟩) xs.length xs.length) xs := by
  subst hc
  have hl : (xs.flatMap cs).length = xs.length * z := by
    clear h hm
    induction xs with
    | nil => simp
    | cons y r ih => rw [List.flatMap_cons, List.length_append, hz y List.mem_cons_self, ih (fun x hx => hz x (List.mem_cons_of_mem _ hx)), List.length_cons, Nat.add_mul]; omega
  refine ⟨⟨hl, .inr ⟨g, xs.length, _, rfl, hb, h, Nat.le_refl _, hm, by simpa using hl, ?_⟩⟩, hz⟩
  simp only
  rw [← hl, List.take_length]

theorem At.sl {b o n : Nat} {cc : List Value} (h : At w b o cc) (hc : cc = xs.flatMap cs) (hz : ∀ x ∈ xs, (cs x).length = z) (hn : n = xs.length) : SlT cs z w b (b + 1) (.slice (some ⟨b, o, none⟩) n n) xs := by
  subst hc; subst hn
  refine ⟨_, _, by simp; rfl, by simp, ?_, fun _ => ⟨b, o, rfl, Nat.le_refl _, by omega, fun i x hx => ⟨h.1, fun j u hu => ?_⟩⟩, h.1⟩
  · intro x hx; obtain ⟨y, hy, rfl⟩ := List.mem_map.1 hx; exact hz y hy
  · rw [List.getElem?_map] at hx
    obtain ⟨y, hy, rfl⟩ := Option.map_eq_some_iff.1 hx
    have := flatMap_get hz i y hy j u hu
    rw [Nat.add_assoc]
    exact h.2 _ _ this

theorem SlT.cell_flat {lo hi : Nat} (h : SlT cs z w lo hi v xs) {b o n c : Nat} (hv : v = .slice (some ⟨b, o, none⟩) n c) : ∀ j u, (xs.flatMap cs)[j]? = some u → w.cell? ⟨b, o + j, none⟩ = some u := by
  obtain ⟨A, c', h1, h2, h3, h4, _⟩ := h
  intro j u hu
  have hz' : ∀ x ∈ xs, (cs x).length = z := fun x hx => h3 _ (List.mem_map.2 ⟨x, hx, rfl⟩)
  have hne : xs ≠ [] := by rintro rfl; simp at hu
  obtain ⟨b2, o2, e1, e2, e3, e4⟩ := h4 (by simpa using hne)
  rw [h1, e1] at hv
  injection hv with hv1 _ _
  injection hv1 with hv1
  injection hv1 with hb ho _
  subst hb; subst ho
  -- the element and the place in it
  have key : ∀ (ys : List α) (i0 : Nat), (∀ x ∈ ys, (cs x).length = z) → (∀ i x, ys[i]? = some x → xs[i0 + i]? = some x) → ∀ j u, (ys.flatMap cs)[j]? = some u → w.cell? ⟨b2, o2 + (i0 * z + j), none⟩ = some u := by
    intro ys
    induction ys with
    | nil => intro i0 _ _ j u hu; simp at hu
    | cons y r ih =>
      intro i0 hzz hx j u hu
      rw [List.flatMap_cons] at hu
      have hy := hzz y List.mem_cons_self
      by_cases hj : j < z
      · rw [List.getElem?_append_left (by omega)] at hu
        have hat := e4 i0 (cs y) (by have h0 := hx 0 y (by simp); rw [Nat.add_zero] at h0; rw [List.getElem?_map, h0]; rfl)
        have := hat.2 j u hu
        rw [← Nat.add_assoc]; exact this
      · rw [List.getElem?_append_right (by omega), hy] at hu
        have := ih (i0 + 1) (fun x hx => hzz x (List.mem_cons_of_mem _ hx)) (fun i x hi => by have := hx (i + 1) x (by simpa using hi); rw [show i0 + 1 + i = i0 + (i + 1) by omega]; exact this) (j - z) u hu
        rw [show o2 + (i0 * z + j) = o2 + ((i0 + 1) * z + (j - z)) by rw [Nat.add_mul]; omega]; exact this
  have := key xs 0 hz' (fun i x hi => by simpa using hi) j u hu
  simpa using this

/-- append onto a row of the call's own. -/
theorem e_append' {t ty' : TypeId} {x y : Operand} {s : Value} {ys : List α} {lo hi bytes : Nat} {zv : Value} (hk : zaf ρ l) (hx : opv l x = some v) (hy : opv l y = some s) (ht : P.underlying t = some (.slice E))
    (hi' : ∃ i, P.info? E = some i ∧ i.zero = some zv ∧ i.size = z ∧ i.bytes = bytes) (hzs : zv.cells.size = z) (hsz : 0 < z)
    (hown : Own cs z E w base v xs) (hs : SlT cs z w lo hi s ys) (h1 : ∀ x ∈ ys, zbD (cs x)) (hlen : xs.length + ys.length ≤ maxLen) (hbytes : (xs.length + ys.length) * bytes ≤ 140737488355328) (hbase : base ≤ w.heap.size)
    (h : ∀ v' w', Own cs z E w' base v' (xs ++ ys) → (∃ a b, Upd a b w w' ∧ ((a = 0 ∧ b = 0) ∨ (v.ownBlock = some a ∧ b = a + 1 ∧ base ≤ a))) → (v'.ownBlock = v.ownBlock ∨ v'.ownBlock = some w.heap.size) → (Builtin.append_ #[t, t] ty' #[v, s]).run P w = .ok v' w' → K v' w') :
    EOp P (.call { callee := .builtin .append, args := #[x, y], argTypes := #[t, t] }) ty' ρ w K := by
  obtain ⟨i, i1, i2, i3, i4⟩ := hi'
  have hs' := hs
  obtain ⟨A, c, e1, e2, e3, e4, _⟩ := hs
  simp only [List.length_map] at e1 e2
  have hz' : ∀ x ∈ ys, (cs x).length = z := fun x hx => e3 _ (List.mem_map.2 ⟨x, hx, rfl⟩)
  have hfl : (ys.flatMap cs).length = ys.length * z := by
    clear e4 e1 e2 e3 hbytes hlen hs' h
    induction ys with
    | nil => simp
    | cons y r ih => rw [List.flatMap_cons, List.length_append, hz' y List.mem_cons_self, ih (fun x hx => h1 x (List.mem_cons_of_mem _ hx)) (fun x hx => hz' x (List.mem_cons_of_mem _ hx)), List.length_cons, Nat.add_mul]; omega
  have hall : ∀ u ∈ ys.flatMap cs, u.oneCell' = true := by
    intro u hu
    obtain ⟨y, hy, huy⟩ := List.mem_flatMap.1 hu
    exact (h1 y hy).all u huy
  have hup : ∀ {w'}, w.grownBy w' v.ownBlock → ∃ a b, Upd a b w w' ∧ ((a = 0 ∧ b = 0) ∨ (v.ownBlock = some a ∧ b = a + 1 ∧ base ≤ a)) := by
    intro w' hg
    cases hv : v.ownBlock with
    | none => exact ⟨0, 0, ⟨hg.os, hg.tape, hg.output, hg.size, fun k hk _ => hg.block k hk (by rw [hv]; simp)⟩, .inl ⟨rfl, rfl⟩⟩
    | some g => exact ⟨g, g + 1, ⟨hg.os, hg.tape, hg.output, hg.size, fun k hk hh => hg.block k hk (by rw [hv]; simp; omega)⟩, .inr ⟨rfl, rfl, (hown.lt hv).1⟩⟩
  have hrun : ∃ v' w', (Builtin.append_ #[t, t] ty' #[v, s]).run P w = .ok v' w' ∧ Own cs z E w' base v' (xs ++ ys) ∧ w.grownBy w' v.ownBlock ∧ (v'.ownBlock = v.ownBlock ∨ v'.ownBlock = some w.heap.size) := by
    cases A with
    | none =>
      have hy0 : ys = [] := by
        rcases Nat.eq_zero_or_pos ys.length with h0 | h0
        · exact List.eq_nil_of_length_eq_zero h0
        · obtain ⟨b, o, hh, _⟩ := e4 (by intro e; simp at e; subst e; simp at h0)
          cases hh
      subst hy0
      refine ⟨v, w, ?_, by simpa using hown, World.grownBy.refl w _, .inl rfl⟩
      subst e1
      rcases hown.1.2 with ⟨rfl, h0⟩ | ⟨g, cap, cur, rfl, _, _, hnc, _⟩
      · simp [Builtin.append_, run_underlying ht, Go.sizeOf, typeInfo, i1, Builtin.lenOf, Builtin.firstCells]
      · simp [Builtin.append_, run_underlying ht, Go.sizeOf, typeInfo, i1, Builtin.lenOf, Builtin.firstCells, hnc, storeCells]
    | some ad =>
      have hcells : ∀ j u, (ys.flatMap cs)[j]? = some u → w.cell? (ad.add j) = some u := by
        intro j u hu
        obtain ⟨b, o, hh, _⟩ := e4 (by intro e; simp at e; subst e; simp at hu)
        injection hh with hh
        subst hh
        have ha : (⟨b, o, none⟩ : Addr).add j = ⟨b, o + j, none⟩ := by cases j <;> simp [Addr.add]
        rw [ha]
        exact hs'.cell_flat e1 j u hu
      obtain ⟨v', w', r1, r2, r3, _, r5⟩ := run_append_own_at (P := P) w base t ty' E i zv z bytes ht i1 i2 i3 i4 hzs hsz v xs.length (xs.flatMap cs) hown.1 ad ys.length c (ys.flatMap cs) hfl hcells hall hlen hbytes hbase
      refine ⟨v', w', by rw [e1]; exact r1, ⟨?_, ?_⟩, r3, r5⟩
      · rw [List.length_append, List.flatMap_append]; exact r2
      · intro x hx
        rcases List.mem_append.1 hx with hx | hx
        · exact hown.2 x hx
        · exact hz' x hx
  obtain ⟨v', w', r1, r2, r3, r4⟩ := hrun
  refine EOp.of_run (v := v') (w' := w') ?_ (h v' w' r2 (hup r3) r4 r1)
  simp [execOp, zap, resolve, invoke, builtin, hk.op hx, hk.op hy, r1]
theorem e_append {t ty' : TypeId} {x y : Operand} {s : Value} {ys : List α} {lo hi bytes : Nat} {zv : Value} (hk : zaf ρ l) (hx : opv l x = some v) (hy : opv l y = some s) (ht : P.underlying t = some (.slice E))
    (hi' : ∃ i, P.info? E = some i ∧ i.zero = some zv ∧ i.size = z ∧ i.bytes = bytes) (hzs : zv.cells.size = z) (hsz : 0 < z)
    (hown : Own cs z E w base v xs) (hs : SlT cs z w lo hi s ys) (h1 : ∀ x ∈ ys, zbD (cs x)) (hlen : xs.length + ys.length ≤ maxLen) (hbytes : (xs.length + ys.length) * bytes ≤ 140737488355328) (hbase : base ≤ w.heap.size)
    (h : ∀ v' w', Own cs z E w' base v' (xs ++ ys) → (∃ a b, Upd a b w w' ∧ ((a = 0 ∧ b = 0) ∨ (v.ownBlock = some a ∧ b = a + 1 ∧ base ≤ a))) → (v'.ownBlock = v.ownBlock ∨ v'.ownBlock = some w.heap.size) → K v' w') :
    EOp P (.call { callee := .builtin .append, args := #[x, y], argTypes := #[t, t] }) ty' ρ w K := by
  exact e_append' hk hx hy ht hi' hzs hsz hown hs h1 hlen hbytes hbase (fun v' w' a b c _ => h v' w' a b c)
end

/-! ### the order of strings -/

def cmpL : List UInt8 → List UInt8 → Int := Lib.compareBytes
def cmpS (a b : ByteArray) : Int := cmpL a.data.toList b.data.toList

theorem cmpL_cases : ∀ a b : List UInt8, cmpL a b = -1 ∨ cmpL a b = 0 ∨ cmpL a b = 1
  | [], [] => .inr (.inl rfl)
  | [], _ :: _ => .inl rfl
  | _ :: _, [] => .inr (.inr rfl)
  | a :: as, b :: bs => by
    show (if a < b then (-1 : Int) else if b < a then 1 else cmpL as bs) = _ ∨ (if a < b then (-1 : Int) else if b < a then 1 else cmpL as bs) = _ ∨ (if a < b then (-1 : Int) else if b < a then 1 else cmpL as bs) = _
    split
    · simp
    · split
      · simp
      · exact cmpL_cases as bs
theorem cmpL_neg : ∀ a b : List UInt8, cmpL b a = - cmpL a b
  | [], [] => rfl
  | [], _ :: _ => rfl
  | _ :: _, [] => rfl
  | a :: as, b :: bs => by
    show (if b < a then (-1 : Int) else if a < b then 1 else cmpL bs as) = - (if a < b then (-1 : Int) else if b < a then 1 else cmpL as bs)
    have ih := cmpL_neg as bs
    by_cases h1 : a < b
    · have h2 : ¬ b < a := fun h => by have := UInt8.lt_asymm h1 h; exact this
      simp [h1, h2]
    · by_cases h2 : b < a
      · simp [h1, h2]
      · simp [h1, h2, ih]
theorem cmpL_eq : ∀ a b : List UInt8, cmpL a b = 0 ↔ a = b
  | [], [] => by simp [cmpL, Lib.compareBytes]
  | [], _ :: _ => by simp [cmpL, Lib.compareBytes]
  | _ :: _, [] => by simp [cmpL, Lib.compareBytes]
  | a :: as, b :: bs => by
    show (if a < b then (-1 : Int) else if b < a then 1 else cmpL as bs) = 0 ↔ _
    have ih := cmpL_eq as bs
    by_cases h1 : a < b
    · simp only [h1, if_true]
      constructor
      · intro h; omega
      · intro h; injection h with h _; subst h; exact absurd h1 (UInt8.lt_irrefl _)
    · by_cases h2 : b < a
      · simp only [h1, h2, if_true, if_false]
        constructor
        · intro h; omega
        · intro h; injection h with h _; subst h; exact absurd h2 (UInt8.lt_irrefl _)
      · have : a = b := UInt8.le_antisymm (UInt8.not_lt.1 h2) (UInt8.not_lt.1 h1)
        subst this
        simp only [h1, if_false, ih]
        simp
theorem cmpL_trans : ∀ a b c : List UInt8, cmpL a b ≤ 0 → cmpL b c ≤ 0 → cmpL a c ≤ 0
  | [], _, [], _, _ => by decide
  | [], _, _ :: _, _, _ => by show (-1 : Int) ≤ 0; omega
  | _ :: _, [], _, h, _ => by exfalso; have : (1 : Int) ≤ 0 := h; omega
  | _ :: _, _ :: _, [], _, h => by exfalso; have : (1 : Int) ≤ 0 := h; omega
  | a :: as, b :: bs, c :: cs, h1, h2 => by
    have h1' : (if a < b then (-1 : Int) else if b < a then 1 else cmpL as bs) ≤ 0 := h1
    have h2' : (if b < c then (-1 : Int) else if c < b then 1 else cmpL bs cs) ≤ 0 := h2
    show (if a < c then (-1 : Int) else if c < a then 1 else cmpL as cs) ≤ 0
    by_cases e1 : a < c
    · simp [e1]
    · by_cases e2 : c < a
      · exfalso
        by_cases f1 : a < b
        · have g1 : ¬ b < c := fun h => e1 (UInt8.lt_trans f1 h)
          by_cases g2 : c < b
          · simp [g1, g2] at h2'
          · have : b = c := UInt8.le_antisymm (UInt8.not_lt.1 g2) (UInt8.not_lt.1 g1)
            subst this; exact e1 f1
        · by_cases f2 : b < a
          · simp [f1, f2] at h1'
          · have : a = b := UInt8.le_antisymm (UInt8.not_lt.1 f2) (UInt8.not_lt.1 f1)
            subst this
            simp [e1, e2] at h2'
      · have hac : a = c := UInt8.le_antisymm (UInt8.not_lt.1 e2) (UInt8.not_lt.1 e1)
        subst hac
        simp only [e1, if_false]
        by_cases f1 : a < b
        · have f2 : ¬ b < a := fun h => UInt8.lt_asymm f1 h
          simp [f1, f2] at h2'
        · by_cases f2 : b < a
          · simp [f1, f2] at h1'
          · simp [f1, f2] at h1' h2'
            exact cmpL_trans as bs cs h1' h2'

theorem cmpS_cases (a b : ByteArray) : cmpS a b = -1 ∨ cmpS a b = 0 ∨ cmpS a b = 1 := cmpL_cases _ _
theorem zcK (a b : ByteArray) : cmpS b a = - cmpS a b := cmpL_neg _ _
theorem zbx (a b : ByteArray) : cmpS a b = 0 ↔ a = b := by
  unfold cmpS; rw [cmpL_eq]
  constructor
  · intro h; exact ByteArray.ext (Array.ext' h)
  · rintro rfl; rfl
theorem cmpS_trans (a b c : ByteArray) (h1 : cmpS a b ≤ 0) (h2 : cmpS b c ≤ 0) : cmpS a c ≤ 0 := cmpL_trans _ _ _ h1 h2

theorem bytesLess_cmp : ∀ a b : List UInt8, Op.bytesLess a b = decide (cmpL a b < 0)
  | [], [] => rfl
  | [], _ :: _ => rfl
  | _ :: _, [] => rfl
  | a :: as, b :: bs => by
    have ih := bytesLess_cmp as bs
    show (decide (a < b) || (a == b && Op.bytesLess as bs)) = decide ((if a < b then (-1 : Int) else if b < a then 1 else cmpL as bs) < 0)
    by_cases h1 : a < b
    · simp [h1]
    · by_cases h2 : b < a
      · have : (a == b) = false := by simp; rintro rfl; exact UInt8.lt_irrefl _ h2
        simp [h1, h2, this]
      · have : a = b := UInt8.le_antisymm (UInt8.not_lt.1 h2) (UInt8.not_lt.1 h1)
        subst this
        simp [h1, ih]

section
variable {P : Program} {ty : TypeId} {ρ : Env} {w : World} {K : Value → World → Prop} {l : Kn}
theorem e_lts {t t' : TypeId} {x y : Operand} {a b : ByteArray} (hk : zaf ρ l) (hx : opv l x = some (.string a)) (hy : opv l y = some (.string b)) {c : Bool} (hc : (decide (cmpS a b < 0)) = c) (h : K (.bool c) w) : EOp P (.binOp .lss t x y t') ty ρ w K :=
  zbM hk hx hy (fun w => by simp [eqGuard_at_string, binOp, Op.stringOp, ByteArray.toList_eq, bytesLess_cmp, cmpS]; exact decide_eq_decide.2 Iff.rfl) (hc ▸ h)
theorem e_gts {t t' : TypeId} {x y : Operand} {a b : ByteArray} (hk : zaf ρ l) (hx : opv l x = some (.string a)) (hy : opv l y = some (.string b)) {c : Bool} (hc : (decide (0 < cmpS a b)) = c) (h : K (.bool c) w) : EOp P (.binOp .gtr t x y t') ty ρ w K :=
  zbM hk hx hy (fun w => by
    have h1 := cmpS_cases a b
    have h2 := zbx a b
    have e : (!(Op.bytesLess a.toList b.toList || a.toList == b.toList)) = decide (0 < cmpS a b) := by
      rw [toList_beq, ByteArray.toList_eq, ByteArray.toList_eq, bytesLess_cmp]
      show (!(decide (cmpS a b < 0) || decide (a = b))) = _
      rw [Bool.eq_iff_iff]; simp
      constructor
      · rintro ⟨p, q⟩; rw [← h2] at q; omega
      · intro p; exact ⟨by omega, fun q => by rw [← h2] at q; omega⟩
    simp [eqGuard_at_string, binOp, Op.stringOp]
    simpa using e) (hc ▸ h)
end
end Lp
/-
  THE ENGINE, ninth part: stores into rows of the call's own; rows that are apart.
-/
namespace Lp
open Go Go.RowKit

theorem spl_app {cs r : List Value} {o : Nat} {vs : List Value} (h : o + vs.length ≤ cs.length) : spl (cs ++ r) o vs = spl cs o vs ++ r := by
  unfold spl
  rw [List.take_append_of_le_length (by omega), List.drop_append_of_le_length (by omega)]
  simp
theorem za5 {P : Program} {E : TypeId} {zv : Value} {z b : Nat} (h : (P.info? E).map (fun i => (i.zero, i.size, i.bytes)) = some (some zv, z, b)) : ∃ i, P.info? E = some i ∧ i.zero = some zv ∧ i.size = z ∧ i.bytes = b := by
  obtain ⟨i, h1, h2⟩ := Option.map_eq_some_iff.1 h
  simp only [Prod.mk.injEq] at h2
  exact ⟨i, h1, h2.1, h2.2.1, h2.2.2⟩
section
variable {α : Type} {cs : α → List Value} {z : Nat} {E : TypeId} {base : Nat} {v : Value} {xs : List α} {w w' : World}

theorem zbv (hz : ∀ x ∈ xs, (cs x).length = z) : (xs.flatMap cs).length = xs.length * z := by
  induction xs with
  | nil => simp
  | cons y r ih => rw [List.flatMap_cons, List.length_append, hz y List.mem_cons_self, ih (fun x hx => hz x (List.mem_cons_of_mem _ hx)), List.length_cons, Nat.add_mul]; omega

theorem spl_flat (hz : ∀ x ∈ xs, (cs x).length = z) {d : α} (hd : (cs d).length = z) : ∀ {k : Nat}, k < xs.length → spl (xs.flatMap cs) (k * z) (cs d) = (xs.set k d).flatMap cs := by
  induction xs with
  | nil => intro k h; simp at h
  | cons y r ih =>
    have hy := hz y List.mem_cons_self
    intro k hk
    cases k with
    | zero =>
      rw [List.set_cons_zero, List.flatMap_cons, List.flatMap_cons]
      unfold spl
      rw [Nat.zero_mul, List.take_zero, Nat.zero_add, hd, List.nil_append, ← hy, List.drop_left]
    | succ k =>
      have := ih (fun x hx => hz x (List.mem_cons_of_mem _ hx)) (by simpa using hk)
      rw [List.set_cons_succ, List.flatMap_cons, List.flatMap_cons, ← this]
      unfold spl
      rw [show (k + 1) * z = (cs y).length + k * z by rw [hy, Nat.add_mul]; omega, List.take_append, show (cs y).length + k * z + (cs d).length = (cs y).length + (k * z + (cs d).length) by omega, List.drop_append]
      rw [List.take_of_length_le (by omega), List.drop_eq_nil_of_le (by omega)]
      simp

/-- A row of the call's own that is not empty: its block. -/
theorem Own.form (h : Own cs z E w base v xs) (hn : 0 < xs.length) : ∃ cap r, v = .slice (some ⟨bl v, 0, none⟩) xs.length cap ∧ base ≤ bl v ∧ Box w (bl v) E (xs.flatMap cs ++ r) ∧ xs.length ≤ cap ∧ cap ≤ maxLen ∧ (xs.flatMap cs ++ r).length = cap * z := by
  rcases h.1.2 with ⟨_, h0⟩ | ⟨g, cap, cur, rfl, hb, hg, hnc, hm, hsz, htake⟩
  · omega
  · refine ⟨cap, cur.toList.drop (xs.length * z), rfl, hb, ?_, hnc, hm, ?_⟩
    · unfold Box; rw [← htake, List.take_append_drop]; simpa [bl] using hg
    · rw [← htake, List.take_append_drop]; simpa using hsz
theorem Own.block (h : Own cs z E w base v xs) (hn : 0 < xs.length) : base ≤ bl v ∧ bl v < w.heap.size ∧ of_ v = 0 ∧ v.ownBlock = some (bl v) := by
  obtain ⟨cap, r, e, hb, hB, _⟩ := h.form hn
  refine ⟨hb, hB.lt, ?_, ?_⟩
  · rw [e]; rfl
  · rw [e]; rfl

/-- Another row is appended to: rows of another type stay. -/
theorem Own.app {β : Type} {cs' : β → List Value} {z' E' base' : Nat} {v' : Value} {ys : List β} {a b : Nat} (h : Own cs z E w base v xs) (h0 : Own cs' z' E' w base' v' ys) (hE : E ≠ E') (U : Upd a b w w') (hU : (a = 0 ∧ b = 0) ∨ (v'.ownBlock = some a ∧ b = a + 1 ∧ base' ≤ a)) : Own cs z E w' base v xs := by
  refine h.upd U (fun g hg => ?_)
  rcases hU with ⟨rfl, rfl⟩ | ⟨ho, rfl, _⟩
  · exact .inr (Nat.zero_le _)
  · have := h.ne h0 hE hg ho; omega
theorem Own.off {β : Type} {cs' : β → List Value} {z' E' base' : Nat} {v' : Value} {ys : List β} {a b g : Nat} (h : Own cs z E w base v xs) (h0 : Own cs' z' E' w base' v' ys) (hE : E ≠ E') (hU : (a = 0 ∧ b = 0) ∨ (v'.ownBlock = some a ∧ b = a + 1 ∧ base' ≤ a)) (hg : v.ownBlock = some g) : g < a ∨ b ≤ g := by
  rcases hU with ⟨rfl, rfl⟩ | ⟨ho, rfl, _⟩
  · exact .inr (Nat.zero_le _)
  · have := h.ne h0 hE hg ho; omega
end
end Lp
/-
  THE ENGINE, tenth part: what came in. A slice that the statement's reader has trodden reads as a list of data.
-/
namespace Lp
open Go Go.RowKit Go.ChangeShapes Go.Deep

section
variable {H : Type} {enc : TypeId × Value → H} {P : Program} {w : World} {held : Bool} {sp : Nat → Bool}

theorem addr_plain {a : Addr} {i : Nat} {v : Value} (h : w.cell? (a.add i) = some v) : a.add i = ⟨a.block, a.off + i, none⟩ ∧ (i = 0 → a.spot = none) ∧ a.block < w.heap.size := by
  have hblk : (a.add i).block = a.block := by unfold Addr.add; split <;> rfl
  have hspot : (a.add i).spot = none := by
    cases hsp : (a.add i).spot with
    | none => rfl
    | some s =>
      simp only [World.cell?] at h
      split at h
      · simp [hsp] at h
      · cases h
  refine ⟨?_, ?_, ?_⟩
  · unfold Addr.add at hspot ⊢
    split
    · rename_i h0
      subst h0
      rw [if_pos rfl] at hspot
      cases a
      simp_all
    · rfl
  · rintro rfl; simpa [Addr.add] using hspot
  · rw [← hblk]
    simp only [World.cell?] at h
    split at h
    · rename_i hb; exact (Array.getElem?_eq_some_iff.1 hb).1
    · cases h

theorem open_sl {α : Type} [Inhabited α] {cs : α → List Value} {z : Nat} {t e : TypeId} {fuel : Nat} {vs : List Value} {x : DataW H × List MemPlace} (Q : α → Prop) (ht : P.underlying t = some (.slice e)) (hz : P.cellsOf e = z) (hz0 : 0 < z)
    (h : DataW.trod enc P w 0 sp held fuel t vs = some x)
    (el : ∀ n cs' y, DataW.trod enc P w 0 sp held n e cs' = some y → ∃ d : α, cs' = cs d ∧ (cs d).length = z ∧ Q d) :
    ∃ v xs, vs = [v] ∧ SlT cs z w 0 w.heap.size v xs ∧ (∀ d ∈ xs, Q d) ∧ xs.length ≤ maxLen := by
  rcases open_slice ht h with ⟨rfl, _⟩ | ⟨a, len, cap, m, n, D, Pl, rfl, _, hl, hm, hmm, _, hx⟩
  · exact ⟨_, [], rfl, SlT.nil (Nat.le_refl _), by simp, by simp⟩
  have hlm : len ≤ m := by rw [hmm]; split <;> omega
  obtain ⟨f, hf⟩ := choose_lt (α := α) (n := len) (p := fun i d => w.cells? 0 (a.add (i * z)) z = some (cs d) ∧ (cs d).length = z ∧ Q d) (fun i hi => by
    obtain ⟨cs', h1, h2⟩ := hx i (by omega)
    obtain ⟨d, rfl, h3, h4⟩ := el _ _ _ h2
    rw [hz] at h1
    exact ⟨d, h1, h3, h4⟩)
  have hlen : ((List.range len).map f).length = len := by simp
  refine ⟨_, (List.range len).map f, rfl, ?_, ?_, by rw [hlen]; omega⟩
  · refine ⟨some a, cap, by simp, by simpa using hl, ?_, fun hne => ?_, Nat.le_refl _⟩
    · intro y hy
      simp only [List.mem_map, List.mem_range] at hy
      obtain ⟨d, ⟨i, hi, rfl⟩, rfl⟩ := hy
      exact (hf i hi).2.1
    · have hl0 : 0 < len := by
        rcases Nat.eq_zero_or_pos len with h0 | h0
        · subst h0; simp at hne
        · exact h0
      obtain ⟨c1, c2, c3⟩ := World.cells?_some (hf 0 hl0).1
      have hc0 := c3 0 hz0
      have : ((cs (f 0))[0]?).isSome := by rw [List.getElem?_eq_getElem (by omega)]; rfl
      obtain ⟨u, hu⟩ := Option.isSome_iff_exists.1 this
      rw [hu] at hc0
      simp only [Nat.zero_mul] at hc0
      have ha0 : a.add 0 = a := by simp [Addr.add]
      rw [ha0, ha0] at hc0
      obtain ⟨p1, p2, p3⟩ := addr_plain (a := a) (i := 0) (by rw [ha0]; exact hc0)
      rw [ha0] at p1
      refine ⟨a.block, a.off, by rw [Nat.add_zero] at p1; exact congrArg some p1, Nat.zero_le _, p3, fun i y hy => ?_⟩
      simp only [List.getElem?_map, Option.map_map] at hy
      have hi : i < len := by
        rcases Nat.lt_or_ge i len with e | e
        · exact e
        · rw [List.getElem?_eq_none (by simpa using e)] at hy; cases hy
      rw [List.getElem?_range hi] at hy
      simp at hy
      subst hy
      refine ⟨p3, fun j u hu => ?_⟩
      obtain ⟨d1, d2, d3⟩ := World.cells?_some (hf i hi).1
      have hj : j < z := by rw [← (hf i hi).2.1]; exact (List.getElem?_eq_some_iff.1 hu).1
      have hc := d3 j hj
      rw [hu, add_add] at hc
      rw [(addr_plain hc).1] at hc
      rw [Nat.add_assoc]; exact hc
  · intro d hd
    simp only [List.mem_map, List.mem_range] at hd
    obtain ⟨i, hi, rfl⟩ := hd
    exact (hf i hi).2.2

theorem open_str2 {t : TypeId} {f0 f1 : Field} {n : Nat} {cs : List Value} {y : DataW H × List MemPlace} (ht : P.underlying t = some (.struct #[f0, f1])) (o0 : f0.offset = 0) (o1 : f1.offset = 1) (c0 : P.cellsOf f0.type = 1) (c1 : P.cellsOf f1.type = 1) (cc : P.cellsOf t = 2)
    (h : DataW.trod enc P w 0 sp held n t cs = some y) : ∃ a b y0 y1 m, cs = [a, b] ∧ DataW.trod enc P w 0 sp held m f0.type [a] = some y0 ∧ DataW.trod enc P w 0 sp held m f1.type [b] = some y1 := by
  obtain ⟨y0, y1, m, _, h2, h3, h4⟩ := trod_struct2 ht h
  rw [cc] at h2
  rw [o0, c0] at h3
  rw [o1, c1] at h4
  match cs, h2 with
  | [a, b], _ => exact ⟨a, b, y0, y1, m, rfl, by simpa using h3, by simpa using h4⟩
end
end Lp
/-
  DATA: what a value reads as, memory and all; rows and boxes of the call's own.
-/
namespace Lp
open Go Go.RowKit

/-- Data: a value as it reads. -/
inductive D where
  | v (u : Value)
  /-- a value of one cell -/
  | ov (u : Value)
  | s (b : ByteArray)
  | agg (cs : List D)
  | tup (cs : List D)
  | ifc (t : TypeId) (d : D)
  | fn (f : FuncId) (first cap : List D)
  /-- a slice in memory that nobody writes any more -/
  | sh (z : Nat) (xs : List D)
  /-- the first n elements of such a slice, with room behind them in which what stands is known -/
  | shr (z n : Nat) (xs : List D)
  /-- a pointer to a cell of such a datum -/
  | el (x : D) (o : Nat)
  | any

def One (u : Value) : Prop := ∀ c ∈ u.cells.toList, c.oneCell' = true
abbrev vcs (u : Value) : List Value := u.cells.toList

theorem One.one {u : Value} (h : u.oneCell' = true) : One u := by
  intro c hc; rw [zbW h] at hc; simp at hc; exact hc ▸ h
theorem vcs_one {u : Value} (h : u.oneCell' = true) : vcs u = [u] := by unfold vcs; rw [zbW h]

mutual
def D.rep (w : World) (F : Nat → Prop) : D → Value → Prop
  | .v u, a => a = u
  | .ov u, a => a = u ∧ u.oneCell' = true
  | .s b, a => a = .string b ∧ b.size ≤ maxLen
  | .agg cs, a => ∃ vs, a = .agg vs.toArray ∧ D.repL w F cs vs
  | .tup cs, a => ∃ vs, a = .tuple vs.toArray ∧ D.repA w F cs vs
  | .ifc t d, a => ∃ u, a = .iface t u ∧ D.rep w F d u
  | .fn f p q, a => ∃ us vs, a = .func (.func f) us.toArray vs.toArray ∧ D.repA w F p us ∧ D.repA w F q vs
  | .sh z xs, a => ∃ A c, a = .slice A xs.length c ∧ xs.length ≤ c ∧ xs.length ≤ maxLen ∧ (xs ≠ [] → ∃ b o, A = some ⟨b, o, none⟩ ∧ F b ∧ D.repC w F z b xs o)
  | .shr z n xs, a => ∃ A c, a = .slice A n c ∧ n ≤ xs.length ∧ xs.length ≤ c ∧ xs.length ≤ maxLen ∧ (xs ≠ [] → ∃ b o, A = some ⟨b, o, none⟩ ∧ F b ∧ D.repC w F z b xs o)
  | .el x o, a => ∃ b p u, a = .pointer (some ⟨b, p + o, none⟩) ∧ F b ∧ D.rep w F x u ∧ One u ∧ At w b p (vcs u)
  | .any, a => a.oneCell' = true
/-- cells -/
def D.repL (w : World) (F : Nat → Prop) : List D → List Value → Prop
  | [], vs => vs = []
  | d :: r, vs => ∃ u us, vs = u :: us ∧ u.oneCell' = true ∧ D.rep w F d u ∧ D.repL w F r us
/-- values -/
def D.repA (w : World) (F : Nat → Prop) : List D → List Value → Prop
  | [], vs => vs = []
  | d :: r, vs => ∃ u us, vs = u :: us ∧ D.rep w F d u ∧ D.repA w F r us
/-- elements, one behind the other, from cell o on -/
def D.repC (w : World) (F : Nat → Prop) (z b : Nat) : List D → Nat → Prop
  | [], _ => True
  | x :: r, o => (∃ u, D.rep w F x u ∧ One u ∧ u.cells.size = z ∧ At w b o (vcs u)) ∧ D.repC w F z b r (o + z)
end

/-- What blocks of F hold stays, and they stay in it. -/
structure Keep (w : World) (F : Nat → Prop) (w' : World) (F' : Nat → Prop) : Prop where
  sub : ∀ b, F b → F' b
  same : ∀ b, F b → b < w.heap.size → w'.heap[b]? = w.heap[b]?

theorem Keep.rfl' {w : World} {F : Nat → Prop} : Keep w F w F := ⟨fun _ h => h, fun _ _ _ => rfl⟩

theorem At.same {w w' : World} {b o : Nat} {cs : List Value} (h : At w b o cs) (e : w'.heap[b]? = w.heap[b]?) : At w' b o cs := by
  refine ⟨?_, fun j u hu => (World.cell?_of_block e).trans (h.2 j u hu)⟩
  have h1 : (w.heap[b]?).isSome := by rw [Array.getElem?_eq_getElem h.1]; rfl
  rw [← e] at h1
  obtain ⟨x, hx⟩ := Option.isSome_iff_exists.1 h1
  exact (Array.getElem?_eq_some_iff.1 hx).1

section
variable {w w' : World} {F F' : Nat → Prop}
mutual
theorem D.keep (k : Keep w F w' F') : ∀ (d : D) (a : Value), D.rep w F d a → D.rep w' F' d a
  | .v _, _, h => h
  | .ov _, _, h => h
  | .s _, _, h => h
  | .agg cs, _, ⟨vs, e, h⟩ => ⟨vs, e, D.keepL k cs vs h⟩
  | .tup cs, _, ⟨vs, e, h⟩ => ⟨vs, e, D.keepA k cs vs h⟩
  | .ifc _ d, _, ⟨u, e, h⟩ => ⟨u, e, D.keep k d u h⟩
  | .fn _ p q, _, ⟨us, vs, e, h1, h2⟩ => ⟨us, vs, e, D.keepA k p us h1, D.keepA k q vs h2⟩
  | .sh z xs, _, ⟨A, c, e, h1, h2, h3⟩ => ⟨A, c, e, h1, h2, fun hn => by
      obtain ⟨b, o, e1, e2, e3⟩ := h3 hn
      exact ⟨b, o, e1, k.sub b e2, D.keepC k z b e2 xs o e3⟩⟩
  | .shr z n xs, _, ⟨A, c, e, h0, h1, h2, h3⟩ => ⟨A, c, e, h0, h1, h2, fun hn => by
      obtain ⟨b, o, e1, e2, e3⟩ := h3 hn
      exact ⟨b, o, e1, k.sub b e2, D.keepC k z b e2 xs o e3⟩⟩
  | .el x _, _, ⟨b, p, u, e, h1, h2, h3, h4⟩ => ⟨b, p, u, e, k.sub b h1, D.keep k x u h2, h3, h4.same (k.same b h1 h4.1)⟩
  | .any, _, h => h
theorem D.keepL (k : Keep w F w' F') : ∀ (ds : List D) (vs : List Value), D.repL w F ds vs → D.repL w' F' ds vs
  | [], _, h => h
  | d :: r, _, ⟨u, us, e, h1, h2, h3⟩ => ⟨u, us, e, h1, D.keep k d u h2, D.keepL k r us h3⟩
theorem D.keepA (k : Keep w F w' F') : ∀ (ds : List D) (vs : List Value), D.repA w F ds vs → D.repA w' F' ds vs
  | [], _, h => h
  | d :: r, _, ⟨u, us, e, h2, h3⟩ => ⟨u, us, e, D.keep k d u h2, D.keepA k r us h3⟩
theorem D.keepC (k : Keep w F w' F') (z b : Nat) (hb : F b) : ∀ (xs : List D) (o : Nat), D.repC w F z b xs o → D.repC w' F' z b xs o
  | [], _, h => h
  | x :: r, o, ⟨⟨u, h1, h2, h3, h4⟩, h5⟩ => ⟨⟨u, D.keep k x u h1, h2, h3, h4.same (k.same b hb h4.1)⟩, D.keepC k z b hb r (o + z) h5⟩
end
end

/-- Data without memory. -/
def D.flat : D → Bool
  | .v _ | .ov _ | .s _ | .any => true
  | .agg cs => flatL cs
  | .tup cs => flatL cs
  | .ifc _ d => d.flat
  | .fn _ p q => flatL p && flatL q
  | _ => false
where flatL : List D → Bool
  | [] => true
  | d :: r => d.flat && flatL r

section
variable {w w' : World} {F F' : Nat → Prop}
mutual
theorem D.flat_rep : ∀ (d : D) (a : Value), d.flat = true → D.rep w F d a → D.rep w' F' d a
  | .v _, _, _, h => h
  | .ov _, _, _, h => h
  | .s _, _, _, h => h
  | .agg cs, _, f, ⟨vs, e, h⟩ => ⟨vs, e, D.flat_repL cs vs (by simpa [D.flat] using f) h⟩
  | .tup cs, _, f, ⟨vs, e, h⟩ => ⟨vs, e, D.flat_repA cs vs (by simpa [D.flat] using f) h⟩
  | .ifc _ d, _, f, ⟨u, e, h⟩ => ⟨u, e, D.flat_rep d u (by simpa [D.flat] using f) h⟩
  | .fn _ p q, _, f, ⟨us, vs, e, h1, h2⟩ => by
    simp only [D.flat, Bool.and_eq_true] at f
    exact ⟨us, vs, e, D.flat_repA p us f.1 h1, D.flat_repA q vs f.2 h2⟩
  | .sh _ _, _, f, _ => by simp [D.flat] at f
  | .el _ _, _, f, _ => by simp [D.flat] at f
  | .shr _ _ _, _, f, _ => by simp [D.flat] at f
  | .any, _, _, h => h
theorem D.flat_repL : ∀ (ds : List D) (vs : List Value), D.flat.flatL ds = true → D.repL w F ds vs → D.repL w' F' ds vs
  | [], _, _, h => h
  | d :: r, _, f, ⟨u, us, e, h1, h2, h3⟩ => by
    simp only [D.flat.flatL, Bool.and_eq_true] at f
    exact ⟨u, us, e, h1, D.flat_rep d u f.1 h2, D.flat_repL r us f.2 h3⟩
theorem D.flat_repA : ∀ (ds : List D) (vs : List Value), D.flat.flatL ds = true → D.repA w F ds vs → D.repA w' F' ds vs
  | [], _, _, h => h
  | d :: r, _, f, ⟨u, us, e, h2, h3⟩ => by
    simp only [D.flat.flatL, Bool.and_eq_true] at f
    exact ⟨u, us, e, D.flat_rep d u f.1 h2, D.flat_repA r us f.2 h3⟩
end
end

/-- The cells of a datum. -/
def D.cells : D → List D
  | .agg cs => cs
  | .v (.agg a) => a.toList.map .v
  | d => [d]

theorem repL_v {w : World} {F : Nat → Prop} : ∀ vs : List Value, (∀ c ∈ vs, c.oneCell' = true) → D.repL w F (vs.map .v) vs
  | [], _ => rfl
  | u :: r, h => ⟨u, r, rfl, h u List.mem_cons_self, rfl, repL_v r (fun c hc => h c (List.mem_cons_of_mem _ hc))⟩
theorem zaW {w : World} {F : Nat → Prop} : ∀ {ds : List D} {vs : List Value}, D.repL w F ds vs → vs.length = ds.length
  | [], _, rfl => rfl
  | _ :: _, _, ⟨_, _, rfl, _, _, h⟩ => by simp [zaW h]
theorem repA_len {w : World} {F : Nat → Prop} : ∀ {ds : List D} {vs : List Value}, D.repA w F ds vs → vs.length = ds.length
  | [], _, rfl => rfl
  | _ :: _, _, ⟨_, _, rfl, _, h⟩ => by simp [repA_len h]
theorem repL_one {w : World} {F : Nat → Prop} : ∀ {ds : List D} {vs : List Value}, D.repL w F ds vs → ∀ c ∈ vs, c.oneCell' = true
  | [], _, rfl, _, hc => by cases hc
  | _ :: _, _, ⟨_, _, rfl, h1, _, h⟩, c, hc => by
    cases hc with
    | head => exact h1
    | tail _ hm => exact repL_one h c hm
theorem repL_get {w : World} {F : Nat → Prop} : ∀ {ds : List D} {vs : List Value}, D.repL w F ds vs → ∀ {j : Nat} {d : D}, ds[j]? = some d → ∃ u, vs[j]? = some u ∧ u.oneCell' = true ∧ D.rep w F d u
  | [], _, rfl, j, d, h => by simp at h
  | x :: r, _, ⟨u, us, rfl, h1, h2, h3⟩, j, d, h => by
    cases j with
    | zero => simp at h; subst h; exact ⟨u, by simp, h1, h2⟩
    | succ j => obtain ⟨u', e⟩ := repL_get h3 (j := j) (d := d) (by simpa using h); exact ⟨u', by simpa using e⟩
theorem zcB {w : World} {F : Nat → Prop} : ∀ {ds es : List D} {vs us : List Value}, D.repL w F ds vs → D.repL w F es us → D.repL w F (ds ++ es) (vs ++ us)
  | [], _, _, _, rfl, h => h
  | _ :: _, _, _, _, ⟨u, r, rfl, h1, h2, h3⟩, h => ⟨u, _, rfl, h1, h2, zcB h3 h⟩
theorem zcc {w : World} {F : Nat → Prop} : ∀ {ds : List D} {vs : List Value} (n : Nat), D.repL w F ds vs → D.repL w F (ds.take n) (vs.take n)
  | [], _, n, rfl => by simp; rfl
  | _ :: _, _, 0, _ => rfl
  | _ :: _, _, n + 1, ⟨u, us, rfl, h1, h2, h3⟩ => ⟨u, us.take n, rfl, h1, h2, zcc n h3⟩
theorem zcd {w : World} {F : Nat → Prop} : ∀ {ds : List D} {vs : List Value} (n : Nat), D.repL w F ds vs → D.repL w F (ds.drop n) (vs.drop n)
  | [], _, n, rfl => by simp; rfl
  | _ :: _, _, 0, h => h
  | _ :: _, _, n + 1, ⟨u, us, rfl, h1, h2, h3⟩ => zcd n h3

/-- The cells of a value read as the cells of its datum. -/
theorem D.rep_cells {w : World} {F : Nat → Prop} {d : D} {u : Value} (h : D.rep w F d u) (h1 : One u) : D.repL w F d.cells (vcs u) := by
  have single : ∀ {d : D} {u : Value}, u.cells = #[u] → One u → D.rep w F d u → D.repL w F [d] (vcs u) := by
    intro d u e h1 h
    refine ⟨u, [], by simp [vcs, e], h1 u (by simp [e]), h, rfl⟩
  cases d with
  | v a =>
    have h' : u = a := h
    subst h'
    cases u with
    | agg a => exact repL_v _ h1
    | _ => exact single rfl h1 rfl
  | agg cs => obtain ⟨vs, rfl, hl⟩ := h; simpa [vcs, Value.cells, D.cells] using hl
  | s b => have h0 := h; obtain ⟨rfl, _⟩ := h; exact single rfl h1 h0
  | ov b => exact single (zbW (by rw [h.1]; exact h.2)) h1 h
  | tup cs => have h0 := h; obtain ⟨_, rfl, _⟩ := h; exact single rfl h1 h0
  | ifc t x => have h0 := h; obtain ⟨_, rfl, _⟩ := h; exact single rfl h1 h0
  | fn f p q => have h0 := h; obtain ⟨_, _, rfl, _⟩ := h; exact single rfl h1 h0
  | sh z xs => have h0 := h; obtain ⟨_, _, rfl, _⟩ := h; exact single rfl h1 h0
  | el x o => have h0 := h; obtain ⟨_, _, _, rfl, _⟩ := h; exact single rfl h1 h0
  | shr z n xs => have h0 := h; obtain ⟨_, _, rfl, _⟩ := h; exact single rfl h1 h0
  | any => exact single (zbW h) h1 h

/-! ### Elements -/

/-- Values that read as elements of z cells. -/
def RepE (w : World) (F : Nat → Prop) (z : Nat) : List D → List Value → Prop
  | [], us => us = []
  | x :: r, us => ∃ u t, us = u :: t ∧ D.rep w F x u ∧ One u ∧ u.cells.size = z ∧ RepE w F z r t

section
variable {w w' : World} {F F' : Nat → Prop} {z : Nat}
theorem RepE.len : ∀ {xs : List D} {us : List Value}, RepE w F z xs us → us.length = xs.length
  | [], _, rfl => rfl
  | _ :: _, _, ⟨_, _, rfl, _, _, _, h⟩ => by simp [RepE.len h]
theorem RepE.size : ∀ {xs : List D} {us : List Value}, RepE w F z xs us → ∀ u ∈ us, (vcs u).length = z
  | [], _, rfl, _, hu => by cases hu
  | _ :: _, _, ⟨_, _, rfl, _, _, h, hr⟩, u, hu => by
    cases hu with
    | head => simpa [vcs] using h
    | tail _ hm => exact RepE.size hr u hm
theorem RepE.one : ∀ {xs : List D} {us : List Value}, RepE w F z xs us → ∀ u ∈ us, One u
  | [], _, rfl, _, hu => by cases hu
  | _ :: _, _, ⟨_, _, rfl, _, h, _, hr⟩, u, hu => by
    cases hu with
    | head => exact h
    | tail _ hm => exact RepE.one hr u hm
theorem RepE.keep (k : Keep w F w' F') : ∀ {xs : List D} {us : List Value}, RepE w F z xs us → RepE w' F' z xs us
  | [], _, h => h
  | _ :: _, _, ⟨u, t, e, h1, h2, h3, h4⟩ => ⟨u, t, e, D.keep k _ _ h1, h2, h3, RepE.keep k h4⟩
theorem RepE.flat : ∀ {xs : List D} {us : List Value}, D.flat.flatL xs = true → RepE w F z xs us → RepE w' F' z xs us
  | [], _, _, h => h
  | _ :: _, _, f, ⟨u, t, e, h1, h2, h3, h4⟩ => by
    simp only [D.flat.flatL, Bool.and_eq_true] at f
    exact ⟨u, t, e, D.flat_rep _ _ f.1 h1, h2, h3, RepE.flat f.2 h4⟩
theorem RepE.get : ∀ {xs : List D} {us : List Value}, RepE w F z xs us → ∀ {k : Nat} {x : D}, xs[k]? = some x → ∃ u, us[k]? = some u ∧ D.rep w F x u ∧ One u ∧ u.cells.size = z
  | [], _, rfl, _, _, h => by simp at h
  | _ :: _, _, ⟨u, t, rfl, h1, h2, h3, h4⟩, k, x, h => by
    cases k with
    | zero => simp at h; subst h; exact ⟨u, by simp, h1, h2, h3⟩
    | succ k => obtain ⟨u', e⟩ := RepE.get h4 (k := k) (x := x) (by simpa using h); exact ⟨u', by simpa using e⟩
theorem RepE.app : ∀ {xs ys : List D} {us vs : List Value}, RepE w F z xs us → RepE w F z ys vs → RepE w F z (xs ++ ys) (us ++ vs)
  | [], _, _, _, rfl, h => h
  | _ :: _, _, _, _, ⟨u, t, rfl, h1, h2, h3, h4⟩, h => ⟨u, _, rfl, h1, h2, h3, RepE.app h4 h⟩
theorem RepE.take : ∀ {xs : List D} {us : List Value} (n : Nat), RepE w F z xs us → RepE w F z (xs.take n) (us.take n)
  | [], _, n, rfl => by simp; rfl
  | _ :: _, _, 0, _ => rfl
  | _ :: _, _, n + 1, ⟨u, t, rfl, h1, h2, h3, h4⟩ => ⟨u, t.take n, rfl, h1, h2, h3, RepE.take n h4⟩
theorem RepE.drop : ∀ {xs : List D} {us : List Value} (n : Nat), RepE w F z xs us → RepE w F z (xs.drop n) (us.drop n)
  | [], _, n, rfl => by simp; rfl
  | _ :: _, _, 0, h => h
  | _ :: _, _, n + 1, ⟨u, t, rfl, h1, h2, h3, h4⟩ => RepE.drop n h4
theorem RepE.set : ∀ {xs : List D} {us : List Value} (k : Nat) {x : D} {u : Value}, RepE w F z xs us → D.rep w F x u → One u → u.cells.size = z → RepE w F z (xs.set k x) (us.set k u)
  | [], _, k, _, _, rfl, _, _, _ => by simp; rfl
  | _ :: _, _, 0, _, u, ⟨_, t, rfl, _, _, _, h4⟩, a, b, c => ⟨u, t, rfl, a, b, c, h4⟩
  | _ :: _, _, k + 1, _, u, ⟨v, t, rfl, h1, h2, h3, h4⟩, a, b, c => ⟨v, _, rfl, h1, h2, h3, RepE.set k h4 a b c⟩
theorem RepE.rep (n : Nat) {x : D} {u : Value} (h1 : D.rep w F x u) (h2 : One u) (h3 : u.cells.size = z) : RepE w F z (List.replicate n x) (List.replicate n u) := by
  induction n with
  | zero => exact rfl
  | succ n ih => exact ⟨u, _, List.replicate_succ, h1, h2, h3, ih⟩

theorem repC_els {b : Nat} : ∀ {xs : List D} {o : Nat}, D.repC w F z b xs o → ∃ us, RepE w F z xs us ∧ ∀ i u, us[i]? = some u → At w b (o + i * z) (vcs u)
  | [], _, _ => ⟨[], rfl, by simp⟩
  | x :: r, o, ⟨⟨u, h1, h2, h3, h4⟩, h5⟩ => by
    obtain ⟨us, e1, e2⟩ := repC_els h5
    refine ⟨u :: us, ⟨u, us, rfl, h1, h2, h3, e1⟩, fun i v hv => ?_⟩
    cases i with
    | zero => simp at hv; subst hv; simpa using h4
    | succ i => have := e2 i v (by simpa using hv); rw [show o + (i + 1) * z = o + z + i * z by rw [Nat.add_mul]; omega]; exact this
theorem els_repC {b : Nat} : ∀ {xs : List D} {us : List Value} {o : Nat}, RepE w F z xs us → (∀ i u, us[i]? = some u → At w b (o + i * z) (vcs u)) → D.repC w F z b xs o
  | [], _, _, _, _ => trivial
  | x :: r, _, o, ⟨u, t, rfl, h1, h2, h3, h4⟩, h => by
    refine ⟨⟨u, h1, h2, h3, by simpa using h 0 u (by simp)⟩, els_repC h4 (fun i v hv => ?_)⟩
    have := h (i + 1) v (by simpa using hv)
    rw [show o + z + i * z = o + (i + 1) * z by rw [Nat.add_mul]; omega]; exact this

/-- A shared slice as the elder engine's slice. -/
theorem D.rep_sl {xs : List D} {a : Value} (hF : ∀ b, F b → b < w.heap.size) (h : D.rep w F (.sh z xs) a) : ∃ us, RepE w F z xs us ∧ SlT vcs z w 0 w.heap.size a us ∧ (xs ≠ [] → ∃ b o c, a = .slice (some ⟨b, o, none⟩) xs.length c ∧ F b) ∧ xs.length ≤ maxLen := by
  obtain ⟨A, c, rfl, h1, h2, h3⟩ := h
  cases xs with
  | nil => exact ⟨[], rfl, ⟨A, c, rfl, by simp, by simp, by simp, Nat.le_refl _⟩, by simp, by simp⟩
  | cons x r =>
    obtain ⟨b, o, rfl, hb, hc⟩ := h3 (by simp)
    obtain ⟨us, e1, e2⟩ := repC_els hc
    have hl := e1.len
    refine ⟨us, e1, ⟨_, c, by rw [List.length_map, hl], by rw [List.length_map, hl]; exact h1, ?_, fun _ => ⟨b, o, rfl, Nat.zero_le _, hF b hb, fun i y hy => ?_⟩, Nat.le_refl _⟩, fun _ => ⟨b, o, c, rfl, hb⟩, h2⟩
    · intro y hy; obtain ⟨u, hu, rfl⟩ := List.mem_map.1 hy; exact e1.size u hu
    · rw [List.getElem?_map] at hy
      obtain ⟨u, hu, rfl⟩ := Option.map_eq_some_iff.1 hy
      exact e2 i u hu
theorem D.sl_rep {xs : List D} {us : List Value} {a : Value} {lo hi : Nat} (hr : RepE w F z xs us) (h : SlT vcs z w lo hi a us) (hb : xs ≠ [] → ∀ g, a.ownBlock = some g → F g) (hm : us.length ≤ maxLen) : D.rep w F (.sh z xs) a := by
  obtain ⟨A, c, rfl, h2, h3, h4, _⟩ := h
  have hl := hr.len
  refine ⟨A, c, by rw [List.length_map, hl], by rw [List.length_map, hl] at h2; exact h2, by omega, fun hn => ?_⟩
  obtain ⟨b, o, rfl, e2, e3, e4⟩ := h4 (by intro e; simp at e; subst e; simp at hl; exact hn (List.eq_nil_of_length_eq_zero hl.symm))
  refine ⟨b, o, rfl, hb hn b rfl, els_repC hr (fun i u hu => e4 i (vcs u) (by rw [List.getElem?_map, hu]; rfl))⟩
end

/-! ### What the call owns -/

inductive Hp where
  /-- a row of the call's own: a slice of the whole of it, elements of z cells -/
  | sl (v : Value) (z : Nat) (T : TypeId) (xs : List D)
  /-- a block that holds one datum -/
  | bx (g : Nat) (T : TypeId) (x : D)
  /-- a row that grows: what it was ahead (v0, m elements) reads as it did, in the same block or in another one -/
  | sl2 (v0 v : Value) (z : Nat) (T : TypeId) (m : Nat) (xs : List D)
  /-- the tail of a row of the call's own, as a slice: what stands ahead of it nobody reads -/
  | slo (u : Value) (z : Nat) (T : TypeId) (xs : List D)
  /-- an iterator over a string -/
  | it (g : Nat) (s : ByteArray) (p : Nat)
  /-- what a block of all holds (a table of the program's) -/
  | tab (g : Nat) (cs : Array Value)
  /-- a map of the call's own, with texts as keys: the keys and what stands under them, as they were stored -/
  | mp (g : Nat) (ks : List ByteArray) (xs : List D)

/-- a tail: where it lies, if it has room at all -/
def TlB (u : Value) (b : Nat) : Prop := ∃ A n c, u = .slice (some A) n c ∧ 0 < c ∧ A.block = b
def TlOk (w : World) (z : Nat) (T : TypeId) (u : Value) (us : List Value) : Prop :=
  ∃ A c, u = .slice A us.length c ∧ us.length ≤ c ∧ (c = 0 ∨ ∃ g p, A = some ⟨g, List.length p * z, none⟩ ∧ Own vcs z T w 0 (.slice (some ⟨g, 0, none⟩) (p.length + us.length) (p.length + c)) (p ++ us))
/-- its blocks -/
def Hp.blk : Hp → Nat → Prop
  | .sl v _ _ _ => fun b => v.ownBlock = some b
  | .bx g _ _ => fun b => g = b
  | .it g _ _ => fun b => g = b
  | .tab _ _ => fun _ => False
  | .mp g _ _ => fun b => g = b
  | .slo u _ _ _ => TlB u
  | .sl2 v0 v _ _ _ _ => fun b => v0.ownBlock = some b ∨ v.ownBlock = some b

def Hp.ok (w : World) (F : Nat → Prop) : Hp → Prop
  | .sl v z T xs => ∃ us, RepE w F z xs us ∧ Own vcs z T w 0 v us
  | .bx g T x => ∃ u, D.rep w F x u ∧ One u ∧ w.heap[g]? = some (.cells u.cells T (0, 0))
  | .it g s p => w.heap[g]? = some (.stringIter s p)
  | .tab g cs => F g ∧ ∃ T fr, w.heap[g]? = some (.cells cs T fr)
  | .mp g ks xs => ∃ es clock us, w.heap[g]? = some (.map es clock) ∧ es.toList.map (·.key) = ks.map Value.string ∧ es.toList.map (·.val) = us ∧ D.repA w F xs us
  | .slo u z T xs => ∃ us, RepE w F z xs us ∧ TlOk w z T u us
  | .sl2 v0 v z T m xs => ∃ us, RepE w F z xs us ∧ Own vcs z T w 0 v us ∧ Own vcs z T w 0 v0 (us.take m) ∧ m ≤ xs.length

theorem Hp.lt {w : World} {F : Nat → Prop} {h : Hp} (ok : h.ok w F) {g : Nat} (hg : h.blk g) : g < w.heap.size := by
  cases h with
  | sl v z T xs => obtain ⟨us, _, ho⟩ := ok; exact (ho.lt hg).2
  | sl2 v0 v z T m xs =>
    obtain ⟨us, _, ho, ho0, _⟩ := ok
    rcases hg with hg | hg
    · exact (ho0.lt hg).2
    · exact (ho.lt hg).2
  | bx g' T x => obtain ⟨u, _, _, hh⟩ := ok; cases hg; exact (Array.getElem?_eq_some_iff.1 hh).1
  | it g' s p => cases hg; exact (Array.getElem?_eq_some_iff.1 ok).1
  | tab g' cs => exact hg.elim
  | mp g' ks xs => obtain ⟨es, c, us, h, _⟩ := ok; cases hg; exact (Array.getElem?_eq_some_iff.1 h).1
  | slo u z T xs =>
    obtain ⟨us, _, A, c, e, _, h⟩ := ok
    obtain ⟨A', n, c', e', hc, hb⟩ := hg
    rw [e] at e'; injection e' with e1 _ e2
    rcases h with h | ⟨g0, p, eA, ho⟩
    · omega
    · rw [eA] at e1; injection e1 with e1; subst e1; subst hb; exact (ho.lt rfl).2

theorem Hp.keep {w w' : World} {F F' : Nat → Prop} {h : Hp} (ok : h.ok w F) (k : Keep w F w' F') (hs : ∀ g, h.blk g → w'.heap[g]? = w.heap[g]?) : h.ok w' F' := by
  cases h with
  | sl v z T xs =>
    obtain ⟨us, hr, ho⟩ := ok
    refine ⟨us, hr.keep k, ⟨⟨ho.1.1, ?_⟩, ho.2⟩⟩
    rcases ho.1.2 with hn | ⟨g, cap, cur, rfl, hb, hgg, rest⟩
    · exact .inl hn
    · exact .inr ⟨g, cap, cur, rfl, hb, by rw [hs g rfl]; exact hgg, rest⟩
  | bx g T x => obtain ⟨u, hr, h1, hh⟩ := ok; exact ⟨u, D.keep k _ _ hr, h1, by rw [hs g rfl]; exact hh⟩
  | sl2 v0 v z T m xs =>
    obtain ⟨us, hr, ho, ho0, hm⟩ := ok
    refine ⟨us, hr.keep k, ⟨⟨ho.1.1, ?_⟩, ho.2⟩, ⟨⟨ho0.1.1, ?_⟩, ho0.2⟩, hm⟩
    · rcases ho.1.2 with hn | ⟨g, cap, cur, rfl, hb, hgg, rest⟩
      · exact .inl hn
      · exact .inr ⟨g, cap, cur, rfl, hb, by rw [hs g (.inr rfl)]; exact hgg, rest⟩
    · rcases ho0.1.2 with hn | ⟨g, cap, cur, rfl, hb, hgg, rest⟩
      · exact .inl hn
      · exact .inr ⟨g, cap, cur, rfl, hb, by rw [hs g (.inl rfl)]; exact hgg, rest⟩
  | it g s p => show w'.heap[g]? = _; rw [hs g rfl]; exact ok
  | tab g cs => obtain ⟨hF, T, fr, h⟩ := ok; exact ⟨k.sub g hF, T, fr, by rw [k.same g hF (Array.getElem?_eq_some_iff.1 h).1]; exact h⟩
  | mp g ks xs => obtain ⟨es, c, us, h, h1, h2, h3⟩ := ok; exact ⟨es, c, us, by rw [hs g rfl]; exact h, h1, h2, D.keepA k _ _ h3⟩
  | slo u z T xs =>
    obtain ⟨us, hr, A, c, e, hle, h⟩ := ok
    refine ⟨us, hr.keep k, A, c, e, hle, ?_⟩
    rcases h with h | ⟨g0, p, eA, ho⟩
    · exact .inl h
    · rcases Nat.eq_zero_or_pos c with h0 | h0
      · exact .inl h0
      · refine .inr ⟨g0, p, eA, ⟨⟨ho.1.1, ?_⟩, ho.2⟩⟩
        rcases ho.1.2 with ⟨hn, _⟩ | ⟨g, cap, cur, e1, hb, hgg, rest⟩
        · cases hn
        · have : g0 = g := by injection e1 with e1 _ _; injection e1 with e1; injection e1
          subst this
          exact .inr ⟨g0, cap, cur, e1, hb, by rw [hs g0 ⟨_, _, _, by rw [e, eA], h0, rfl⟩]; exact hgg, rest⟩

/-- The blocks of some. -/
def blks (H : List Hp) (g : Nat) : Prop := ∃ h ∈ H, h.blk g

def zcq (h h' : Hp) : Prop := ∀ g, h.blk g → ¬ h'.blk g

structure HOk (w : World) (F A : Nat → Prop) (H : List Hp) : Prop where
  apart : H.Pairwise zcq
  ok : ∀ h ∈ H, h.ok w F
  mine : ∀ g, blks H g → A g ∧ ¬ F g

/-- A call as it began: the world, the blocks that it may write, those that nobody writes. -/
structure Ctx where
  w0 : World
  Bor : Nat → Prop
  F0 : Nat → Prop

structure Good (C : Ctx) (H : List Hp) (w : World) (F : Nat → Prop) : Prop where
  size : C.w0.heap.size ≤ w.heap.size
  os : w.os = C.w0.os
  tape : w.tape = C.w0.tape
  output : w.output = C.w0.output
  frame : ∀ b, b < C.w0.heap.size → ¬ C.Bor b → w.heap[b]? = C.w0.heap[b]?
  fsub : ∀ b, C.F0 b → F b
  fnew : ∀ b, F b → C.F0 b ∨ C.w0.heap.size ≤ b ∨ C.Bor b
  flt : ∀ b, F b → b < w.heap.size
  h : HOk w F (fun g => C.w0.heap.size ≤ g ∨ C.Bor g) H

theorem Good.sub {C : Ctx} {H H' : List Hp} {w : World} {F : Nat → Prop} (g : Good C H w F) (hs : H'.Sublist H) : Good C H' w F :=
  { g with h := ⟨g.h.apart.sublist hs, fun h hh => g.h.ok h (hs.subset hh), fun b ⟨h, hh, e⟩ => g.h.mine b ⟨h, hs.subset hh, e⟩⟩ }

/-- The world has only grown: no block that was there has turned. -/
theorem Good.ext {C : Ctx} {H : List Hp} {w w' : World} {F : Nat → Prop} (g : Good C H w F) (E : Ext w w') : Good C H w' F where
  size := Nat.le_trans g.size E.size
  os := E.os.trans g.os
  tape := E.tape.trans g.tape
  output := E.output.trans g.output
  frame := fun b hb hn => (E.block b (Nat.lt_of_lt_of_le hb g.size) (.inr (Nat.zero_le _))).trans (g.frame b hb hn)
  fsub := g.fsub
  fnew := g.fnew
  flt := fun b hb => Nat.lt_of_lt_of_le (g.flt b hb) E.size
  h := ⟨g.h.apart, fun h hh => Hp.keep (g.h.ok h hh) ⟨fun _ h => h, fun b _ hb => E.block b hb (.inr (Nat.zero_le _))⟩ (fun b hb => E.block b (Hp.lt (g.h.ok h hh) hb) (.inr (Nat.zero_le _))), g.h.mine⟩

theorem Keep.ext {w w' : World} {F : Nat → Prop} (E : Ext w w') : Keep w F w' F := ⟨fun _ h => h, fun b _ hb => E.block b hb (.inr (Nat.zero_le _))⟩
theorem Keep.trans {w w' w'' : World} {F F' F'' : Nat → Prop} (k : Keep w F w' F') (k' : Keep w' F' w'' F'') (hF : ∀ b, F b → b < w.heap.size) (hs : w.heap.size ≤ w'.heap.size) : Keep w F w'' F'' :=
  ⟨fun b h => k'.sub b (k.sub b h), fun b h hb => (k'.same b (k.sub b h) (Nat.lt_of_lt_of_le (hF b h) hs)).trans (k.same b h hb)⟩

end Lp
