/-
  THE RULES OF THE OPERATIONS OVER DATA: those that turn nothing.
-/
import Derived.Test.YtoanlikkhjohpaaDoorDB
set_option linter.unusedVariables false
namespace Lp
open Go Go.RowKit

/-! ### operands as the elder engine knows them -/
def lkO (ρ : Env) : List Operand → Kn
  | [] => []
  | .tmp t :: r => (t, ρ t) :: lkO ρ r
  | _ :: r => lkO ρ r
theorem look_lkO (ρ : Env) : ∀ (xs : List Operand) (t : Nat), .tmp t ∈ xs → look (lkO ρ xs) t = some (ρ t)
  | [], t, h => by cases h
  | x :: r, t, h => by
    have tl : .tmp t ∈ r → look (lkO ρ r) t = some (ρ t) := look_lkO ρ r t
    cases x with
    | tmp s =>
      simp only [lkO, look]
      by_cases e : t = s
      · subst e; rw [show Nat.beq t t = true from Nat.beq_refl t]; rfl
      · rw [zba e]; simp only [cond_false]
        refine tl ?_
        rcases List.mem_cons.1 h with h | h
        · injection h with h; exact absurd h e
        · exact h
    | const c => exact tl (by rcases List.mem_cons.1 h with h | h; (· cases h); exact h)
    | global c => exact tl (by rcases List.mem_cons.1 h with h | h; (· cases h); exact h)
    | func c => exact tl (by rcases List.mem_cons.1 h with h | h; (· cases h); exact h)
theorem zz (ρ : Env) : ∀ xs : List Operand, zU ρ (lkO ρ xs)
  | [], t, v, h => by simp [lkO, look] at h
  | x :: r, t, v, h => by
    cases x with
    | tmp s =>
      simp only [lkO, look] at h
      by_cases e : t = s
      · subst e
        rw [show Nat.beq t t = true from Nat.beq_refl t] at h
        simp only [cond_true, Option.some.injEq] at h; exact h
      · rw [zba e] at h; simp only [cond_false] at h; exact zz ρ r t v h
    | const c => exact zz ρ r t v h
    | global c => exact zz ρ r t v h
    | func c => exact zz ρ r t v h
theorem opv_lkO (ρ : Env) {xs : List Operand} {x : Operand} (h : x ∈ xs) : opv (lkO ρ xs) x = some (ev ρ x) := by
  cases x with
  | tmp t => exact look_lkO ρ xs t h
  | const c => rfl
  | global c => rfl
  | func c => rfl
theorem opv1 (ρ : Env) {x : Operand} {u : Value} (h : ev ρ x = u) : opv (lkO ρ [x]) x = some u := by rw [opv_lkO ρ List.mem_cons_self, h]
theorem zaI (ρ : Env) {x y : Operand} {u : Value} (h : ev ρ x = u) : opv (lkO ρ [x, y]) x = some u := by rw [opv_lkO ρ List.mem_cons_self, h]
theorem zaH (ρ : Env) {x y : Operand} {u : Value} (h : ev ρ y = u) : opv (lkO ρ [x, y]) y = some u := by rw [opv_lkO ρ (by simp), h]
theorem zbz (ρ : Env) (ys : List Operand) : ∀ xs : List Operand, (∀ x ∈ xs, x ∈ ys) → opvs (lkO ρ ys) xs = some (xs.map (ev ρ))
  | [], _ => rfl
  | x :: r, h => by
    unfold opvs
    rw [opv_lkO ρ (h x List.mem_cons_self), zbz ρ ys r (fun y hy => h y (List.mem_cons_of_mem _ hy))]; rfl

/-- The text of a datum. -/
def zct : D → Option ByteArray
  | .s b => some b
  | .v (.string b) => some b
  | _ => none
theorem asStr_rep {w : World} {F : Nat → Prop} {d : D} {u : Value} {b : ByteArray} (h : D.rep w F d u) (e : zct d = some b) : u = .string b := by
  cases d with
  | s c => simp only [zct, Option.some.injEq] at e; subst e; exact h.1
  | v a =>
    have h : u = a := h
    subst h
    cases u <;> simp [zct] at e
    subst e; rfl
  | _ => simp [zct] at e
def opS (K : Kd) (x : Operand) : Option ByteArray := match opD K x with
  | some d => zct d
  | none => none
theorem KOk.opS {w : World} {F : Nat → Prop} {ρ : Env} {K : Kd} (h : KOk w F ρ K) {x : Operand} {b : ByteArray} (hx : opS K x = some b) : ev ρ x = .string b := by
  unfold Lp.opS at hx
  cases hd : opD K x with
  | none => rw [hd] at hx; cases hx
  | some d => rw [hd] at hx; exact asStr_rep (h.op hd) hx

/-- The value of a datum that is known outright. -/
def asO : D → Option Value
  | .ov v => some v
  | .v v => some v
  | _ => none
theorem asO_rep {w : World} {F : Nat → Prop} {d : D} {u v : Value} (h : D.rep w F d u) (e : asO d = some v) : u = v := by
  cases d with
  | ov c => simp only [asO, Option.some.injEq] at e; subst e; exact h.1
  | v c => simp only [asO, Option.some.injEq] at e; subst e; exact h
  | _ => simp [asO] at e
def opO (K : Kd) (x : Operand) : Option Value := match opD K x with
  | some d => asO d
  | none => none
theorem KOk.opO {w : World} {F : Nat → Prop} {ρ : Env} {K : Kd} (h : KOk w F ρ K) {x : Operand} {v : Value} (hx : opO K x = some v) : ev ρ x = v := by
  unfold Lp.opO at hx
  cases hd : opD K x with
  | none => rw [hd] at hx; cases hx
  | some d => rw [hd] at hx; exact asO_rep (h.op hd) hx

theorem zV {α β : Type} {f : α → β} {l : List α} {k : Nat} {x : α} (h : l[k]? = some x) : (l.map f)[k]? = some (f x) := by rw [List.getElem?_map, h]; rfl

section pure
variable {P : Program} {ty : TypeId} {K : Kd} {H : List Hp}

theorem zb {x : Operand} {d : D} (hx : opD K x = some d) : Pu P (.move x) ty K H d :=
  ⟨fun ρ w F hk _ _ => e_move (zz ρ [x]) (opv1 ρ rfl) ⟨rfl, hk.op hx⟩⟩
theorem zd {x : Operand} {d : D} (hx : opD K x = some d) : Pu P (.assign x) ty K H d :=
  ⟨fun ρ w F hk _ _ => e_assign (zz ρ [x]) (opv1 ρ rfl) ⟨rfl, hk.op hx⟩⟩
theorem Pu.cv {op : Op} {d d' : D} (h : Pu P op ty K H d) (c : Cv d d') : Pu P op ty K H d' :=
  ⟨fun ρ w F hk hF hH => (h.out ρ w F hk hF hH).mono fun _ _ ⟨e, hr⟩ => by subst e; exact ⟨rfl, c.out _ _ _ hr⟩⟩
theorem zl {c x y : Operand} {d : D} (hc : opD K c = some (.v (.bool true))) (hx : opD K x = some d) : Pu P (.pick c x y) ty K H d :=
  ⟨fun ρ w F hk _ _ => e_pick_t (zz ρ [c, x]) (zaI ρ (hk.op hc)) (zaH ρ rfl) ⟨rfl, hk.op hx⟩⟩
theorem zm {c x y : Operand} {d : D} (hc : opD K c = some (.v (.bool false))) (hx : opD K y = some d) : Pu P (.pick c x y) ty K H d :=
  ⟨fun ρ w F hk _ _ => e_pick_f (zz ρ [c, y]) (zaI ρ (hk.op hc)) (zaH ρ rfl) ⟨rfl, hk.op hx⟩⟩

theorem z6 {x : Operand} {a : Addr} (hx : opD K x = some (.v (.pointer (some a)))) : Pu P (.nilCheck x) ty K H (.v (.pointer (some a))) :=
  ⟨fun ρ w F hk _ _ => e_nilCheck (zz ρ [x]) (opv1 ρ (hk.op hx)) ⟨rfl, rfl⟩⟩

theorem zN {s f : Nat} {x : Operand} {g o k o' : Nat} (hx : opD K x = some (.v (.pointer (some ⟨g, o, none⟩))))
    (hf : ∀ b o w, (Instr.fieldAt s (.pointer (some ⟨b, o, none⟩)) f).run P w = .ok (.pointer (some ⟨b, o + k, none⟩)) w) (ho : o + k = o') : Pu P (.fieldAddr s x f) ty K H (.v (.pointer (some ⟨g, o', none⟩))) :=
  ⟨fun ρ w F hk _ _ => e_fieldAddr (zz ρ [x]) (opv1 ρ (hk.op hx)) (hf g o) ⟨rfl, by subst ho; rfl⟩⟩
/-- A part of a datum's cells. -/
def partD (X : D) (o n : Nat) : D := .agg ((X.cells.drop o).take n)

theorem load_agg {t : TypeId} {x : Operand} {w : World} {F : Nat → Prop} {ρ : Env} {X : D} {u : Value} {b p o n : Nat} (he : ev ρ x = .pointer (some ⟨b, p + o, none⟩)) (hg : ∀ w, (isAgg t).run P w = .ok true w) (hs : ∀ w, (Go.sizeOf t).run P w = .ok n w)
    (hr : D.rep w F X u) (h1 : One u) (hat : At w b p (vcs u)) (hn : o + n ≤ X.cells.length) : EOp P (.load t x) ty ρ w (fun v w' => w' = w ∧ D.rep w F (partD X o n) v) := by
  have hl := D.rep_cells hr h1
  have hlen := zaF hl
  have hat' := hat.sub o n
  have hn' : (((vcs u).drop o).take n).length = n := by simp only [List.length_take, List.length_drop, hlen]; omega
  exact e_loadA (zz ρ [x]) (opv1 ρ he) hg (by rw [hn']; exact hs) hat' ⟨rfl, _, rfl, zbw n (zbx o hl)⟩
theorem load_one {t : TypeId} {x : Operand} {w : World} {F : Nat → Prop} {ρ : Env} {X d : D} {u : Value} {b p o : Nat} (he : ev ρ x = .pointer (some ⟨b, p + o, none⟩)) (hg : ∀ w, (isAgg t).run P w = .ok false w)
    (hr : D.rep w F X u) (h1 : One u) (hat : At w b p (vcs u)) (hd : nth X.cells o = some d) : EOp P (.load t x) ty ρ w (fun v w' => w' = w ∧ D.rep w F d v) := by
  rw [za4] at hd
  obtain ⟨v, e1, e2, e3⟩ := repL_get (D.rep_cells hr h1) hd
  exact e_load1 (zz ρ [x]) (opv1 ρ he) hg (hat.2 o v e1) ⟨rfl, e3⟩

theorem p_load_el1 {t : TypeId} {x : Operand} {X d : D} {o : Nat} (hx : opD K x = some (.el X o)) (hg : ∀ w, (isAgg t).run P w = .ok false w) (hd : nth X.cells o = some d) : Pu P (.load t x) ty K H d :=
  ⟨fun ρ w F hk _ _ => by
    obtain ⟨b, p, u, e, _, hr, h1, hat⟩ := hk.op hx
    exact load_one e hg hr h1 hat hd⟩

theorem zT {α : Type} {l : List α} {i : Nat} {x : α} (h : nth l i = some x) : x ∈ l := by rw [za4] at h; exact List.mem_of_getElem? h

theorem bx_at {w : World} {F : Nat → Prop} {g : Nat} {T : TypeId} {X : D} (h : (Hp.bx g T X).ok w F) : ∃ u, D.rep w F X u ∧ One u ∧ At w g 0 (vcs u) := by
  obtain ⟨u, h1, h2, h3⟩ := h
  refine ⟨u, h1, h2, (Array.getElem?_eq_some_iff.1 h3).1, fun j v hv => ?_⟩
  rw [cell_of_row w g (0 + j) _ T (0, 0) h3]; simpa [vcs] using hv
theorem p_load_bx {t : TypeId} {x : Operand} {g o n i : Nat} {T : TypeId} {X d : D} (hx : opD K x = some (.v (.pointer (some ⟨g, o, none⟩)))) (hm : nth H i = some (.bx g T X)) (hg : ∀ w, (isAgg t).run P w = .ok true w) (hs : ∀ w, (Go.sizeOf t).run P w = .ok n w) (hn : Nat.ble (o + n) X.cells.length = true) (hd : partD X o n = d) : Pu P (.load t x) ty K H d :=
  ⟨fun ρ w F hk _ hH => by
    obtain ⟨u, hr, h1, hat⟩ := bx_at (hH _ (zT hm))
    exact hd ▸ load_agg (p := 0) (by rw [Nat.zero_add]; exact hk.op hx) hg hs hr h1 hat (Nat.le_of_ble_eq_true hn)⟩
theorem zas {t : TypeId} {x : Operand} {g o i : Nat} {T : TypeId} {X d : D} (hx : opD K x = some (.v (.pointer (some ⟨g, o, none⟩)))) (hm : nth H i = some (.bx g T X)) (hg : ∀ w, (isAgg t).run P w = .ok false w) (hd : nth X.cells o = some d) : Pu P (.load t x) ty K H d :=
  ⟨fun ρ w F hk _ hH => by
    obtain ⟨u, hr, h1, hat⟩ := bx_at (hH _ (zT hm))
    exact load_one (p := 0) (by rw [Nat.zero_add]; exact hk.op hx) hg hr h1 hat hd⟩

/-- An element of a row of the call's own. -/
theorem sl_at {w : World} {F : Nat → Prop} {v : Value} {z : Nat} {T : TypeId} {xs : List D} {k : Nat} {X : D} (h : (Hp.sl v z T xs).ok w F) (hX : xs[k]? = some X) : ∃ u, D.rep w F X u ∧ One u ∧ At w (bl v) (k * z) (vcs u) ∧ ∃ n c, v = .slice (some ⟨bl v, 0, none⟩) n c ∧ k < n := by
  obtain ⟨us, hr, ho⟩ := h
  obtain ⟨u, h1, h2, h3, h4⟩ := hr.get hX
  have hlt : k < us.length := (List.getElem?_eq_some_iff.1 h1).1
  have hb := ho.block (by omega)
  have hat := ho.sl.at_ h1
  rw [hb.2.2.1, Nat.zero_add] at hat
  obtain ⟨cap, r, e, _⟩ := ho.form (by omega)
  exact ⟨u, h2, h3, hat, _, _, e, hlt⟩
theorem zaU {t : TypeId} {x : Operand} {v : Value} {z k o n i : Nat} {T : TypeId} {xs : List D} {X d : D} (hx : opD K x = some (.v (.pointer (some ⟨bl v, k * z + o, none⟩)))) (hm : nth H i = some (.sl v z T xs)) (hX : xs[k]? = some X) (hg : ∀ w, (isAgg t).run P w = .ok true w) (hs : ∀ w, (Go.sizeOf t).run P w = .ok n w) (hn : Nat.ble (o + n) X.cells.length = true) (hd : partD X o n = d) : Pu P (.load t x) ty K H d :=
  ⟨fun ρ w F hk _ hH => by
    obtain ⟨u, hr, h1, hat, _⟩ := sl_at (hH _ (zT hm)) hX
    exact hd ▸ load_agg (hk.op hx) hg hs hr h1 hat (Nat.le_of_ble_eq_true hn)⟩
theorem p_load_sl1 {t : TypeId} {x : Operand} {v : Value} {z k o i : Nat} {T : TypeId} {xs : List D} {X d : D} (hx : opD K x = some (.v (.pointer (some ⟨bl v, k * z + o, none⟩)))) (hm : nth H i = some (.sl v z T xs)) (hX : xs[k]? = some X) (hg : ∀ w, (isAgg t).run P w = .ok false w) (hd : nth X.cells o = some d) : Pu P (.load t x) ty K H d :=
  ⟨fun ρ w F hk _ hH => by
    obtain ⟨u, hr, h1, hat, _⟩ := sl_at (hH _ (zT hm)) hX
    exact load_one (hk.op hx) hg hr h1 hat hd⟩

theorem p_indexAddr {t e : TypeId} {z k : Nat} {x i : Operand} {xs : List D} {X : D} {kd : IntKind} {n : Int} (hx : opD K x = some (.sh z xs)) (hi : opD K i = some (.v (.int kd n))) (ht : ∀ w, (underlying t).run P w = .ok (.slice e) w) (hs : ∀ w, (Go.sizeOf e).run P w = .ok z w) (hn : n = (k : Int)) (hX : xs[k]? = some X) : Pu P (.indexAddr t x i) ty K H (.el X 0) :=
  ⟨fun ρ w F hk hF _ => by
    obtain ⟨us, hr, hsl, hb, _⟩ := D.rep_sl hF (hk.op hx)
    obtain ⟨u, h1, h2, h3, h4⟩ := hr.get hX
    have hlt : k < us.length := (List.getElem?_eq_some_iff.1 h1).1
    have hxs : xs ≠ [] := by intro e; rw [e] at hX; simp at hX
    obtain ⟨b, o, c, hv, hFb⟩ := hb hxs
    have hat := hsl.at_ h1
    refine e_indexAddr (k := k) (z := z) (zz ρ [x, i]) (zaI ρ rfl) (zaH ρ (hk.op hi)) ht hs (hsl.has hlt) hn ⟨rfl, b, o + k * z, u, ?_, hFb, h2, h3, ?_⟩
    · rw [hv]; rfl
    · rw [hv] at hat; exact hat⟩
theorem zO {t e : TypeId} {z k j : Nat} {x i : Operand} {v : Value} {T : TypeId} {xs : List D} {X : D} {kd : IntKind} {n : Int} (hx : opO K x = some v) (hm : nth H j = some (.sl v z T xs)) (hi : opD K i = some (.v (.int kd n))) (ht : ∀ w, (underlying t).run P w = .ok (.slice e) w) (hs : ∀ w, (Go.sizeOf e).run P w = .ok z w) (hn : n = (k : Int)) (hX : xs[k]? = some X) : Pu P (.indexAddr t x i) ty K H (.v (.pointer (some ⟨bl v, k * z + 0, none⟩))) :=
  ⟨fun ρ w F hk hF hH => by
    obtain ⟨u, _, _, _, m, c, hv, hlt⟩ := sl_at (hH _ (zT hm)) hX
    have he : ev ρ x = v := hk.opO hx
    refine e_indexAddr (k := k) (z := z) (zz ρ [x, i]) (zaI ρ he) (zaH ρ (hk.op hi)) ht hs ⟨bl v, 0, m, c, hv, hlt⟩ hn ⟨rfl, ?_⟩
    show Value.pointer _ = _
    rw [show of_ v = 0 by rw [hv]; rfl, Nat.zero_add, Nat.add_zero]⟩

theorem zW {t : TypeId} {x i : Operand} {b : ByteArray} {kd : IntKind} {n : Int} {k : Nat} {u : UInt8} (hx : opS K x = some b) (hi : opD K i = some (.v (.int kd n))) (ht : ∀ w, (underlying t).run P w = .ok .string w) (hn : n = (k : Int)) (hu : b[k]? = some u) : Pu P (.index t x i) ty K H (.v (.int .u8 u.toNat)) :=
  ⟨fun ρ w F hk _ _ => e_index_str (zz ρ [x, i]) (zaI ρ (hk.opS hx)) (zaH ρ (hk.op hi)) ht hn hu ⟨rfl, rfl⟩⟩

/-- A bound of a slicing: none, or a number. -/
def bndD (K : Kd) : Option Operand → Option (Option Int)
  | none => some none
  | some x => match opD K x with
    | some (.v (.int _ n)) => some (some n)
    | _ => none
theorem bndD_rep {w : World} {F : Nat → Prop} {ρ : Env} (hk : KOk w F ρ K) {x : Option Operand} {r : Option Int} (h : bndD K x = some r) : (r = none ∧ x.map (ev ρ) = none) ∨ ∃ n kd, r = some n ∧ x.map (ev ρ) = some (.int kd n) := by
  cases x with
  | none => simp only [bndD, Option.some.injEq] at h; subst h; exact .inl ⟨rfl, rfl⟩
  | some x =>
    simp only [bndD] at h
    split at h
    · rename_i kd n hd; injection h with h; subst h; exact .inr ⟨n, kd, rfl, by have he : ev ρ x = _ := hk.op hd; simp [he]⟩
    · cases h
/-- .. reads as the number a (where it is none: as b). -/
def Bnd (r : Option Int) (b a : Nat) : Prop := match r with
  | none => b = a
  | some n => n = (a : Int)
theorem Bnd.out {r : Option Int} {b a : Nat} (h : Bnd r b a) {x : Option Value} (hx : (r = none ∧ x = none) ∨ ∃ n kd, r = some n ∧ x = some (.int kd n)) : (x = none ∧ b = a) ∨ (∃ kd, x = some (.int kd (a : Int))) := by
  rcases hx with ⟨rfl, rfl⟩ | ⟨n, kd, rfl, rfl⟩
  · exact .inl ⟨rfl, h⟩
  · exact .inr ⟨kd, by have h : n = _ := h; rw [h]⟩

theorem zR {t : TypeId} {a c : Nat} {x : Operand} {lo hi : Option Operand} {b : ByteArray} {rl rh : Option Int} (hx : opD K x = some (.s b)) (hlo : bndD K lo = some rl) (hhi : bndD K hi = some rh) (ha : Bnd rl 0 a) (hb : Bnd rh b.size c)
    (ht : ∀ w, (underlying t).run P w = .ok .string w) (hab : a ≤ c) (hbn : c ≤ b.size) : Pu P (.slice t x lo hi none) ty K H (.s (b.extract a c)) :=
  ⟨fun ρ w F hk hF _ => by
    have h := hk.op hx
    exact e_slice_str (zz ρ [x]) (opv1 ρ h.1) rfl rfl (ha.out (bndD_rep hk hlo)) (hb.out (bndD_rep hk hhi)) ht hab hbn ⟨rfl, rfl, Nat.le_trans (by rw [ByteArray.size_extract]; omega) h.2⟩⟩
/-! numbers -/
section
variable {t t' : TypeId} {x y : Operand} {k : IntKind} {a b c : Int}
theorem zbV (hx : opD K x = some (.v (.int k a))) (hy : opD K y = some (.v (.int k b))) (hw : k.wrap (a + b) = c) : Pu P (.binOp .add t x y t') ty K H (.v (.int k c)) :=
  ⟨fun ρ w F hk _ _ => e_add (zz ρ [x, y]) (zaI ρ (hk.op hx)) (zaH ρ (hk.op hy)) hw ⟨rfl, rfl⟩⟩
theorem p_sub (hx : opD K x = some (.v (.int k a))) (hy : opD K y = some (.v (.int k b))) (hw : k.wrap (a - b) = c) : Pu P (.binOp .sub t x y t') ty K H (.v (.int k c)) :=
  ⟨fun ρ w F hk _ _ => e_sub (zz ρ [x, y]) (zaI ρ (hk.op hx)) (zaH ρ (hk.op hy)) hw ⟨rfl, rfl⟩⟩
theorem p_mul (hx : opD K x = some (.v (.int k a))) (hy : opD K y = some (.v (.int k b))) (hw : k.wrap (a * b) = c) : Pu P (.binOp .mul t x y t') ty K H (.v (.int k c)) :=
  ⟨fun ρ w F hk _ _ => e_mul (zz ρ [x, y]) (zaI ρ (hk.op hx)) (zaH ρ (hk.op hy)) hw ⟨rfl, rfl⟩⟩
theorem zcs (hx : opD K x = some (.v (.int k a))) (hy : opD K y = some (.v (.int k b))) (hb : b ≠ 0) (hw : k.wrap (a.tdiv b) = c) : Pu P (.binOp .quo t x y t') ty K H (.v (.int k c)) :=
  ⟨fun ρ w F hk _ _ => e_quo (zz ρ [x, y]) (zaI ρ (hk.op hx)) (zaH ρ (hk.op hy)) hb hw ⟨rfl, rfl⟩⟩
theorem p_rem (hx : opD K x = some (.v (.int k a))) (hy : opD K y = some (.v (.int k b))) (hb : b ≠ 0) (hw : a.tmod b = c) : Pu P (.binOp .rem t x y t') ty K H (.v (.int k c)) :=
  ⟨fun ρ w F hk _ _ => e_rem (zz ρ [x, y]) (zaI ρ (hk.op hx)) (zaH ρ (hk.op hy)) hb hw ⟨rfl, rfl⟩⟩
theorem zaM {q : Bool} (hx : opD K x = some (.v (.int k a))) (hy : opD K y = some (.v (.int k b))) (hq : decide (a < b) = q) : Pu P (.binOp .lss t x y t') ty K H (.v (.bool q)) :=
  ⟨fun ρ w F hk _ _ => e_lss (zz ρ [x, y]) (zaI ρ (hk.op hx)) (zaH ρ (hk.op hy)) hq ⟨rfl, rfl⟩⟩
theorem za3 {q : Bool} (hx : opD K x = some (.v (.int k a))) (hy : opD K y = some (.v (.int k b))) (hq : decide (a ≤ b) = q) : Pu P (.binOp .leq t x y t') ty K H (.v (.bool q)) :=
  ⟨fun ρ w F hk _ _ => e_leq (zz ρ [x, y]) (zaI ρ (hk.op hx)) (zaH ρ (hk.op hy)) hq ⟨rfl, rfl⟩⟩
theorem zak {q : Bool} (hx : opD K x = some (.v (.int k a))) (hy : opD K y = some (.v (.int k b))) (hq : decide (b < a) = q) : Pu P (.binOp .gtr t x y t') ty K H (.v (.bool q)) :=
  ⟨fun ρ w F hk _ _ => e_gtr (zz ρ [x, y]) (zaI ρ (hk.op hx)) (zaH ρ (hk.op hy)) hq ⟨rfl, rfl⟩⟩
theorem z7 {q : Bool} (hx : opD K x = some (.v (.int k a))) (hy : opD K y = some (.v (.int k b))) (hq : decide (b ≤ a) = q) : Pu P (.binOp .geq t x y t') ty K H (.v (.bool q)) :=
  ⟨fun ρ w F hk _ _ => e_geq (zz ρ [x, y]) (zaI ρ (hk.op hx)) (zaH ρ (hk.op hy)) hq ⟨rfl, rfl⟩⟩
theorem zH {q : Bool} (hx : opD K x = some (.v (.int k a))) (hy : opD K y = some (.v (.int k b))) (hq : decide (a = b) = q) : Pu P (.binOp .eql t x y t') ty K H (.v (.bool q)) :=
  ⟨fun ρ w F hk _ _ => e_eql (zz ρ [x, y]) (zaI ρ (hk.op hx)) (zaH ρ (hk.op hy)) hq ⟨rfl, rfl⟩⟩
theorem zcp {q : Bool} (hx : opD K x = some (.v (.int k a))) (hy : opD K y = some (.v (.int k b))) (hq : decide (a ≠ b) = q) : Pu P (.binOp .neq t x y t') ty K H (.v (.bool q)) :=
  ⟨fun ρ w F hk _ _ => e_neq (zz ρ [x, y]) (zaI ρ (hk.op hx)) (zaH ρ (hk.op hy)) hq ⟨rfl, rfl⟩⟩
theorem zco {q : Bool} (hx : opD K x = some (.v (.bool q))) : Pu P (.unOp .not t x) ty K H (.v (.bool (!q))) :=
  ⟨fun ρ w F hk _ _ => e_not (zz ρ [x]) (opv1 ρ (hk.op hx)) ⟨rfl, rfl⟩⟩
/-- any operation on two values that are known outright -/
theorem zb6 {op : BinOp} {u v r : Value} (hx : opD K x = some (.v u)) (hy : opD K y = some (.v v)) (hr : ∀ w, (do eqGuard op t x y u v; binOp op t u v : Sem Value).run P w = .ok r w) : Pu P (.binOp op t x y t') ty K H (.v r) :=
  ⟨fun ρ w F hk _ _ => zbi (zz ρ [x, y]) (zaI ρ (hk.op hx)) (zaH ρ (hk.op hy)) hr ⟨rfl, rfl⟩⟩
theorem zat {t1 t2 : TypeId} (hx : opD K x = some (.v (.int k a))) {k' : IntKind} (hr : ∀ w, (convert t1 t2 (.int k a)).run P w = .ok (.int k' c) w) : Pu P (.convert t1 t2 x) ty K H (.v (.int k' c)) :=
  ⟨fun ρ w F hk _ _ => EOp.of_run (v := .int k' c) (w' := w) (by have := zbm (hr w); have he : ev ρ x = _ := hk.op hx; simpa [execOp, zaa, he] using this) ⟨rfl, rfl⟩⟩
end

/-! texts -/
section
variable {t t' : TypeId} {x y : Operand} {a b : ByteArray}
theorem za6 {q : Bool} (hx : opS K x = some a) (hy : opS K y = some b) (hq : decide (a = b) = q) : Pu P (.binOp .eql t x y t') ty K H (.v (.bool q)) :=
  ⟨fun ρ w F hk _ _ => e_eqs (zz ρ [x, y]) (zaI ρ (hk.opS hx)) (zaH ρ (hk.opS hy)) hq ⟨rfl, rfl⟩⟩
theorem p_nes {q : Bool} (hx : opS K x = some a) (hy : opS K y = some b) (hq : decide (a ≠ b) = q) : Pu P (.binOp .neq t x y t') ty K H (.v (.bool q)) :=
  ⟨fun ρ w F hk _ _ => e_nes (zz ρ [x, y]) (zaI ρ (hk.opS hx)) (zaH ρ (hk.opS hy)) hq ⟨rfl, rfl⟩⟩
theorem zbM (hx : opS K x = some a) (hy : opS K y = some b) (hs : a.size + b.size ≤ maxLen) : Pu P (.binOp .add t x y t') ty K H (.s (a ++ b)) :=
  ⟨fun ρ w F hk _ _ => zbi (r := .string (a ++ b)) (zz ρ [x, y]) (zaI ρ (hk.opS hx)) (zaH ρ (hk.opS hy)) (fun w => by
    have : ¬ ((a.size + b.size : Nat) : Int) > IntKind.i64.max := by unfold maxLen at hs; simp [IntKind.max, IntKind.bits, IntKind.signed]; omega
    simp only [eqGuard, binOp, Op.stringOp]
    rw [if_neg this]; simp [go_sem]) ⟨rfl, rfl, by rw [ByteArray.size_append]; exact hs⟩⟩
theorem zG (hx : opS K x = some a) (ht : ∀ w, (underlying t).run P w = .ok .string w) : Pu P (.call { callee := .builtin .len, args := #[x], argTypes := #[t] }) ty K H (.v (.int .i64 a.size)) :=
  ⟨fun ρ w F hk _ _ => e_len_str (zz ρ [x]) (opv1 ρ (hk.opS hx)) ht ⟨rfl, rfl⟩⟩
end
theorem p_len {t e : TypeId} {x : Operand} {z n : Nat} {xs : List D} (hx : opD K x = some (.sh z xs)) (ht : ∀ w, (underlying t).run P w = .ok (.slice e) w) (hn : xs.length = n) : Pu P (.call { callee := .builtin .len, args := #[x], argTypes := #[t] }) ty K H (.v (.int .i64 (n : Int))) :=
  ⟨fun ρ w F hk _ _ => by
    obtain ⟨A, c, h, _⟩ := hk.op hx
    exact e_len (n := n) (zz ρ [x]) (opv1 ρ h) ht (by subst hn; exact ⟨A, c, rfl⟩) ⟨rfl, rfl⟩⟩
theorem zan {t e : TypeId} {x : Operand} {z n j : Nat} {v : Value} {T : TypeId} {xs : List D} (hx : opO K x = some v) (hm : nth H j = some (.sl v z T xs)) (ht : ∀ w, (underlying t).run P w = .ok (.slice e) w) (hn : xs.length = n) : Pu P (.call { callee := .builtin .len, args := #[x], argTypes := #[t] }) ty K H (.v (.int .i64 (n : Int))) :=
  ⟨fun ρ w F hk _ hH => by
    obtain ⟨us, hr, ho⟩ := hH _ (zT hm)
    exact e_len (n := n) (zz ρ [x]) (opv1 ρ (hk.opO hx)) ht (by have := ho.len; rw [hr.len, hn] at this; exact this) ⟨rfl, rfl⟩⟩
theorem repA_get {w : World} {F : Nat → Prop} : ∀ {ds : List D} {vs : List Value}, D.repA w F ds vs → ∀ {j : Nat} {d : D}, ds[j]? = some d → ∃ u, vs[j]? = some u ∧ D.rep w F d u
  | [], _, rfl, j, d, h => by simp at h
  | x :: r, _, ⟨u, us, rfl, h2, h3⟩, j, d, h => by
    cases j with
    | zero => simp at h; subst h; exact ⟨u, by simp, h2⟩
    | succ j => obtain ⟨u', e⟩ := repA_get h3 (j := j) (d := d) (by simpa using h); exact ⟨u', by simpa using e⟩
theorem zC {x : Operand} {i : Nat} {ds : List D} {d : D} (hx : opD K x = some (.tup ds)) (hd : nth ds i = some d) : Pu P (.extract x i) ty K H d :=
  ⟨fun ρ w F hk _ _ => by
    obtain ⟨vs, e, hl⟩ := hk.op hx
    rw [za4] at hd
    obtain ⟨u, e1, e2⟩ := repA_get hl hd
    exact e_extract (zz ρ [x]) (opv1 ρ e) (by simpa using e1) ⟨rfl, e2⟩⟩
/-! aggregates that are built -/
def zb1 {α : Type} (cs : List α) (o : Nat) (vs : List α) : List α := cs.take o ++ vs ++ cs.drop (o + vs.length)
def zbO {α : Type} (places : List (Nat × Nat)) (cs : List α) : List (Nat × List α) → Option (List α)
  | [] => some cs
  | (i, c) :: r => match nth places i with
    | none => none
    | some (o, n) => bif Nat.beq c.length n && Nat.ble (o + c.length) cs.length then zbO places (zb1 cs o c) r else none
theorem splice_fold : ∀ (vs : List Value) (cs : Array Value) (o j : Nat), o + j + vs.length ≤ cs.size →
    ((vs.zipIdx j).foldl (fun cs (c, i) => cs.setIfInBounds (o + i) c) cs).toList = spl cs.toList (o + j) vs
  | [], cs, o, j, _ => by simp [spl]
  | v :: r, cs, o, j, h => by
    rw [List.zipIdx_cons, List.foldl_cons]
    have ih := splice_fold r (cs.setIfInBounds (o + j) v) o (j + 1) (by simp at h ⊢; omega)
    rw [ih]
    have : (cs.setIfInBounds (o + j) v).toList = spl cs.toList (o + j) [v] := by
      rw [Array.toList_setIfInBounds]
      apply List.ext_getElem?
      intro i
      rw [zb5 _ _ _ (by simp at h ⊢; omega), List.getElem?_set]
      by_cases e : o + j = i
      · subst e; simp at h ⊢; omega
      · rw [if_neg e, if_neg (by simp; omega)]
    rw [this, show o + (j + 1) = o + j + 1 by omega, spl_cons _ _ _ _ (by simpa using h)]
theorem fill_fillL (place : Nat → Option (Nat × Nat)) (pl : List (Nat × Nat)) (hp : ∀ i, place i = pl[i]?) : ∀ (ps : List (Nat × Value)) (cs : Array Value) (r : List Value), zbO pl cs.toList (ps.map fun p => (p.1, vcs p.2)) = some r → Instr.fill place cs ps = some r.toArray
  | [], cs, r, h => by simp [zbO] at h; subst h; simp [Instr.fill]
  | (i, v) :: rest, cs, r, h => by
    simp only [List.map_cons, zbO, za4] at h
    simp only [Instr.fill, hp i]
    cases hpl : pl[i]? with
    | none => rw [hpl] at h; cases h
    | some x =>
      obtain ⟨o, n⟩ := x
      rw [hpl] at h
      simp only at h ⊢
      cases hc : (Nat.beq (vcs v).length n && Nat.ble (o + (vcs v).length) cs.toList.length) with
      | false => rw [hc] at h; cases h
      | true =>
        rw [hc] at h
        simp only [cond_true] at h
        rw [Bool.and_eq_true] at hc
        have h1 := Nat.eq_of_beq_eq_true hc.1
        have h2 := Nat.le_of_ble_eq_true hc.2
        simp only [vcs, Array.length_toList] at h1 h2
        rw [if_neg (by simp; omega)]
        refine fill_fillL place pl hp rest _ r ?_
        have := splice_fold (vcs v) cs o 0 (by simp [vcs]; omega)
        rw [← h, ← Array.foldl_toList, Array.toList_zipIdx]
        congr 1
theorem fillL_rep {w : World} {F : Nat → Prop} {pl : List (Nat × Nat)} : ∀ (is : List Nat) (ds : List (List D)) (cs : List D) (r : List D) (us : List (List Value)) (vs : List Value), D.repL w F cs vs → ds.length = us.length → (∀ (i : Nat) (d : List D) (u : List Value), ds[i]? = some d → us[i]? = some u → D.repL w F d u) → zbO pl cs (is.zip ds) = some r → ∃ r', zbO pl vs (is.zip us) = some r' ∧ D.repL w F r r'
  | [], ds, cs, r, us, vs, hr, _, _, h => by simp [zbO] at h; subst h; exact ⟨vs, by simp [zbO], hr⟩
  | i :: is, [], cs, r, us, vs, hr, hl, _, h => by
    have : us = [] := List.eq_nil_of_length_eq_zero (by simpa using hl.symm)
    subst this
    simp [zbO] at h; subst h; exact ⟨vs, by simp [zbO], hr⟩
  | i :: is, d :: ds, cs, r, [], vs, hr, hl, _, h => by simp at hl
  | i :: is, d :: ds, cs, r, u :: us, vs, hr, hl, hd, h => by
    simp only [List.zip_cons_cons, zbO] at h ⊢
    have hdu := hd 0 d u (by simp) (by simp)
    have hdl := zaF hdu
    have hcl := zaF hr
    cases hp : nth pl i with
    | none => rw [hp] at h; cases h
    | some x =>
      obtain ⟨o, n⟩ := x
      rw [hp] at h
      simp only at h ⊢
      rw [hdl, hcl]
      cases hc : (Nat.beq d.length n && Nat.ble (o + d.length) cs.length) with
      | false => rw [hc] at h; cases h
      | true =>
        rw [hc] at h
        simp only [cond_true] at h ⊢
        refine fillL_rep is ds _ r us _ ?_ (by simpa using hl) (fun j a b ha hb => hd (j + 1) a b (by simpa using ha) (by simpa using hb)) h
        unfold zb1
        rw [hdl]
        exact zbR (zbR (zbw o hr) hdu) (zbx _ hr)

/-- What cells a datum has, whatever is known of it. -/
structure CellD (H : List Hp) (d : D) : Prop where
  out : ∀ w F u, (∀ h ∈ H, h.ok w F) → D.rep w F d u → One u
theorem CellD.agg {cs : List D} : CellD H (.agg cs) := ⟨fun w F u _ ⟨vs, e, h⟩ => by subst e; intro c hc; exact repL_one h c (by simpa [Value.cells] using hc)⟩
theorem CellD.one {d : D} (h : ∀ w F u, D.rep w F d u → u.oneCell' = true) : CellD H d := ⟨fun w F u _ hr => One.one (h w F u hr)⟩
theorem CellD.s {b : ByteArray} : CellD H (.s b) := CellD.one (fun _ _ _ h => by rw [h.1]; rfl)
theorem CellD.sh {z : Nat} {xs : List D} : CellD H (.sh z xs) := CellD.one (fun _ _ _ ⟨_, _, h, _⟩ => by rw [h]; rfl)
theorem CellD.el {x : D} {o : Nat} : CellD H (.el x o) := CellD.one (fun _ _ _ ⟨_, _, _, h, _⟩ => by rw [h]; rfl)
theorem CellD.ifc {t : TypeId} {x : D} : CellD H (.ifc t x) := CellD.one (fun _ _ _ ⟨_, h, _⟩ => by rw [h]; rfl)
theorem CellD.fn {f : FuncId} {a b : List D} : CellD H (.fn f a b) := CellD.one (fun _ _ _ ⟨_, _, h, _⟩ => by rw [h]; rfl)
theorem CellD.o {u : Value} : CellD H (.ov u) := CellD.one (fun _ _ _ h => by rw [h.1]; exact h.2)
theorem CellD.any : CellD H .any := CellD.one (fun _ _ _ h => h)
theorem CellD.v {u : Value} (h : u.oneCell' = true) : CellD H (.v u) := CellD.one (fun _ _ _ e => by rw [e]; exact h)
theorem CellD.own {v : Value} {z j : Nat} {T : TypeId} {xs : List D} (hm : nth H j = some (.sl v z T xs)) : CellD H (.v v) := ⟨fun w F u hH e => by
  obtain ⟨us, _, ho⟩ := hH _ (zT hm)
  rw [show u = v from e]; exact One.one ho.one⟩

def opsD (K : Kd) : List Operand → Option (List D)
  | [] => some []
  | x :: r => match opD K x, opsD K r with
    | some d, some ds => some (d :: ds)
    | _, _ => none
theorem zbX {w : World} {F : Nat → Prop} {ρ : Env} (hk : KOk w F ρ K) : ∀ {xs : List Operand} {ds : List D}, opsD K xs = some ds → D.repA w F ds (xs.map (ev ρ))
  | [], ds, h => by simp [opsD] at h; subst h; rfl
  | x :: r, ds, h => by
    unfold opsD at h
    cases h1 : opD K x with
    | none => simp [h1] at h
    | some d =>
      cases h2 : opsD K r with
      | none => simp [h1, h2] at h
      | some es =>
        simp [h1, h2] at h
        subst h
        exact ⟨_, _, rfl, hk.op h1, zbX hk h2⟩
inductive CellDs (H : List Hp) : List D → Prop
  | nil : CellDs H []
  | cons {d : D} {r : List D} : CellD H d → CellDs H r → CellDs H (d :: r)
theorem repA_cells {w : World} {F : Nat → Prop} (hH : ∀ h ∈ H, h.ok w F) : ∀ {ds : List D} {vs : List Value}, CellDs H ds → D.repA w F ds vs → ∀ (i : Nat) (d : List D) (u : List Value), (ds.map D.cells)[i]? = some d → (vs.map vcs)[i]? = some u → D.repL w F d u
  | [], _, _, _, i, d, u, h, _ => by simp at h
  | x :: r, _, .cons hc hcs, ⟨a, us, rfl, h1, h2⟩, i, d, u, hd, hu => by
    cases i with
    | zero => simp at hd hu; subst hd; subst hu; exact D.rep_cells h1 (hc.out _ _ _ hH h1)
    | succ i => exact repA_cells hH hcs h2 i d u (by simpa using hd) (by simpa using hu)

theorem zag {t : TypeId} {ps : Array (Nat × Operand)} {fields : Array Field} {zv : Value} {pl : List (Nat × Nat)} (is : List Nat) (xs : List Operand) {ds : List D} {cs : List D} (hp : ps = (is.zip xs).toArray) (hx : opsD K xs = some ds) (hc : CellDs H ds)
    (ht : ∀ w, (underlying t).run P w = .ok (.struct fields) w) (hz : ∀ w, (zeroValue t).run P w = .ok zv w) (hpl : ∀ w, (fields.mapM fun f => do pure (f.offset, ← Go.sizeOf f.type) : Sem (Array (Nat × Nat))).run P w = .ok pl.toArray w)
    (hzv : zbg zv.cells.toList) (hf : zbO pl (zv.cells.toList.map D.v) (is.zip (ds.map D.cells)) = some cs) : Pu P (.build t ps) ty K H (.agg cs) :=
  ⟨fun ρ w F hk hF hH => by
    have hr := zbX hk hx
    have hlen := repA_len hr
    obtain ⟨r', e1, e2⟩ := fillL_rep (w := w) (F := F) (pl := pl) is (ds.map D.cells) (zv.cells.toList.map .v) cs ((xs.map (ev ρ)).map vcs) zv.cells.toList (repL_v _ (zbg.all hzv)) (by simp only [List.length_map] at hlen ⊢; omega) (repA_cells hH hc hr) hf
    refine e_build (v := .agg r'.toArray) (qs := (is.zip (xs.map (ev ρ))).toArray) ?_ ?_ ⟨rfl, r', rfl, e2⟩
    · subst hp; apply Array.ext'; simp [List.zip_map_right, Prod.map]
    · intro w
      have hfill := fill_fillL (pl.toArray[·]?) pl (by simp) (is.zip (xs.map (ev ρ))) zv.cells r' (by
        rw [← e1]; congr 1; simp [List.zip_map_right, Prod.map])
      simp only [Instr.build, Sem.run_bind, hz, Result.andThen_ok, ht, hpl, hfill, Sem.run_pure]⟩
end pure
end Lp
/-
  THE RULES OF THE OPERATIONS OVER DATA: those that make, write, append and call; what was owned becomes what all may read.
-/
set_option linter.unusedVariables false
namespace Lp
open Go Go.RowKit

theorem mem_set_or {α : Type} {l : List α} {i : Nat} {y z : α} (h : z ∈ l.set i y) : z = y ∨ ∃ j, j ≠ i ∧ l[j]? = some z := by
  rw [List.mem_iff_getElem?] at h
  obtain ⟨j, hj⟩ := h
  rw [List.getElem?_set] at hj
  split at hj
  · split at hj
    · cases hj; exact .inl rfl
    · cases hj
  · rename_i hne; exact .inr ⟨j, fun e => hne e.symm, hj⟩

theorem pair_get {α : Type} {R : α → α → Prop} (hs : ∀ a b, R a b → R b a) {l : List α} (h : l.Pairwise R) {i j : Nat} {x y : α} (hi : l[i]? = some x) (hj : l[j]? = some y) (hne : i ≠ j) : R x y := by
  obtain ⟨h1, e1⟩ := List.getElem?_eq_some_iff.1 hi
  obtain ⟨h2, e2⟩ := List.getElem?_eq_some_iff.1 hj
  rcases Nat.lt_or_ge i j with hlt | hge
  · have := (List.pairwise_iff_getElem.1 h) i j h1 h2 hlt; rw [e1, e2] at this; exact this
  · have := (List.pairwise_iff_getElem.1 h) j i h2 h1 (by omega); rw [e1, e2] at this; exact hs _ _ this
theorem zcg.symm {a b : Hp} (h : zcg a b) : zcg b a := fun g hg hg' => h g hg' hg

/-- One that is owned has turned; nothing else has. -/
theorem Good.turn {C : Ctx} {H : List Hp} {w w' : World} {F : Nat → Prop} {i : Nat} {h h' : Hp} (g : Good C H w F) (hi : nth H i = some h)
    (hupd : ∀ b, b < w.heap.size → ¬ h.blk b → w'.heap[b]? = w.heap[b]?) (hsz : w.heap.size ≤ w'.heap.size) (hos : w'.os = w.os) (htp : w'.tape = w.tape) (hout : w'.output = w.output)
    (hb : ∀ b, h'.blk b → h.blk b ∨ w.heap.size ≤ b) (ok : Keep w F w' F → h'.ok w' F) : Good C (H.set i h') w' F ∧ Keep w F w' F := by
  have hmem := zT hi
  have hi' : H[i]? = some h := by rw [← za4]; exact hi
  have hk : Keep w F w' F := ⟨fun _ h => h, fun b hF hlt => hupd b hlt (fun e => (g.h.mine b ⟨h, hmem, e⟩).2 hF)⟩
  have hlt' : i < H.length := (List.getElem?_eq_some_iff.1 hi').1
  refine ⟨⟨Nat.le_trans g.size hsz, hos.trans g.os, htp.trans g.tape, hout.trans g.output, fun b hb1 hn => ?_, g.fsub, g.fnew, fun b hF => Nat.lt_of_lt_of_le (g.flt b hF) hsz, ?_, ?_, ?_⟩, hk⟩
  · rw [hupd b (Nat.lt_of_lt_of_le hb1 g.size) (fun e => ?_)]
    · exact g.frame b hb1 hn
    · rcases (g.h.mine b ⟨h, hmem, e⟩).1 with h1 | h1
      · omega
      · exact hn h1
  · rw [List.pairwise_iff_getElem]
    intro a c ha hc hac
    rw [List.length_set] at ha hc
    have hold := (List.pairwise_iff_getElem.1 g.h.apart) a c ha hc hac
    have key : ∀ (x : Hp), (∃ j : Nat, j ≠ i ∧ H[j]? = some x) → zcg h' x := by
      rintro x ⟨j, hj, hx⟩ b hb1 hb2
      rcases hb b hb1 with hb3 | hb3
      · exact pair_get (fun _ _ => zcg.symm) g.h.apart hi' hx (fun e => hj e.symm) b hb3 hb2
      · have := Hp.lt (g.h.ok x (List.mem_of_getElem? hx)) hb2; omega
    simp only [List.getElem_set]
    by_cases e1 : i = a
    · rw [if_pos e1, if_neg (by omega)]
      exact key _ ⟨c, by omega, List.getElem?_eq_getElem hc⟩
    · rw [if_neg e1]
      by_cases e2 : i = c
      · rw [if_pos e2]
        exact zcg.symm (key _ ⟨a, by omega, List.getElem?_eq_getElem ha⟩)
      · rw [if_neg e2]; exact hold
  · intro x hx
    rcases mem_set_or hx with rfl | ⟨j, hj, hx⟩
    · exact ok hk
    · refine Hp.keep (g.h.ok x (List.mem_of_getElem? hx)) hk (fun b hb1 => hupd b (Hp.lt (g.h.ok x (List.mem_of_getElem? hx)) hb1) (fun e => ?_))
      exact pair_get (fun _ _ => zcg.symm) g.h.apart hi' hx (fun e => hj e.symm) b e hb1
  · rintro b ⟨x, hx, hb1⟩
    rcases mem_set_or hx with rfl | ⟨j, hj, hx⟩
    · rcases hb b hb1 with hb2 | hb2
      · exact g.h.mine b ⟨h, hmem, hb2⟩
      · exact ⟨.inl (Nat.le_trans g.size hb2), fun hF => by have := g.flt b hF; omega⟩
    · exact g.h.mine b ⟨x, List.mem_of_getElem? hx, hb1⟩

/-- One more is owned. -/
theorem Good.more {C : Ctx} {H : List Hp} {w : World} {F : Nat → Prop} {h : Hp} (g : Good C H w F) (ok : h.ok w F) (hb : ∀ b, h.blk b → C.w0.heap.size ≤ b ∧ ¬ F b ∧ ¬ blks H b) : Good C (h :: H) w F :=
  { g with h := ⟨List.pairwise_cons.2 ⟨fun x hx b e e' => (hb b e).2.2 ⟨x, hx, e'⟩, g.h.apart⟩, fun x hx => by
      cases hx with
      | head => exact ok
      | tail _ hm => exact g.h.ok x hm,
    fun b ⟨x, hx, e⟩ => by
      cases hx with
      | head => exact ⟨.inl (hb b e).1, (hb b e).2.1⟩
      | tail _ hm => exact g.h.mine b ⟨x, hm, e⟩⟩ }
theorem zb9 {w : World} {F A : Nat → Prop} {H : List Hp} (h : HOk w F A H) {b : Nat} (hb : blks H b) : b < w.heap.size := by
  obtain ⟨x, hx, e⟩ := hb; exact Hp.lt (h.ok x hx) e
theorem Good.born {C : Ctx} {H : List Hp} {w w' : World} {F : Nat → Prop} {g : Nat} {T : TypeId} {cs : List Value} {h : Hp} (gd : Good C H w F) (n : New w w' g T cs) (ok : h.ok w' F) (hb : ∀ b, h.blk b → b = g) : Good C (h :: H) w' F := by
  refine (gd.ext n.ext).more ok (fun b e => ?_)
  have := hb b e; subst this
  have hn := n.num
  have hs := gd.size
  exact ⟨by omega, fun hF => by have := gd.flt _ hF; omega, fun hB => by have := zb9 gd.h hB; omega⟩

section
variable {P : Program} {ty : TypeId} {K : Kd} {H : List Hp}

theorem zbd {t : TypeId} {zv : Value} {X : D} (hz : ∀ w, (zeroValue t).run P w = .ok zv w) (h1 : zbg zv.cells.toList) (hX : Cv (.v zv) X) : Ef P (.alloc t) ty K H (fun d H' => ∃ g, d = .v (.pointer (some ⟨g, 0, none⟩)) ∧ H' = .bx g t X :: H) :=
  ⟨fun C ρ w F hk gd => e_alloc hz fun g w' n => by
    refine ⟨F, _, _, ⟨g, rfl, rfl⟩, rfl, gd.born n ⟨zv, hX.out _ _ _ rfl, h1.all, ?_⟩ (fun b e => by cases e; rfl), Keep.ext n.ext⟩
    have := n.box; unfold Box at this; simpa using this⟩

def splD (X : D) (o : Nat) (d : D) : Option D := match X, d with
  | .agg cs, d => some (.agg (zb1 cs o d.cells))
  | .v (.agg _), _ => none
  | _, .agg _ => none
  | _, .v (.agg _) => none
  | _, d => some d
theorem splD_rep {w : World} {F : Nat → Prop} {X d X' : D} {o : Nat} {u v : Value} (hX : splD X o d = some X') (hu : D.rep w F X u) (hu1 : One u) (hv : D.rep w F d v) (hv1 : One v) (ho : o + d.cells.length ≤ X.cells.length) : ∃ u', D.rep w F X' u' ∧ One u' ∧ vcs u' = spl (vcs u) o (vcs v) := by
  have hcu := D.rep_cells hu hu1
  have hcv := D.rep_cells hv hv1
  have hlu := zaF hcu
  have hlv := zaF hcv
  have gen : ∀ cs, X = .agg cs → X' = .agg (zb1 cs o d.cells) → ∃ u', D.rep w F X' u' ∧ One u' ∧ vcs u' = spl (vcs u) o (vcs v) := by
    rintro cs rfl rfl
    have hh : D.repL w F (zb1 cs o d.cells) (spl (vcs u) o (vcs v)) := by
      unfold zb1 spl
      rw [hlv]
      exact zbR (zbR (zbw o hcu) hcv) (zbx _ hcu)
    exact ⟨.agg (spl (vcs u) o (vcs v)).toArray, ⟨_, rfl, hh⟩, fun c hc => repL_one hh c (by simpa [Value.cells] using hc), by simp [vcs, Value.cells]⟩
  have one : X.cells.length = 1 → d.cells.length = 1 → X' = d → ∃ u', D.rep w F X' u' ∧ One u' ∧ vcs u' = spl (vcs u) o (vcs v) := by
    rintro h1 h2 rfl
    refine ⟨v, hv, hv1, ?_⟩
    have : o = 0 := by omega
    subst this
    unfold spl
    rw [List.take_zero, List.nil_append, List.drop_eq_nil_of_le (by omega), List.append_nil]
  cases X with
  | agg cs => exact gen cs rfl (by simp only [splD, Option.some.injEq] at hX; exact hX.symm)
  | v a =>
    cases a <;> cases d <;> (try (rename_i b; cases b)) <;> simp only [splD, Option.some.injEq, reduceCtorEq] at hX <;> exact one rfl rfl hX.symm
  | _ => cases d <;> (try (rename_i b; cases b)) <;> simp only [splD, Option.some.injEq, reduceCtorEq] at hX <;> exact one rfl rfl hX.symm

theorem Upd.only {w w' : World} {g : Nat} (U : Upd g (g + 1) w w') : ∀ b, b < w.heap.size → ¬ g = b → w'.heap[b]? = w.heap[b]? := fun b hb hn => U.block b hb (by omega)

theorem zI {t : TypeId} {x y : Operand} {g o n i : Nat} {T : TypeId} {X X' d : D} (hx : opD K x = some (.v (.pointer (some ⟨g, o, none⟩)))) (hm : nth H i = some (.bx g T X)) (hy : opD K y = some d) (hc : CellD H d)
    (hs : ∀ w, (Go.sizeOf t).run P w = .ok n w) (hn : Nat.beq d.cells.length n = true) (ho : Nat.ble (o + n) X.cells.length = true) (hX : splD X o d = some X') : Ef P (.store t x y) ty K H (fun r H' => r = .v undef ∧ H' = H.set i (.bx g T X')) :=
  ⟨fun C ρ w F hk gd => by
    have hn := Nat.eq_of_beq_eq_true hn
    have ho := Nat.le_of_ble_eq_true ho
    have hr := hk.op hy
    have h1 := hc.out w F _ gd.h.ok hr
    obtain ⟨u, hu, hu1, hbx⟩ := gd.h.ok _ (zT hm)
    have hcu := zaF (D.rep_cells hu hu1)
    have hcv := zaF (D.rep_cells hr h1)
    obtain ⟨u', e1, e2, e3⟩ := splD_rep hX hu hu1 hr h1 (by omega)
    have hsz : (ev ρ y).cells.size = n := by rw [← hn, ← hcv]; simp [vcs]
    refine e_store (g := g) (o := o) (T := T) (cs := vcs u) (v := ev ρ y) (zz ρ [x, y]) (zaI ρ (hk.op hx)) (zaH ρ rfl) (by rw [hsz]; exact hs) (by unfold Box; simpa [vcs] using hbx) (by show o + (vcs (ev ρ y)).length ≤ _; omega)
      (by have : ∀ l : List Value, (∀ c ∈ l, c.oneCell' = true) → zbg l := by
            intro l; induction l with
            | nil => exact fun _ => trivial
            | cons a r ih => exact fun h => ⟨h a List.mem_cons_self, ih fun c hc => h c (List.mem_cons_of_mem _ hc)⟩
          exact this _ h1) (fun w' b1 b2 b3 => ?_)
    have := gd.turn (h' := .bx g T X') hm (Upd.only b2) b2.size b2.os b2.tape b2.output (fun b e => .inl e) (fun k => ⟨u', D.keep k _ _ e1, e2, by
      have b1' : Box w' g T (vcs u') := by rw [e3]; exact b1
      unfold Box at b1'; simpa [vcs] using b1'⟩)
    exact ⟨F, .v undef, _, ⟨rfl, rfl⟩, rfl, this.1, this.2⟩⟩

/-- Something that reads as a list of elements, to be copied. -/
structure SrcD (H : List Hp) (z : Nat) (d : D) (ys : List D) : Prop where
  out : ∀ w F u, (∀ b, F b → b < w.heap.size) → (∀ h ∈ H, h.ok w F) → D.rep w F d u → ∃ us, RepE w F z ys us ∧ SlT vcs z w 0 w.heap.size u us
theorem SrcD.sh {z : Nat} {ys : List D} : SrcD H z (.sh z ys) ys := ⟨fun w F u hF _ hr => by obtain ⟨us, h1, h2, _⟩ := D.rep_sl hF hr; exact ⟨us, h1, h2⟩⟩
theorem SrcD.own {z j : Nat} {v : Value} {d : D} {T : TypeId} {ys : List D} (hm : nth H j = some (.sl v z T ys)) (hd : asO d = some v) : SrcD H z d ys := ⟨fun w F u hF hH hr => by
  obtain ⟨us, h1, h2⟩ := hH _ (zT hm)
  have : u = v := asO_rep hr hd
  subst this
  exact ⟨us, h1, h2.sl⟩⟩
theorem SrcD.cut {z j a b : Nat} {v : Value} {T : TypeId} {ys : List D} (hm : nth H j = some (.sl v z T ys)) (hab : a ≤ b) (hb : b ≤ ys.length) : SrcD H z (.v (cut z v a b)) ((ys.take b).drop a) := ⟨fun w F u hF hH hr => by
  obtain ⟨us, h1, h2⟩ := hH _ (zT hm)
  have : u = _ := hr
  subst this
  have hl := h1.len
  exact ⟨_, (h1.take b).drop a, h2.sl.cut a b hab (by omega)⟩⟩

theorem ef_append {t : TypeId} {x y : Operand} {z bytes i : Nat} {v zv : Value} {T : TypeId} {xs ys : List D} {d : D} (hx : opO K x = some v) (hm : nth H i = some (.sl v z T xs)) (hy : opD K y = some d) (hsrc : SrcD H z d ys) (ht : P.underlying t = some (.slice T))
    (hi' : ∃ i, P.info? T = some i ∧ i.zero = some zv ∧ i.size = z ∧ i.bytes = bytes) (hzs : zv.cells.size = z) (hsz : Nat.blt 0 z = true) (hlen : xs.length + ys.length ≤ maxLen) (hbytes : (xs.length + ys.length) * bytes ≤ 140737488355328) :
    Ef P (.call { callee := .builtin .append, args := #[x, y], argTypes := #[t, t] }) ty K H (fun d H' => ∃ v', d = .ov v' ∧ H' = H.set i (.sl v' z T (xs ++ ys))) :=
  ⟨fun C ρ w F hk gd => by
    obtain ⟨us, hus, hown⟩ := gd.h.ok _ (zT hm)
    obtain ⟨vs, hvs, hsl⟩ := hsrc.out w F _ gd.flt gd.h.ok (hk.op hy)
    have hul := hus.len
    have hvl := hvs.len
    refine e_append (α := Value) (cs := vcs) (z := z) (E := T) (base := 0) (xs := us) (ys := vs) (zz ρ [x, y]) (zaI ρ (hk.opO hx)) (zaH ρ rfl) ht hi' hzs (zaP.1 hsz) hown hsl (fun u hu => ?_) (by omega) (by rw [hul, hvl]; exact hbytes) (Nat.zero_le _) (fun v' w' h1 h2 h3 => ?_)
    · have := hvs.one u hu
      have gen : ∀ l : List Value, (∀ c ∈ l, c.oneCell' = true) → zbg l := by
        intro l; induction l with
        | nil => exact fun _ => trivial
        | cons a r ih => exact fun h => ⟨h a List.mem_cons_self, ih fun c hc => h c (List.mem_cons_of_mem _ hc)⟩
      exact gen _ this
    · obtain ⟨a, b, U, hU⟩ := h2
      have := gd.turn (h' := .sl v' z T (xs ++ ys)) hm (fun c hc hn => U.block c hc (by
        rcases hU with ⟨rfl, rfl⟩ | ⟨h4, rfl, _⟩
        · exact .inr (Nat.zero_le _)
        · have : a ≠ c := fun e => hn (by subst e; exact h4)
          omega)) U.size U.os U.tape U.output (fun c e => by
        rcases h3 with h3 | h3
        · exact .inl (by show v.ownBlock = _; rw [← h3]; exact e)
        · have e' : v'.ownBlock = some c := e
          rw [h3] at e'; cases e'; exact .inr (Nat.le_refl _)) (fun kp => ⟨us ++ vs, (hus.keep kp).app (hvs.keep kp), h1⟩)
      exact ⟨F, .ov v', _, ⟨v', rfl, rfl⟩, ⟨rfl, h1.one⟩, this.1, this.2⟩⟩

theorem CellDs.ones {w : World} {F : Nat → Prop} (hH : ∀ h ∈ H, h.ok w F) {z : Nat} : ∀ {ds : List D} {vs : List Value}, CellDs H ds → D.repA w F ds vs → (∀ d ∈ ds, d.cells.length = z) → RepE w F z ds vs ∧ zca z vs (vs.map vcs)
  | [], _, _, rfl, _ => ⟨rfl, trivial⟩
  | x :: r, _, .cons hc hcs, ⟨u, us, rfl, h1, h2⟩, hz => by
    have h := hc.out w F u hH h1
    have hl := zaF (D.rep_cells h1 h)
    have hx := hz x List.mem_cons_self
    obtain ⟨e1, e2⟩ := CellDs.ones hH hcs h2 (fun d hd => hz d (List.mem_cons_of_mem _ hd))
    exact ⟨⟨u, us, rfl, h1, h, by have : (vcs u).length = z := by omega
                                  simpa [vcs] using this, e1⟩, by simp [vcs], by omega, e2⟩
def zcn (z : Nat) : List D → Bool
  | [] => true
  | d :: r => Nat.beq d.cells.length z && zcn z r
theorem allLen_out {z : Nat} : ∀ {ds : List D}, zcn z ds = true → ∀ d ∈ ds, d.cells.length = z
  | [], _, _, h => by cases h
  | d :: r, e, x, h => by
    simp only [zcn, Bool.and_eq_true] at e
    cases h with
    | head => exact Nat.eq_of_beq_eq_true e.1
    | tail _ hm => exact allLen_out e.2 x hm

theorem zQ {t e len z : Nat} {ps : Array (Nat × Operand)} {zv : Value} (xs : List Operand) {ds : List D} (hp : ps.toList = (xs.zipIdx 0).map fun x => (x.2, x.1)) (hx : opsD K xs = some ds) (hc : CellDs H ds) (hal : zcn z ds = true)
    (ht : ∀ w, (underlying t).run P w = .ok (.slice e) w) (hs : ∀ w, (Go.sizeOf e).run P w = .ok z w) (hzv : ∀ w, (zeroValue e).run P w = .ok zv w) (hlen : Nat.beq ds.length len = true) (hz : Nat.blt 0 z = true) (hsm : Nat.ble (len * z) 1000 = true) (hl0 : Nat.blt 0 len = true) :
    Ef P (.buildSlice t len ps) ty K H (fun d H' => ∃ g, d = .ov (.slice (some ⟨g, 0, none⟩) len len) ∧ H' = .sl (.slice (some ⟨g, 0, none⟩) len len) z e ds :: H) :=
  ⟨fun C ρ w F hk gd => by
    have hr := zbX hk hx
    have hdl := repA_len hr
    have hlen := Nat.eq_of_beq_eq_true hlen
    have hsm' := Nat.le_of_ble_eq_true hsm
    have hlz : len ≤ 1000 := Nat.le_trans (Nat.le_mul_of_pos_right _ (zaP.1 hz)) hsm'
    obtain ⟨h1, h2⟩ := CellDs.ones gd.h.ok hc hr (allLen_out hal)
    refine e_buildSlice xs ((xs.map (ev ρ)).map vcs) (zz ρ xs) hp (zbz ρ xs xs (fun _ h => h)) ht hs hzv (by omega) hz hsm hl0 h2 (fun g w' n => ?_)
    refine ⟨F, _, _, ⟨g, rfl, rfl⟩, ⟨rfl, rfl⟩, gd.born n ⟨xs.map (ev ρ), h1.keep (Keep.ext n.ext), ?_⟩ (fun b e => by cases e; rfl), Keep.ext n.ext⟩
    have := Box.own (base := 0) (cs := vcs) (z := z) (xs := xs.map (ev ρ)) n.box (Nat.zero_le _) (by rw [← List.flatMap_def]) h1.size (by unfold maxLen; omega)
    rw [show (xs.map (ev ρ)).length = len by omega] at this
    exact this⟩

/-! ### calls -/

/-- What a datum reads as, when what L owns may be read by all. -/
structure ArgC (L : List Hp) (d d' : D) : Prop where
  out : ∀ w F u, (∀ b, F b → b < w.heap.size) → (∀ h ∈ L, h.ok w F) → D.rep w F d u → D.rep w (fun b => F b ∨ blks L b) d' u
theorem Keep.wide {w : World} {F : Nat → Prop} (B : Nat → Prop) : Keep w F w (fun b => F b ∨ B b) := ⟨fun _ h => .inl h, fun _ _ _ => rfl⟩
theorem ArgC.cv {L : List Hp} {d d' : D} (h : Cv d d') : ArgC L d d' := ⟨fun w F u _ _ hr => D.keep (Keep.wide _) _ _ (h.out _ _ _ hr)⟩
theorem ArgC.id {L : List Hp} {d : D} : ArgC L d d := ArgC.cv Cv.rfl'
theorem ArgC.own {L : List Hp} {z j : Nat} {v : Value} {T : TypeId} {ys : List D} (hm : nth L j = some (.sl v z T ys)) {d : D} (hd : asO d = some v) : ArgC L d (.sh z ys) := ⟨fun w F u hF hL hr => by
  obtain ⟨us, h1, h2⟩ := hL _ (zT hm)
  have : u = v := asO_rep hr hd
  subst this
  have hmx : us.length ≤ maxLen := by
    rcases h2.1.2 with ⟨_, h0⟩ | ⟨g, cap, cur, _, _, _, h3, h4, _⟩
    · rw [h0]; exact Nat.zero_le _
    · omega
  exact D.sl_rep (h1.keep (Keep.wide _)) h2.sl (fun _ g hg => .inr ⟨_, zT hm, hg⟩) hmx⟩
theorem ArgC.cut {L : List Hp} {z j a b : Nat} {v : Value} {T : TypeId} {ys : List D} (hm : nth L j = some (.sl v z T ys)) (hab : a ≤ b) (hb : b ≤ ys.length) : ArgC L (.v (cut z v a b)) (.sh z ((ys.take b).drop a)) := ⟨fun w F u hF hL hr => by
  obtain ⟨us, h1, h2⟩ := hL _ (zT hm)
  have : u = _ := hr
  subst this
  have hl := h1.len
  have hmx : us.length ≤ maxLen := by
    rcases h2.1.2 with ⟨_, h0⟩ | ⟨g, cap, cur, _, _, _, h3, h4, _⟩
    · rw [h0]; exact Nat.zero_le _
    · omega
  refine D.sl_rep (((h1.take b).drop a).keep (Keep.wide _)) (h2.sl.cut a b hab (by omega)) (fun _ g hg => .inr ⟨_, zT hm, ?_⟩) (by simp only [List.length_drop, List.length_take]; omega)
  show v.ownBlock = some g
  rcases h2.1.2 with ⟨rfl, _⟩ | ⟨g', cap, cur, rfl, _⟩
  · simp only [Lp.cut] at hg; split at hg <;> cases hg
  · simp only [Lp.cut] at hg
    split at hg
    · exact hg
    · simp only [Option.map_some, Value.ownBlock, Addr.add] at hg ⊢
      split at hg <;> exact hg⟩
theorem ArgC.box {L : List Hp} {j g o : Nat} {T : TypeId} {X : D} (hm : nth L j = some (.bx g T X)) : ArgC L (.v (.pointer (some ⟨g, o, none⟩))) (.el X o) := ⟨fun w F u hF hL hr => by
  obtain ⟨u', h1, h2, h3⟩ := bx_at (hL _ (zT hm))
  have : u = _ := hr
  subst this
  exact ⟨g, 0, u', by rw [Nat.zero_add], .inr ⟨_, zT hm, rfl⟩, D.keep (Keep.wide _) _ _ h1, h2, h3⟩⟩
inductive ArgCs (L : List Hp) : List D → List D → Prop
  | nil : ArgCs L [] []
  | cons {d d' : D} {r r' : List D} : ArgC L d d' → ArgCs L r r' → ArgCs L (d :: r) (d' :: r')
theorem ArgCs.repA {L : List Hp} {w : World} {F : Nat → Prop} (hF : ∀ b, F b → b < w.heap.size) (hL : ∀ h ∈ L, h.ok w F) {ds ds' : List D} (h : ArgCs L ds ds') : ∀ {vs : List Value}, D.repA w F ds vs → D.repA w (fun b => F b ∨ blks L b) ds' vs := by
  induction h with
  | nil => exact fun h => h
  | cons hd _ ih => rintro _ ⟨u, us, rfl, h2, h3⟩; exact ⟨u, us, rfl, hd.out _ _ _ hF hL h2, ih h3⟩
theorem ArgCs.repL {L : List Hp} {w : World} {F : Nat → Prop} (hF : ∀ b, F b → b < w.heap.size) (hL : ∀ h ∈ L, h.ok w F) {ds ds' : List D} (h : ArgCs L ds ds') : ∀ {vs : List Value}, D.repL w F ds vs → D.repL w (fun b => F b ∨ blks L b) ds' vs := by
  induction h with
  | nil => exact fun h => h
  | cons hd _ ih => rintro _ ⟨u, us, rfl, h1, h2, h3⟩; exact ⟨u, us, rfl, h1, hd.out _ _ _ hF hL h2, ih h3⟩
theorem ArgC.agg {L : List Hp} {cs cs' : List D} (h : ArgCs L cs cs') : ArgC L (.agg cs) (.agg cs') := ⟨fun _ _ _ hF hL ⟨vs, e, hl⟩ => ⟨vs, e, h.repL hF hL hl⟩⟩
theorem ArgC.tup {L : List Hp} {cs cs' : List D} (h : ArgCs L cs cs') : ArgC L (.tup cs) (.tup cs') := ⟨fun _ _ _ hF hL ⟨vs, e, hl⟩ => ⟨vs, e, h.repA hF hL hl⟩⟩
theorem ArgC.ifc {L : List Hp} {t : TypeId} {d d' : D} (h : ArgC L d d') : ArgC L (.ifc t d) (.ifc t d') := ⟨fun _ _ _ hF hL ⟨u, e, hr⟩ => ⟨u, e, h.out _ _ _ hF hL hr⟩⟩
theorem ArgC.fn {L : List Hp} {f : FuncId} {a a' b b' : List D} (h : ArgCs L a a') (k : ArgCs L b b') : ArgC L (.fn f a b) (.fn f a' b') := ⟨fun _ _ _ hF hL ⟨us, vs, e, h1, h2⟩ => ⟨us, vs, e, h.repA hF hL h1, k.repA hF hL h2⟩⟩

/-- What is owned holds data without memory. -/
def Hp.flat : Hp → Bool
  | .sl _ _ _ xs => D.flat.flatL xs
  | .bx _ _ x => x.flat
  | .it _ _ _ => true
  | .tab _ _ => false
  | .slo _ _ _ xs => D.flat.flatL xs
  | .sl2 _ _ _ _ _ xs => D.flat.flatL xs
theorem Hp.flat_ok {w : World} {F F' : Nat → Prop} {h : Hp} (hf : h.flat = true) (ok : h.ok w F) : h.ok w F' := by
  cases h with
  | sl v z T xs => obtain ⟨us, h1, h2⟩ := ok; exact ⟨us, RepE.flat hf h1, h2⟩
  | bx g T x => obtain ⟨u, h1, h2⟩ := ok; exact ⟨u, D.flat_rep _ _ hf h1, h2⟩
  | it g s p => exact ok
  | tab g cs => exact absurd hf (by simp [Hp.flat])
  | slo u z T xs => obtain ⟨us, h1, h2⟩ := ok; exact ⟨us, RepE.flat hf h1, h2⟩
  | sl2 v0 v z T m xs => obtain ⟨us, h1, h2⟩ := ok; exact ⟨us, RepE.flat hf h1, h2⟩

/-- A call: the callee gets Hp; what else is owned (L) it may read; then, unless L is nothing, what it hands back holds no memory of others. -/
theorem call_core {f : FuncId} {Hp1 Hr L : List Hp} {ds0 ds : List D} {R : D → List Hp → Prop} {C : Ctx} {w : World} {F : Nat → Prop} {vs : List Value} (hcall : CD P f Hp1 ds R) (gd : Good C (Hp1 ++ Hr) w F) (hL : ∀ h ∈ L, h ∈ Hr) (hr : D.repA w F ds0 vs) (ha : ArgCs L ds0 ds)
    (hfl : L = [] ∨ ∀ d H', R d H' → d.flat = true ∧ ∀ h ∈ H', h.flat = true) :
    Calls P f vs.toArray w (Ret fun u w' => ∃ F' d H1, R d H1 ∧ D.rep w' F' d u ∧ Good C (H1 ++ Hr) w' F' ∧ Keep w F w' F') := by
  have hap := List.pairwise_append.1 gd.h.apart
  have hokR : ∀ h ∈ Hr, h.ok w F := fun h hh => gd.h.ok h (List.mem_append_right _ hh)
  have hokL : ∀ h ∈ L, h.ok w F := fun h hh => hokR h (hL h hh)
  have hblkL : ∀ b, blks L b → blks Hr b := fun b ⟨h, hh, e⟩ => ⟨h, hL h hh, e⟩
  have hRlt : ∀ b, blks Hr b → b < w.heap.size := fun b ⟨h, hh, e⟩ => Hp.lt (hokR h hh) e
  have hdis : ∀ b, blks Hp1 b → ¬ blks Hr b := fun b ⟨h, hh, e⟩ ⟨h', hh', e'⟩ => hap.2.2 h hh h' hh' b e e'
  have hmine : ∀ b, blks Hp1 b → (C.w0.heap.size ≤ b ∨ C.Bor b) ∧ ¬ F b := fun b ⟨h, hh, e⟩ => gd.h.mine b ⟨h, List.mem_append_left _ hh, e⟩
  have hmineR : ∀ b, blks Hr b → (C.w0.heap.size ≤ b ∨ C.Bor b) ∧ ¬ F b := fun b ⟨h, hh, e⟩ => gd.h.mine b ⟨h, List.mem_append_right _ hh, e⟩
  have hF' : ∀ b, (F b ∨ blks L b) → b < w.heap.size := by
    rintro b (h | h)
    · exact gd.flt b h
    · exact hRlt b (hblkL b h)
  have hHOk : HOk w (fun b => F b ∨ blks L b) (fun _ => True) Hp1 := ⟨hap.1, fun h hh => Hp.keep (gd.h.ok h (List.mem_append_left _ hh)) (Keep.wide _) (fun _ _ => rfl), fun b hb => ⟨trivial, fun h => by
    rcases h with h | h
    · exact (hmine b hb).2 h
    · exact hdis b hb (hblkL b h)⟩⟩
  refine (hcall.out w (fun b => F b ∨ blks L b) vs (ha.repA gd.flt hokL hr) hF' hHOk).mono ?_
  rintro e w' ⟨u, rfl, F1, d, H1, hR, hrep, g1⟩
  refine ⟨u, rfl, ?_⟩
  -- the blocks that are shared behind the call: without those lent
  have key : ∀ F2 : Nat → Prop, (∀ b, F2 b → F1 b) → (∀ b, F b → F2 b) → (∀ b, F2 b → ¬ blks Hr b) → D.rep w' F2 d u → (∀ h ∈ H1, h.ok w' F2) → ∃ F' d H1, R d H1 ∧ D.rep w' F' d u ∧ Good C (H1 ++ Hr) w' F' ∧ Keep w F w' F' := by
    intro F2 h21 hF2 hnR hrep2 hok2
    have hkeep : Keep w F w' F2 := ⟨hF2, fun b hb hlt => g1.frame b hlt (fun hB => (hmine b hB).2 hb)⟩
    refine ⟨F2, d, H1, hR, hrep2, ⟨Nat.le_trans gd.size g1.size, g1.os.trans gd.os, g1.tape.trans gd.tape, g1.output.trans gd.output, fun b hb hn => ?_, fun b hb => hF2 b (gd.fsub b hb), fun b hb => ?_, fun b hb => g1.flt b (h21 b hb), ?_, ?_, ?_⟩, hkeep⟩
    · have : ¬ blks Hp1 b := fun hB => by
        rcases (hmine b hB).1 with h | h
        · omega
        · exact hn h
      exact (g1.frame b (Nat.lt_of_lt_of_le hb gd.size) this).trans (gd.frame b hb hn)
    · rcases g1.fnew b (h21 b hb) with h | h | h
      · rcases h with h | h
        · exact gd.fnew b h
        · exact absurd (hblkL b h) (hnR b hb)
      · exact .inr (.inl (Nat.le_trans gd.size h))
      · rcases (hmine b h).1 with h' | h'
        · exact .inr (.inl h')
        · exact .inr (.inr h')
    · refine List.pairwise_append.2 ⟨g1.h.apart, hap.2.1, fun h hh h' hh' b e e' => ?_⟩
      have hlt := hRlt b ⟨h', hh', e'⟩
      rcases (g1.h.mine b ⟨h, hh, e⟩).1 with h1 | h1
      · have h1 : w.heap.size ≤ b := h1
        omega
      · exact hdis b h1 ⟨h', hh', e'⟩
    · intro h hh
      rcases List.mem_append.1 hh with hh | hh
      · exact hok2 h hh
      · exact Hp.keep (hokR h hh) hkeep (fun b hb => g1.frame b (hRlt b ⟨h, hh, hb⟩) (fun hB => hdis b hB ⟨h, hh, hb⟩))
    · rintro b ⟨h, hh, e⟩
      rcases List.mem_append.1 hh with hh | hh
      · refine ⟨?_, fun h2 => (g1.h.mine b ⟨h, hh, e⟩).2 (h21 b h2)⟩
        rcases (g1.h.mine b ⟨h, hh, e⟩).1 with h1 | h1
        · exact .inl (Nat.le_trans gd.size h1)
        · exact (hmine b h1).1
      · exact ⟨(hmineR b ⟨h, hh, e⟩).1, fun h2 => hnR b h2 ⟨h, hh, e⟩⟩
  have hsub1 : ∀ b, F b → F1 b := fun b hb => g1.fsub b (.inl hb)
  rcases hfl with rfl | hfl
  · refine key F1 (fun _ h => h) hsub1 (fun b hb hB => ?_) hrep g1.h.ok
    rcases g1.fnew b hb with h | h | h
    · rcases h with h | ⟨_, h, _⟩
      · exact (hmineR b hB).2 h
      · cases h
    · have := hRlt b hB
      have h : w.heap.size ≤ b := h
      omega
    · exact hdis b h hB
  · obtain ⟨f1, f2⟩ := hfl d H1 hR
    refine key (fun b => F1 b ∧ ¬ blks Hr b) (fun _ h => h.1) (fun b hb => ⟨hsub1 b hb, fun hB => (hmineR b hB).2 hb⟩) (fun _ h => h.2) (D.flat_rep d u f1 hrep) (fun h hh => Hp.flat_ok (f2 h hh) (g1.h.ok h hh))

theorem zy {f : FuncId} {args : Array Operand} {ats : Array TypeId} (Hp1 Hr L : List Hp) {ds0 ds : List D} {R : D → List Hp → Prop} (hH : H = Hp1 ++ Hr) (hargs : opsD K args.toList = some ds0) (ha : ArgCs L ds0 ds) (hL : ∀ h ∈ L, h ∈ Hr)
    (hc : ∀ args w, (callFunc f args).run P w = .ok (.enter f args) w) (hcall : CD P f Hp1 ds R) (hfl : L = [] ∨ ∀ d H', R d H' → d.flat = true ∧ ∀ h ∈ H', h.flat = true) :
    Ef P (.call { callee := .value (.func f), args := args, argTypes := ats }) ty K H (fun d H' => ∃ H1, R d H1 ∧ H' = H1 ++ Hr) :=
  ⟨fun C ρ w F hk gd => by
    subst hH
    refine e_call (zz ρ args.toList) (zbz ρ args.toList args.toList (fun _ h => h)) hc (call_core hcall gd hL (zbX hk hargs) ha hfl) (fun u w' ⟨F', d, H1, h1, h2, h3, h4⟩ => ⟨F', d, _, ⟨H1, h1, rfl⟩, h2, h3, h4⟩)⟩

theorem ArgCs.repE {L : List Hp} {w : World} {F : Nat → Prop} {z : Nat} (hF : ∀ b, F b → b < w.heap.size) (hL : ∀ h ∈ L, h.ok w F) {ds ds' : List D} (h : ArgCs L ds ds') : ∀ {vs : List Value}, RepE w F z ds vs → RepE w (fun b => F b ∨ blks L b) z ds' vs := by
  induction h with
  | nil => exact fun h => h
  | cons hd _ ih => rintro _ ⟨u, us, rfl, h2, h3, h4, h5⟩; exact ⟨u, us, rfl, hd.out _ _ _ hF hL h2, h3, h4, ih h5⟩
/-- Contracts. -/
theorem CD.mono {f : FuncId} {ds : List D} {R R' : D → List Hp → Prop} (h : CD P f H ds R) (hR : ∀ d H', R d H' → R' d H') : CD P f H ds R' :=
  ⟨fun w F vs h1 h2 h3 => (h.out w F vs h1 h2 h3).mono fun e w' ⟨u, he, F', d, H', h4, h5⟩ => ⟨u, he, F', d, H', hR _ _ h4, h5⟩⟩

end
end Lp
