/-
  Rows and their order, as plain data: how two labels, two lists of labels, two rows stand.
-/
import Derived.Test.YtfjinapgehafiaaGreatProg
import Derived.Lib.AppendStr
import Derived.Lib.UnsafeStr
import Derived.Test.YtfjinapgehafiaaGreatDG
namespace Lp
open Go

abbrev dN (n : Nat) : D := .v (.int .i64 (n : Int))
/-- A row as data. -/
structure RowD where
  ls : List Lbl
  v : Int
  deriving DecidableEq
abbrev LLs := List (List RowD)
def Lbl.d (x : Lbl) : D := .agg [.s x.n, .s x.v]
def RowD.d (x : RowD) : D := .agg [.sh 2 (x.ls.map Lbl.d), .v (.int .i64 x.v)]

def or2 (a b : Int) : Int := if a ≠ 0 then a else b
def zaZ : List Int → Int
  | [] => 0
  | a :: r => if a ≠ 0 then a else zaZ r
theorem firstNZ_two (a b : Int) : zaZ [a, b] = or2 a b := by
  unfold zaZ zaZ zaZ or2; split
  · rfl
  · split <;> omega
def zD (a b : Lbl) : Int := or2 (cmpS a.n b.n) (cmpS a.v b.v)
def zM : List Lbl → List Lbl → Int
  | [], [] => 0
  | [], _ :: _ => -1
  | _ :: _, [] => 1
  | a :: r, b :: s => if zD a b ≠ 0 then zD a b else zM r s
def cmpI (a b : Int) : Int := if a < b then -1 else if b < a then 1 else 0
def zI (o : Int) (a b : RowD) : Int :=
  if o = 1 then or2 (cmpI a.v b.v) (zM a.ls b.ls) else if o = 2 then or2 (cmpI b.v a.v) (zM a.ls b.ls) else zM a.ls b.ls
def less (o : Int) (a b : RowD) : Bool := decide (zI o a b < 0)

theorem zaK {α : Type} {xs : List α} {k : Nat} {x : α} (h : xs[k]? = some x) : xs.drop k = x :: xs.drop (k + 1) := by
  have hk := get_lt h
  rw [List.drop_eq_getElem_cons hk]
  congr 1
  exact (List.getElem?_eq_some_iff.1 h).2
/-- The first that part. -/
theorem cmpLs_at {a b : List Lbl} {k : Nat} {x y : Lbl} (hx : a[k]? = some x) (hy : b[k]? = some y) (hd : zM a b = zM (a.drop k) (b.drop k)) (hc : zD x y ≠ 0) : zM a b = zD x y := by
  rw [hd, zaK hx, zaK hy]; unfold zM; rw [if_pos hc]
theorem cmpLs_next {a b : List Lbl} {k : Nat} {x y : Lbl} (hx : a[k]? = some x) (hy : b[k]? = some y) (hd : zM a b = zM (a.drop k) (b.drop k)) (hc : zD x y = 0) : zM a b = zM (a.drop (k + 1)) (b.drop (k + 1)) := by
  rw [hd, zaK hx, zaK hy]
  conv => lhs; unfold zM
  rw [if_neg (by omega)]
theorem cmpLs_right {a b : List Lbl} {k : Nat} {x : Lbl} (hx : a[k]? = some x) (hy : b.length ≤ k) (hd : zM a b = zM (a.drop k) (b.drop k)) : zM a b = 1 := by
  rw [hd, zaK hx, List.drop_eq_nil_of_le hy]; rfl
theorem cmpLs_end {a b : List Lbl} {k : Nat} (hx : a.length ≤ k) (hd : zM a b = zM (a.drop k) (b.drop k)) (hk : k ≤ a.length) : zM a b = if a.length < b.length then -1 else 0 := by
  rw [hd, List.drop_eq_nil_of_le hx]
  split
  · have : b.drop k ≠ [] := by intro h; have := congrArg List.length h; simp at this; omega
    cases h : b.drop k with
    | nil => exact absurd h this
    | cons y s => rfl
  · rw [List.drop_eq_nil_of_le (by omega)]; rfl

theorem firstNZ_next {ns : List Int} {k : Nat} {x : Int} (hx : ns[k]? = some x) (h : zaZ ns = zaZ (ns.drop k)) (hz : x = 0) : zaZ ns = zaZ (ns.drop (k + 1)) := by
  rw [h, zaK hx]; conv => lhs; unfold zaZ
  rw [if_neg (by omega)]
theorem firstNZ_at {ns : List Int} {k : Nat} {x : Int} (hx : ns[k]? = some x) (h : zaZ ns = zaZ (ns.drop k)) (hz : x ≠ 0) : zaZ ns = x := by
  rw [h, zaK hx]; unfold zaZ; rw [if_pos hz]
theorem cmpLs_nil {a b : List Lbl} {k : Nat} (h1 : a.length ≤ k) (h2 : b.length ≤ k) (_h : k ≤ a.length) : zM (a.drop k) (b.drop k) = 0 := by
  rw [List.drop_eq_nil_of_le h1, List.drop_eq_nil_of_le h2]; rfl
theorem cmpLs_nil_l {a b : List Lbl} {k : Nat} (h1 : a.length ≤ k) (h2 : k < b.length) : zM (a.drop k) (b.drop k) = -1 := by
  obtain ⟨y, hy⟩ := zy b k h2
  rw [List.drop_eq_nil_of_le h1, zaK hy]; rfl
theorem cmpLs_nil_r {a b : List Lbl} {k : Nat} (h1 : k < a.length) (h2 : b.length ≤ k) : zM (a.drop k) (b.drop k) = 1 := by
  obtain ⟨y, hy⟩ := zy a k h1
  rw [List.drop_eq_nil_of_le h2, zaK hy]; rfl

def zax (ls : List Lbl) : Bool := (ls.take 30).all (fun x => decide (x.n.size ≤ 200) && decide (x.v.size ≤ 200)) && decide (ls.length ≤ 20)
def za7 (rs : List RowD) : Bool := (rs.take 100).all (fun r => zax r.ls) && decide (rs.length ≤ 60)

theorem zbA {α : Type} {f : α → Bool} {xs : List α} {k : Nat} {x : α} (hx : xs[k]? = some x) (h : (xs.take k).all f = true) (hf : f x = true) : (xs.take (k + 1)).all f = true := by
  rw [zab hx, List.all_append, h]; simp [hf]
theorem all_take_bad {α : Type} {f : α → Bool} {xs : List α} {k n : Nat} {x : α} (hx : xs[k]? = some x) (hk : k < n) (hf : f x = false) : (xs.take n).all f = false := by
  rw [List.all_eq_false]
  refine ⟨x, ?_, by simp [hf]⟩
  have : (xs.take n)[k]? = some x := by rw [List.getElem?_take, if_pos hk]; exact hx
  exact List.mem_of_getElem? this
theorem all_take_le {α : Type} {f : α → Bool} {xs : List α} {k n : Nat} (h : (xs.take k).all f = true) (hk : xs.length ≤ k ∨ n ≤ k) : (xs.take n).all f = true := by
  rw [List.all_eq_true] at h ⊢
  intro x hx
  refine h x ?_
  rcases hk with hk | hk
  · rw [List.take_of_length_le hk]; exact List.mem_of_mem_take hx
  · have : xs.take n = (xs.take k).take n := by rw [List.take_take, Nat.min_eq_left hk]
    rw [this] at hx; exact List.mem_of_mem_take hx
theorem zae {α : Type} {xs : List α} {k : Nat} {x : α} (h : xs[k]? = some x) : x ∈ xs := List.mem_of_getElem? h
theorem lightL_bad {xs : List Lbl} {k : Nat} {x : Lbl} (hx : xs[k]? = some x) (hk : k < 30) (h : 200 < x.n.size ∨ 200 < x.v.size) : zax xs = false := by
  unfold zax; rw [all_take_bad hx hk]; · rfl
  rw [Bool.and_eq_false_iff, decide_eq_false_iff_not, decide_eq_false_iff_not]; omega
theorem lightL_end {xs : List Lbl} {k : Nat} (h : (xs.take k).all (fun x => decide (x.n.size ≤ 200) && decide (x.v.size ≤ 200)) = true) (hk : xs.length ≤ k ∨ 30 ≤ k) : zax xs = decide (xs.length ≤ 20) := by
  unfold zax; rw [all_take_le h hk, Bool.true_and]
theorem lightR_bad {xs : List RowD} {k : Nat} {x : RowD} (hx : xs[k]? = some x) (hk : k < 100) (h : zax x.ls = false) : za7 xs = false := by
  unfold za7; rw [all_take_bad hx hk h]; rfl
theorem lightR_end {xs : List RowD} {k : Nat} (h : (xs.take k).all (fun r => zax r.ls) = true) (hk : xs.length ≤ k ∨ 100 ≤ k) : za7 xs = decide (xs.length ≤ 60) := by
  unfold za7; rw [all_take_le h hk, Bool.true_and]
theorem lightR_len {rs : List RowD} (h : za7 rs = true) : rs.length ≤ 60 := by
  unfold za7 at h; simp only [Bool.and_eq_true, decide_eq_true_eq] at h; exact h.2
theorem lightL_len {ls : List Lbl} (h : zax ls = true) : ls.length ≤ 20 := by
  unfold zax at h; simp only [Bool.and_eq_true, decide_eq_true_eq] at h; exact h.2
theorem lightR_row {rs : List RowD} (h : za7 rs = true) {r : RowD} (hr : r ∈ rs) : zax r.ls = true := by
  have hl := lightR_len h
  unfold za7 at h
  simp only [Bool.and_eq_true] at h
  have h1 := h.1
  rw [List.take_of_length_le (by omega), List.all_eq_true] at h1
  exact h1 r hr
end Lp
/-
  What comes in, as data: labels, rows, lists of rows, texts; and a law whose answer is fixed.
-/
set_option linter.unusedVariables false
namespace Lp
open Go Go.RowKit Go.ChangeShapes Go.Deep Go.Proofs

instance : Inhabited Lbl := ⟨⟨ByteArray.empty, ByteArray.empty⟩⟩
instance : Inhabited RowD := ⟨⟨[], 0⟩⟩

/-- A call that owns nothing and whose answer is fixed. -/
theorem CD.law {P : Program} {f : FuncId} {ds : List D} {r : D} (h : CD P f [] ds (isR r)) {w : World} {vs : List Value} (hr : D.repA w (FA w) ds vs) : Calls P f vs.toArray w (Ret fun u w' => Ext w w' ∧ ∃ F', D.rep w' F' r u) := by
  refine (h.out w (FA w) vs hr (fun _ h => h) HOk.empty).mono ?_
  rintro e w' ⟨u, rfl, F', d', H', ⟨rfl, rfl⟩, hrep, g⟩
  have hno : ∀ b, ¬ blks [] b := fun _ ⟨_, h, _⟩ => by cases h
  exact ⟨u, rfl, ⟨g.os, g.tape, g.output, g.size, fun b hb _ => g.frame b hb (hno b), g.drawn⟩, F', hrep⟩

section
variable {H : Type} {enc : TypeId × Value → H} {w : World} {held : Bool} {sp : Nat → Bool} {n : Nat}
theorem in_int {cs : List Value} {y : DataW H × List MemPlace} (h : DataW.trod enc Tryz.prog w 0 sp held n 3 cs = some y) : ∃ d : Int, InD w 1 (.v (.int .i64 d)) cs := by
  obtain ⟨i, e1, _, _⟩ := DataW.trod_int (by kernel_rfl) h
  exact ⟨i, by rw [e1]; exact InD.one rfl rfl⟩
theorem in_str {cs : List Value} {y : DataW H × List MemPlace} (h : DataW.trod enc Tryz.prog w 0 sp held n 9 cs = some y) : ∃ d : ByteArray, InD w 1 (.s d) cs := by
  obtain ⟨s0, e0, _, k0⟩ := DataW.trod_string (by kernel_rfl) h
  exact ⟨s0, by rw [e0]; exact InD.one ⟨rfl, k0⟩ rfl⟩
theorem in_lbl {cs : List Value} {y : DataW H × List MemPlace} (h : DataW.trod enc Tryz.prog w 0 sp held n 62 cs = some y) : ∃ d : Lbl, InD w 2 (Lbl.d d) cs := by
  obtain ⟨a, b, y0, y1, m, rfl, h0, h1⟩ := open_str2 (f0 := ⟨"Name", 9, 0, false, "", "", 0⟩) (f1 := ⟨"Value", 9, 1, false, "", "", 16⟩) (by kernel_rfl) rfl rfl (by kernel_rfl) (by kernel_rfl) (by kernel_rfl) h
  obtain ⟨s0, e0, _, k0⟩ := DataW.trod_string (by kernel_rfl) h0
  obtain ⟨s1, e1, _, k1⟩ := DataW.trod_string (by kernel_rfl) h1
  simp at e0 e1
  subst e0; subst e1
  exact ⟨⟨s0, s1⟩, .agg #[.string s0, .string s1], rfl, ⟨_, rfl, _, _, rfl, rfl, ⟨rfl, k0⟩, _, _, rfl, rfl, ⟨rfl, k1⟩, rfl⟩, fun c hc => by
    simp [Value.cells] at hc; rcases hc with rfl | rfl <;> rfl, rfl⟩
theorem in_labels {vs : List Value} {x : DataW H × List MemPlace} (h : DataW.trod enc Tryz.prog w 0 sp held n 50 vs = some x) : ∃ (v : Value) (ls : List Lbl), vs = [v] ∧ D.rep w (FA w) (.sh 2 (ls.map Lbl.d)) v := open_slD Lbl.d (by kernel_rfl) (by kernel_rfl) (by decide) h (fun _ _ _ h => in_lbl h)
theorem in_texts {vs : List Value} {x : DataW H × List MemPlace} (h : DataW.trod enc Tryz.prog w 0 sp held n 23 vs = some x) : ∃ (v : Value) (ls : List ByteArray), vs = [v] ∧ D.rep w (FA w) (.sh 1 (ls.map D.s)) v := open_slD D.s (by kernel_rfl) (by kernel_rfl) (by decide) h (fun _ _ _ h => in_str h)
theorem in_row {cs : List Value} {y : DataW H × List MemPlace} (h : DataW.trod enc Tryz.prog w 0 sp held n 53 cs = some y) : ∃ d : RowD, InD w 2 (RowD.d d) cs := by
  obtain ⟨a, b, y0, y1, m, rfl, h0, h1⟩ := open_str2 (f0 := ⟨"Labels", 50, 0, false, "", "", 0⟩) (f1 := ⟨"V", 3, 1, false, "", "", 24⟩) (by kernel_rfl) rfl rfl (by kernel_rfl) (by kernel_rfl) (by kernel_rfl) h
  obtain ⟨v, ls, e0, k0⟩ := in_labels h0
  obtain ⟨i, e1, _, _⟩ := DataW.trod_int (by kernel_rfl) h1
  have e3 : b = Value.int .i64 i := by simpa using e1
  have e4 : a = v := by simpa using e0
  subst e4; subst e3
  have hv : a.oneCell' = true := by obtain ⟨A, c, e, _⟩ := k0; rw [e]; rfl
  exact ⟨⟨ls, i⟩, .agg #[a, .int .i64 i], rfl, ⟨_, rfl, _, _, rfl, hv, k0, _, _, rfl, rfl, rfl, rfl⟩, fun c hc => by
    simp [Value.cells] at hc; rcases hc with rfl | rfl; exact hv; rfl, rfl⟩
theorem in_rows {vs : List Value} {x : DataW H × List MemPlace} (h : DataW.trod enc Tryz.prog w 0 sp held n 22 vs = some x) : ∃ (v : Value) (ls : List RowD), vs = [v] ∧ D.rep w (FA w) (.sh 2 (ls.map RowD.d)) v := open_slD RowD.d (by kernel_rfl) (by kernel_rfl) (by decide) h (fun _ _ _ h => in_row h)
end
end Lp
/-
  The program draws the order of what Go leaves open.
-/
namespace Lp
open Go Go.RowKit Go.Proofs
theorem mixed : Tryz.prog.follows .mixedOrders = true := by kernel_rfl
/-- short words for ways through code -/
abbrev T' : Bool := true
abbrev F' : Bool := false
abbrev dZ : D := .v (.slice none 0 0)
abbrev dP (g o : Nat) : D := .v (.pointer (some ⟨g, o, none⟩))
abbrev vS (g n c : Nat) : Value := .slice (some ⟨g, 0, none⟩) n c
end Lp
/-
  BYTES: rows of bytes, texts appended to them; a strings.Builder.
-/
set_option linter.unusedVariables false
namespace Lp
open Go Go.RowKit
open Go.Lib (strCells strCells_eq byteCells byteCells_length run_append_own_string)

section
variable {P : Program} {ty : TypeId} {K : Kd} {H : List Hp}
/-! ### a range over a text -/
theorem ef_range {x : Operand} {t : TypeId} {s : ByteArray} (hx : opS K x = some s) (ht : ∀ w, (underlying t).run P w = .ok .string w) : Ef P (.range t x) ty K H (fun d H' => ∃ g, d = .v (.pointer (some ⟨g, 0, none⟩)) ∧ H' = .it g s 0 :: H) :=
  ⟨fun C ρ w F hk gd => by
    have e := hk.opS hx
    refine EOp.of_run (v := .pointer (some ⟨w.heap.size, 0, none⟩)) (w' := w.alloc (.stringIter s 0)) (by simp [execOp, zao, e, Instr.range, ht]) ?_
    have E := Ext.alloc w (.stringIter s 0)
    have g' := gd.ext E
    refine ⟨F, _, _, ⟨w.heap.size, rfl, rfl⟩, rfl, g'.more (heap_alloc_new w _) (fun b hb => ?_), Keep.ext E⟩
    cases hb
    exact ⟨gd.size, fun hF => by have := gd.flt _ hF; omega, fun hB => by have := zdd gd.h hB; omega⟩⟩
def decR (s : ByteArray) (p : Nat) : Nat := (Utf8.decode s p).1
def decW (s : ByteArray) (p : Nat) : Nat := (Utf8.decode s p).2
theorem zcJ {x : Operand} {s : ByteArray} {g p i : Nat} (hx : opD K x = some (.v (.pointer (some ⟨g, 0, none⟩)))) (hm : nth H i = some (.it g s p)) (hp : p < s.size) :
    Ef P (.next x true) ty K H (fun d H' => d = .tup [.v (.bool true), .v (.int .i64 (p : Int)), .v (.int .i32 (decR s p : Int))] ∧ H' = H.set i (.it g s (p + decW s p))) :=
  ⟨fun C ρ w F hk gd => by
    have e : ev ρ x = _ := hk.op hx
    have hb : w.heap[g]? = some (.stringIter s p) := gd.h.ok _ (zZ hm)
    have hlt := (Array.getElem?_eq_some_iff.1 hb).1
    refine EOp.of_run (v := .tuple #[.bool true, .int .i64 (p : Int), .int .i32 (decR s p : Int)]) (w' := { w with heap := w.heap.setIfInBounds g (.stringIter s (p + decW s p)) }) ?_ ?_
    · simp [execOp, zao, e, Instr.next, getObj, setObj, Sem.run, hb, hp, decR, decW, goInt]
    have := gd.turn (h' := .it g s (p + decW s p)) (w' := { w with heap := w.heap.setIfInBounds g (.stringIter s (p + decW s p)) }) hm (fun b _ hn => by
        have : ¬ g = b := hn
        simp only [Array.getElem?_setIfInBounds]; rw [if_neg this]) (by simp) rfl rfl rfl (Nat.le_refl _) (fun b hb => .inl hb) (fun _ => by
        show _ = _
        simp only [Array.getElem?_setIfInBounds, if_true, hlt])
    exact ⟨F, _, _, ⟨rfl, rfl⟩, ⟨_, rfl, _, _, rfl, rfl, _, _, rfl, rfl, _, _, rfl, rfl, rfl⟩, this.1, this.2⟩⟩
theorem p_next_f {x : Operand} {s : ByteArray} {g p i : Nat} (hx : opD K x = some (.v (.pointer (some ⟨g, 0, none⟩)))) (hm : nth H i = some (.it g s p)) (hp : s.size ≤ p) : Pu P (.next x true) ty K H (.tup [.v (.bool false)]) :=
  ⟨fun ρ w F hk _ hH => by
    have e : ev ρ x = _ := hk.op hx
    have hb : w.heap[g]? = some (.stringIter s p) := hH _ (zZ hm)
    refine EOp.of_run (v := .tuple #[.bool false]) (w' := w) ?_ ⟨rfl, _, rfl, _, _, rfl, rfl, rfl⟩
    simp [execOp, zao, e, Instr.next, getObj, Sem.run, hb, show ¬ p < s.size by omega]⟩
theorem zat (s : ByteArray) (p : Nat) : 1 ≤ decW s p := by
  unfold decW Utf8.decode
  simp only
  (repeat' split) <;> simp
theorem za4 (s : ByteArray) (p : Nat) (h : p < s.size) : p + decW s p ≤ s.size := by
  unfold decW Utf8.decode
  simp only [Bool.and_eq_true, decide_eq_true_eq]
  (repeat' split) <;> simp <;> omega
/-- the zaS of a text, from a place on -/
def zb0 (s : ByteArray) (p : Nat) : List Int := if h : p < s.size then (decR s p : Int) :: zb0 s (p + decW s p) else []
termination_by s.size - p
decreasing_by have := zat s p; omega
theorem zck {s : ByteArray} {p : Nat} (h : p < s.size) : zb0 s p = (decR s p : Int) :: zb0 s (p + decW s p) := by
  conv => lhs; unfold zb0
  rw [dif_pos h]
theorem runesAt_ge {s : ByteArray} {p : Nat} (h : s.size ≤ p) : zb0 s p = [] := by
  unfold zb0; rw [dif_neg (by omega)]
def zaS (s : ByteArray) : List Int := zb0 s 0
theorem decR_lt (s : ByteArray) (p : Nat) : decR s p < 1114112 := by
  unfold decR Utf8.decode
  simp only [Bool.and_eq_true, decide_eq_true_eq]
  have hv : ∀ c, Utf8.valid c = true → c < 1114112 := by
    intro c; unfold Utf8.valid; simp; intros; omega
  (repeat' split)
  all_goals first
    | (simp only [Utf8.runeError]; omega)
    | (simp only; omega)
    | (rename_i h; have := hv _ h.2; simp only; omega)
end
end Lp
/-
  A region that draws its order, whose operations may make rows of the call's own: which place they have is told by a ghost for each of these.
-/
set_option linter.unusedVariables false
namespace Lp
open Go Go.RowKit

/-- The ghosts of a region: of each operation the row that it made. -/
abbrev Gh := Nat → Value
def ug (γ : Gh) (k : Nat) (v : Value) : Gh := fun i => bif Nat.beq i k then v else γ i
theorem ug_self (γ : Gh) (k : Nat) (v : Value) : ug γ k v k = v := by unfold ug; rw [Nat.beq_refl]; rfl
theorem ug_ne (γ : Gh) {k i : Nat} (v : Value) (h : i ≠ k) : ug γ k v i = γ i := by unfold ug; rw [zbh h]; rfl
inductive Ex where
  | q (d : D)
  /-- reads what is owned at its place in the chain -/
  | r (d : D)
  /-- an operation without a result -/
  | s (H : Gh → List Hp)
  | e (d : D) (H : Gh → List Hp)
  | o (H : Gh → List Hp)
  | f (m : Value → D) (H : Gh → List Hp)
def Ex.d (γ : Gh) (i : Nat) : Ex → D
  | .q d => d
  | .r d => d
  | .s _ => .v undef
  | .e d _ => d
  | .o _ => .ov (γ i)
  | .f m _ => m (γ i)
def Ex.isS : Ex → Bool
  | .s _ => true
  | _ => false
def Ex.h (γ : Gh) : Ex → Option (List Hp)
  | .q _ => none
  | .r _ => none
  | .s H => some (H γ)
  | .e _ H => some (H γ)
  | .o H => some (H γ)
  | .f _ H => some (H γ)
def gens (γ : Gh) : Nat → List (Tmp × Ex) → List En
  | _, [] => []
  | i, (t, x) :: r => (t, x.d γ i, x.h γ) :: gens γ (i + 1) r
theorem gens_nth (γ : Gh) : ∀ (es : List (Tmp × Ex)) (s i : Nat) (t : Tmp) (x : Ex), nth es i = some (t, x) → nth (gens γ s es) i = some (t, x.d γ (s + i), x.h γ)
  | [], _, i, _, _, h => by simp [nth] at h
  | (t, x) :: r, s, 0, t', x', h => by simp [nth] at h; obtain ⟨rfl, rfl⟩ := h; simp [gens, nth]
  | (t, x) :: r, s, i + 1, t', x', h => by
    have := gens_nth γ r (s + 1) i t' x' (by simpa [nth] using h)
    rw [show s + 1 + i = s + (i + 1) by omega] at this
    simpa [gens, nth] using this
theorem gens_nth' (γ : Gh) : ∀ (es : List (Tmp × Ex)) (s i : Nat) (t : Tmp) (d : D) (e : Option (List Hp)), nth (gens γ s es) i = some (t, d, e) → ∃ x, nth es i = some (t, x) ∧ d = x.d γ (s + i) ∧ e = x.h γ
  | [], _, i, _, _, _, h => by simp [gens, nth] at h
  | (t, x) :: r, s, 0, t', d', e', h => by simp [gens, nth] at h; obtain ⟨rfl, rfl, rfl⟩ := h; exact ⟨x, by simp [nth], rfl, rfl⟩
  | (t, x) :: r, s, i + 1, t', d', e', h => by
    obtain ⟨y, h1, h2, h3⟩ := gens_nth' γ r (s + 1) i t' d' e' (by simpa [gens, nth] using h)
    exact ⟨y, by simpa [nth] using h1, by rw [show s + (i + 1) = s + 1 + i by omega]; exact h2, h3⟩
theorem gens_len (γ : Gh) : ∀ (es : List (Tmp × Ex)) (s : Nat), (gens γ s es).length = es.length
  | [], _ => rfl
  | _ :: r, s => by simp [gens, gens_len γ r]
theorem zcg (γ γ' : Gh) : ∀ (es : List (Tmp × Ex)) (s k : Nat), isEf (gens γ s es) k = isEf (gens γ' s es) k
  | [], _, _ => rfl
  | (t, x) :: r, s, 0 => by cases x <;> simp [gens, isEf, nth, Ex.h]
  | (t, x) :: r, s, k + 1 => by have := zcg γ γ' r (s + 1) k; simpa [gens, isEf, nth] using this
theorem gens_lastEf (γ γ' : Gh) (es : List (Tmp × Ex)) (s : Nat) : ∀ k, zcv (gens γ s es) k = zcv (gens γ' s es) k
  | 0 => rfl
  | k + 1 => by simp [zcv, zcg γ γ' es s k, gens_lastEf γ γ' es s k]
def runO (P : Program) (op : Op) (ty : TypeId) (K : Kd) (Hs Hk : List Hp) (γ : Gh) (k : Nat) : Ex → Prop
  | .q d => Qu P op ty K Hs d
  | .r d => Qu P op ty K Hk d
  | .s H' => Ef P op ty K Hk (fun d' H'' => H'' = H' γ) ∧ HSub (H' γ) Hs
  | .e d H' => Ef P op ty K Hk (fun d' H'' => d' = d ∧ H'' = H' γ) ∧ HSub (H' γ) Hs
  | .o H' => Ef P op ty K Hk (fun d' H'' => ∃ v, d' = .ov v ∧ H'' = H' (ug γ k v)) ∧ ∀ v, HSub (H' (ug γ k v)) Hs
  | .f m H' => Ef P op ty K Hk (fun d' H'' => ∃ v, d' = m v ∧ H'' = H' (ug γ k v)) ∧ ∀ v, HSub (H' (ug γ k v)) Hs
def zdk (ens : List En) : Nat → Nat → Option Nat
  | 0, _ => none
  | f + 1, i => bif isEf ens i then some i else zdk ens f (i + 1)
theorem nextEf_some {ens : List En} : ∀ (f s i : Nat), s ≤ i → i < s + f → isEf ens i = true → ∃ j, zdk ens f s = some j ∧ s ≤ j ∧ j ≤ i ∧ isEf ens j = true
  | 0, s, i, h1, h2, _ => by omega
  | f + 1, s, i, h1, h2, h3 => by
    unfold zdk
    cases hs : isEf ens s with
    | true => exact ⟨s, rfl, Nat.le_refl _, h1, hs⟩
    | false =>
      have : s ≠ i := by rintro rfl; rw [hs] at h3; cases h3
      obtain ⟨j, j1, j2, j3, j4⟩ := nextEf_some f (s + 1) i (by omega) (by omega) h3
      exact ⟨j, j1, by omega, j3, j4⟩
theorem gens_nextEf (γ γ' : Gh) (es : List (Tmp × Ex)) (s : Nat) : ∀ f k, zdk (gens γ s es) f k = zdk (gens γ' s es) f k
  | 0, _ => rfl
  | f + 1, k => by simp [zdk, zcg γ γ' es s k, gens_nextEf γ γ' es s f (k + 1)]
def isRd (es : List (Tmp × Ex)) (k : Nat) : Bool := match nth es k with
  | some (_, .r _) => true
  | _ => false
/-- What reads in the chain waits for the last one that turns what is owned, and the next one waits for it. -/
def readB (ops : List Oper) (es : List (Tmp × Ex)) (ens : List En) : Bool := (List.range es.length).all fun k => !isRd es k || ((match zcv ens k with
    | some l => has0 (ancS ops k (zaq ops k)) l
    | none => true) && (match zdk ens es.length (k + 1) with
    | some j => has0 (ancS ops j (zaq ops j)) k
    | none => true))
def freshB' (ops : List Oper) (n N : Nat) (l : Kn) : Bool :=
  Nat.ble n ops.length && (List.range n).all fun i => match zaN ops i with
    | some d => Nat.blt d N && !(keys l).contains d && (List.range i).all fun j => zaN ops j != some d
    | none => true
def drawB' (ops : List Oper) (n N : Nat) (l : Kn) : Bool := zdD ops && zdM ops n && freshB' ops n N l
structure StepO (P : Program) (N : Nat) (ops : List Oper) (K : Kd) (Hs H0 : List Hp) (γ : Gh) (es : List (Tmp × Ex)) (k : Nat) : Prop where
  out : ∃ t x dst op ty g, nth es k = some (t, x) ∧ opAt ops k = some (dst, op, ty, g) ∧ ((dst = some t ∧ x.isS = false) ∨ (dst = none ∧ Nat.ble N t = true ∧ x.isS = true)) ∧
    match g with
    | none => runO P op ty (kpre (gens γ 0 es) K (zaq ops k)) Hs (hof H0 (gens γ 0 es) k) γ k x
    | some (j, want) => ∃ s u, zaN ops j = some s ∧ Nat.blt s N = true ∧ zai (kpre (gens γ 0 es) K (zaq ops k)) s = some (.v u) ∧ (nb u = some want → runO P op ty (kpre (gens γ 0 es) K (zaq ops k)) Hs (hof H0 (gens γ 0 es) k) γ k x) ∧ (nb u ≠ some want → x = .q (.v undef))
section
variable {P : Program} {N : Nat} {ops : List Oper} {K : Kd} {Hs H0 : List Hp} {γ : Gh} {es : List (Tmp × Ex)} {k : Nat}
theorem so_q {t : Tmp} {d : D} {op : Op} {ty : TypeId} (he : nth es k = some (t, .q d)) (ho : opAt ops k = some (some t, op, ty, none)) {pre : List Nat} (hp : zaq ops k = pre) (h : Qu P op ty (kpre (gens γ 0 es) K pre) Hs d) : StepO P N ops K Hs H0 γ es k :=
  ⟨t, .q d, _, op, ty, none, he, ho, .inl ⟨rfl, rfl⟩, by subst hp; exact h⟩
theorem so_p {t : Tmp} {d : D} {op : Op} {ty : TypeId} (he : nth es k = some (t, .q d)) (ho : opAt ops k = some (some t, op, ty, none)) {pre : List Nat} (hp : zaq ops k = pre) (h : Pu P op ty (kpre (gens γ 0 es) K pre) Hs d) : StepO P N ops K Hs H0 γ es k := so_q he ho hp h.qu
theorem so_e {t : Tmp} {d : D} {op : Op} {ty : TypeId} {H' : Gh → List Hp} {Hk : List Hp} (he : nth es k = some (t, .e d H')) (ho : opAt ops k = some (some t, op, ty, none)) {pre : List Nat} (hp : zaq ops k = pre) (hH : hof H0 (gens γ 0 es) k = Hk) (h : Ef P op ty (kpre (gens γ 0 es) K pre) Hk (fun d' H'' => d' = d ∧ H'' = H' γ)) (hs : HSub (H' γ) Hs) : StepO P N ops K Hs H0 γ es k :=
  ⟨t, .e d H', _, op, ty, none, he, ho, .inl ⟨rfl, rfl⟩, by subst hp; subst hH; exact ⟨h, hs⟩⟩
theorem so_o {t : Tmp} {op : Op} {ty : TypeId} {H' : Gh → List Hp} {Hk : List Hp} (he : nth es k = some (t, .o H')) (ho : opAt ops k = some (some t, op, ty, none)) {pre : List Nat} (hp : zaq ops k = pre) (hH : hof H0 (gens γ 0 es) k = Hk) (h : Ef P op ty (kpre (gens γ 0 es) K pre) Hk (fun d' H'' => ∃ v, d' = .ov v ∧ H'' = H' (ug γ k v))) (hs : ∀ v, HSub (H' (ug γ k v)) Hs) : StepO P N ops K Hs H0 γ es k :=
  ⟨t, .o H', _, op, ty, none, he, ho, .inl ⟨rfl, rfl⟩, by subst hp; subst hH; exact ⟨h, hs⟩⟩
theorem so_r {t : Tmp} {d : D} {op : Op} {ty : TypeId} {Hk : List Hp} (he : nth es k = some (t, .r d)) (ho : opAt ops k = some (some t, op, ty, none)) {pre : List Nat} (hp : zaq ops k = pre) (hH : hof H0 (gens γ 0 es) k = Hk) (h : Pu P op ty (kpre (gens γ 0 es) K pre) Hk d) : StepO P N ops K Hs H0 γ es k :=
  ⟨t, .r d, _, op, ty, none, he, ho, .inl ⟨rfl, rfl⟩, by subst hp; subst hH; exact h.qu⟩
theorem zdN {t : Tmp} {op : Op} {ty : TypeId} {H' : Gh → List Hp} {Hk : List Hp} (he : nth es k = some (t, .s H')) (ho : opAt ops k = some (none, op, ty, none)) (hN : Nat.ble N t = true) {pre : List Nat} (hp : zaq ops k = pre) (hH : hof H0 (gens γ 0 es) k = Hk) (h : Ef P op ty (kpre (gens γ 0 es) K pre) Hk (fun _ H'' => H'' = H' γ)) (hs : HSub (H' γ) Hs) : StepO P N ops K Hs H0 γ es k :=
  ⟨t, .s H', _, op, ty, none, he, ho, .inr ⟨rfl, hN, rfl⟩, by subst hp; subst hH; exact ⟨h, hs⟩⟩
def zdx (P : Program) (N : Nat) (ops : List Oper) (K : Kd) (Hs H0 : List Hp) (γ : Gh) (es : List (Tmp × Ex)) : Nat → Nat → Prop
  | _, 0 => True
  | k, todo + 1 => StepO P N ops K Hs H0 γ es k ∧ zdx P N ops K Hs H0 γ es (k + 1) todo
theorem zdx.get : ∀ (todo k : Nat), zdx P N ops K Hs H0 γ es k todo → ∀ i, k ≤ i → i < k + todo → StepO P N ops K Hs H0 γ es i
  | 0, k, _, i, h1, h2 => by omega
  | todo + 1, k, ⟨h, hr⟩, i, h1, h2 => by
    rcases Nat.lt_or_ge k i with h3 | h3
    · exact zdx.get todo (k + 1) hr i h3 (by omega)
    · have : i = k := by omega
      subst this; exact h

theorem zbj {C : Ctx} {c : Code} {H : List Hp} {Q : zaG} (n : Nat) (es : List (Tmp × Ex)) (Hs : List Hp) {Hn : Gh → List Hp} (hm : P.follows .mixedOrders = true) (hc : zdl c = some true) (hlen : Nat.beq es.length n = true) (hB : drawB' (zcs c) n N (K.map fun x => (x.1, Value.nilFunc)) = true) (hch : chainB (zcs c) (gens (fun _ => undef) 0 es) = true) (hrd : readB (zcs c) es (gens (fun _ => undef) 0 es) = true) (hs0 : HSub H Hs) (hHn : ∀ γ, hof H (gens γ 0 es) n = Hn γ)
    (hsteps : ∀ γ, zdx P N (zcs c) K Hs H γ es 0 n) (next : ∀ γ, OpsD P N C (zcs c) n (enK (gens γ 0 es) K) (Hn γ) (fun ρ w F => Q .normal ρ w F)) : JD P N C c K H Q := by
  cases c <;> simp [zdl] at hc
  rename_i id opsA draw
  subst hc
  obtain rfl : Hn = fun γ => hof H (gens γ 0 es) n := funext fun γ => (hHn γ).symm
  simp only [zcs] at hB hsteps hch hrd next
  generalize hops : opsA.toList = ops at hB hsteps hch hrd next
  have hA : opsA = ops.toArray := by rw [← hops]
  subst hA
  have hlen := Nat.eq_of_beq_eq_true hlen
  unfold drawB' at hB
  simp only [Bool.and_eq_true] at hB
  obtain ⟨⟨hback, htail⟩, hfresh⟩ := hB
  unfold freshB' at hfresh
  simp only [Bool.and_eq_true] at hfresh
  obtain ⟨hnl, hfr⟩ := hfresh
  have hnl := Nat.le_of_ble_eq_true hnl
  rw [List.all_eq_true] at hfr
  have hpre : ∀ k, k < ops.length → ∀ j ∈ zaq ops k, j < k := by
    intro k hk j hj
    unfold zdD at hback
    rw [List.all_eq_true] at hback
    have := hback k (List.mem_range.2 hk)
    rw [List.all_eq_true] at this
    exact zbi.1 (this j hj)
  have hstep : ∀ γ i, i < n → StepO P N ops K Hs H γ es i := fun γ i hi => zdx.get n 0 (hsteps γ) i (Nat.zero_le _) (by omega)
  -- slots of their own
  have hd : ∀ i t, i < n → zaN ops i = some t → Nat.blt t N = true ∧ zai K t = none ∧ ∀ j, j < i → zaN ops j ≠ some t := by
    intro i t hi hdst
    have hf := hfr i (List.mem_range.2 hi)
    rw [hdst] at hf
    simp only [Bool.and_eq_true, Bool.not_eq_true'] at hf
    refine ⟨hf.1.1, lookD_keys hf.1.2, fun j hj => ?_⟩
    have := hf.2
    rw [List.all_eq_true] at this
    have := this j (List.mem_range.2 hj)
    simpa using this
  have hdn2 : ∀ i, i < n → ∀ t x, nth es i = some (t, x) → (zaN ops i = some t ∧ x.isS = false) ∨ (zaN ops i = none ∧ Nat.ble N t = true ∧ x.isS = true) := by
    intro i hi t x hn
    obtain ⟨t', x', dst, op, ty, g, h1, h2, h3, _⟩ := (hstep (fun _ => undef) i hi).out
    rw [hn] at h1; cases h1
    have hdst : zaN ops i = dst := by
      obtain ⟨o, q1, q2, _⟩ := zbJ h2
      have : nth ops i = some o := by rw [za1]; simpa using q1
      simp [zaN, this, q2]
    rw [hdst]; exact h3
  have hne : ∀ i j t, i < n → j < n → i ≠ j → zaN ops i = some t → zaN ops j = some t → False := by
    intro i j t hi hj hij h1 h2
    rcases Nat.lt_or_gt_of_ne hij with hlt | hlt
    · exact (hd j t hj h2).2.2 i hlt h1
    · exact (hd i t hi h1).2.2 j hlt h2
  have hfar : ∀ (a : Act), Ok N a → ∀ t, Nat.ble N t = true → zag a t = undef := by
    intro a ok t ht
    have ht := Nat.le_of_ble_eq_true ht
    simp only [zag, Array.getD_eq_getD_getElem?]
    rw [Array.getElem?_eq_none (by rw [ok.1]; exact ht)]; rfl
  have hchain : ∀ γ k l, k < n → isEf (gens γ 0 es) k = true → zcv (gens γ 0 es) k = some l → l ∈ zaq ops k := by
    intro γ k l hk he hl
    rw [zcg γ (fun _ => undef)] at he
    rw [gens_lastEf γ (fun _ => undef)] at hl
    unfold chainB at hch
    rw [List.all_eq_true] at hch
    have := hch k (List.mem_range.2 (by rw [gens_len]; omega))
    rw [he, hl] at this
    exact has_mem (by simpa using this)
  refine ⟨fun a w F ok hk g => ?_⟩
  apply wp_region_any hm
  have final : ∀ (γ : Gh) (a : Act) (w' : World) (F' : Nat → Prop) (p : Nat), Ok N a → KOk w' F' (zag a) K → p ≤ n → Good C (hof H (gens γ 0 es) p) w' F' → (∀ i, p ≤ i → i < n → isEf (gens γ 0 es) i = false) → (∀ i t x, i < n → nth es i = some (t, x) → D.rep w' F' (x.d γ i) (zag a t)) →
      wpOps P ops.toArray (fun e a' w' => Ok N a' ∧ ∃ F', Q e (zag a') w' F') (List.range' n (ops.length - n)) a w' := by
    intro γ a w' F' p ok hk hp g hno hrep
    rw [← zcm (H0 := H) p n hp hno] at g
    have hK := enK_ok (gens γ 0 es) K hk (fun j t d e hj => by
      obtain ⟨x, x1, x2, x3⟩ := gens_nth' γ es 0 j t d e hj
      rw [Nat.zero_add] at x2
      subst x2
      exact hrep j t x (by rw [za1] at x1; rw [← hlen]; exact (List.getElem?_eq_some_iff.1 x1).1) x1)
    refine za0 ?_ _ _ _ ((next γ).out a w' F' ok hK g)
    rintro e a' w'' ⟨rfl, h1, h2⟩
    exact ⟨h1, h2⟩
  -- the invariant
  have key : ∀ (fuel : Nat) (listed : Array Bool) (γ : Gh) (a : Act) (w' : World) (F' : Nat → Prop) (p : Nat), listed.size = ops.length → cnt ops.length listed ≤ fuel → Ok N a → KOk w' F' (zag a) K → p ≤ n → Good C (hof H (gens γ 0 es) p) w' F' → HSub (hof H (gens γ 0 es) p) Hs →
      (∀ i, i < p → isEf (gens γ 0 es) i = true → listed.getD i true = true) → (∀ i, p ≤ i → i < n → isEf (gens γ 0 es) i = true → listed.getD i true = false) →
      (∀ i t x, i < n → listed.getD i true = true → nth es i = some (t, x) → D.rep w' F' (x.d γ i) (zag a t)) → (∀ i, i < n → listed.getD i true = true → ∀ j ∈ zaq ops i, listed.getD j true = true) → (∀ i, n ≤ i → i < ops.length → listed.getD i true = false) →
      wpAny P .any ops.toArray (fun e a' w' => Ok N a' ∧ ∃ F', Q e (zag a') w' F') fuel listed a w' := by
    intro fuel
    induction fuel with
    | zero =>
      intro listed γ a w' F' p hs hcnt ok hk hp g hsp hdone hnot hh hdn ht
      have hall : ∀ i, i < ops.length → listed.getD i true = true := by
        intro i hi
        cases hc : listed.getD i true with
        | true => rfl
        | false => have := cnt_set hi hs hc; omega
      have hn : ops.length = n := by
        rcases Nat.lt_or_ge n ops.length with h' | h'
        · have h1 := ht n (Nat.le_refl _) h'
          rw [hall n h'] at h1; cases h1
        · omega
      refine wpAny_tail (n := n) hback htail 0 n listed a w' (by omega) (Nat.le_refl _) hnl hs (fun i hi => by rw [hall i hi]; simp; omega) ?_ 0 (by omega)
      refine final γ a w' F' p ok hk hp g (fun i h1 h2 => ?_) (fun i t x hi hn => hh i t x hi (hall i (by omega)) hn)
      cases he : isEf (gens γ 0 es) i with
      | false => rfl
      | true => have := hnot i h1 h2 he; rw [hall i (by omega)] at this; cases this
    | succ fuel ih =>
      intro listed γ a w' F' p hs hcnt ok hk hp g hsp hdone hnot hh hdn ht
      by_cases hall : ∀ i, i < n → listed.getD i true = true
      · refine wpAny_tail (n := n) hback htail (ops.length - n) n listed a w' rfl (Nat.le_refl _) hnl hs (fun i hi => ?_) ?_ (fuel + 1) ?_
        · rcases Nat.lt_or_ge i n with h' | h'
          · rw [hall i h']; simp [h']
          · rw [ht i h' hi]; simp; omega
        · refine final γ a w' F' p ok hk hp g (fun i h1 h2 => ?_) (fun i t x hi hn => hh i t x hi (hall i hi) hn)
          cases he : isEf (gens γ 0 es) i with
          | false => rfl
          | true => have := hnot i h1 h2 he; rw [hall i h2] at this; cases this
        · refine Nat.le_trans ?_ hcnt
          unfold cnt
          have hsplit : List.range ops.length = List.range n ++ List.range' n (ops.length - n) := by
            rw [List.range_eq_range', List.range_eq_range']
            have := @List.range'_append 0 n (ops.length - n) 1
            simp only [Nat.one_mul, Nat.zero_add] at this
            rw [this]; congr 1; omega
          rw [hsplit, List.countP_append]
          have : (List.range' n (ops.length - n)).countP (fun i => !listed.getD i true) = ops.length - n := by
            rw [List.countP_eq_length.2]
            · simp
            · intro i hi
              have := List.mem_range'_1.1 hi
              rw [ht i (by omega) (by omega)]; rfl
          omega
      · obtain ⟨i0, hi0⟩ := Classical.not_forall.1 hall
        obtain ⟨hi0n, hi0u⟩ := Classical.not_imp.1 hi0
        have hi0u : listed.getD i0 true = false := by cases hx : listed.getD i0 true with | false => rfl | true => exact absurd hx hi0u
        refine ⟨fun he => absurd he (some_ready hs hback i0 (by omega) hi0u), fun i hi => ?_⟩
        obtain ⟨hu, hil, hps⟩ := zcC.1 hi
        have hin : i < n := by
          rcases Nat.lt_or_ge i n with h' | h'
          · exact h'
          · exfalso
            have hpm : i0 ∈ ancS ops i (zaq ops i) := by
              have ht' := htail
              unfold zdM at ht'
              rw [List.all_eq_true] at ht'
              have := ht' i (List.mem_range.2 hil)
              rw [Bool.or_eq_true] at this
              rcases this with h'' | h''
              · have := zbi.1 h''; omega
              · rw [List.all_eq_true] at h''
                exact zcI (h'' i0 (List.mem_range.2 (by omega)))
            have := zc9 (p := fun j => j < ops.length ∧ listed.getD j true = true) (fun k hk j hj => by
              have hkn : k < n := by
                rcases Nat.lt_or_ge k n with hh | hh
                · exact hh
                · have := ht k hh hk.1; rw [hk.2] at this; cases this
              exact ⟨by have := hpre k hk.1 j hj; omega, hdn k hkn hk.2 j hj⟩) i _ (fun j hj => by
              have hjl : j < ops.length := by have := hpre i hil j hj; omega
              exact ⟨hjl, by rw [zdc hs hjl]; exact hps j hj⟩) i0 hpm
            rw [hi0u] at this
            cases this.2
        obtain ⟨t, x, dst, op, ty, gd, h1, h2, hdx, h3⟩ := (hstep γ i hin).out
        have hdst : zaN ops i = dst := by
          obtain ⟨o, q1, q2, _⟩ := zbJ h2
          have : nth ops i = some o := by rw [za1]; simpa using q1
          simp [zaN, this, q2]
        have h1g := gens_nth γ es 0 i t x h1
        rw [Nat.zero_add] at h1g
        have hpl : ∀ j ∈ zaq ops i, listed.getD j true = true := fun j hj => by
          have hjl : j < ops.length := by have := hpre i hil j hj; omega
          rw [zdc hs hjl]; exact hps j hj
        have hkp : KOk w' F' (zag a) (kpre (gens γ 0 es) K (zaq ops i)) := kpre_ok hk _ (fun j hj t' d' e' hn' => by
          obtain ⟨y, y1, y2, y3⟩ := gens_nth' γ es 0 j t' d' e' hn'
          rw [Nat.zero_add] at y2
          subst y2
          exact hh j t' y (by have := hpre i hil j hj; omega) (hpl j hj) y1)
        obtain ⟨o, o1, o2, o3, o4, o5⟩ := zbJ h2
        have hdok : dok N dst = true := by
          cases hds : dst with
          | none => rfl
          | some t' => exact (hd i t' hin (by rw [hdst, hds])).1
        -- behind the operation
        have after : ∀ (γ' : Gh) v w'' F'' q, (∀ j t' x', j ≠ i → nth es j = some (t', x') → x'.d γ' j = x'.d γ j) → q ≤ n → Good C (hof H (gens γ' 0 es) q) w'' F'' → HSub (hof H (gens γ' 0 es) q) Hs → Keep w' F' w'' F'' → (dst = some t → D.rep w'' F'' (x.d γ' i) v) → (∀ k, k < q → isEf (gens γ' 0 es) k = true → (listed.setIfInBounds i true).getD k true = true) → (∀ k, q ≤ k → k < n → isEf (gens γ' 0 es) k = true → (listed.setIfInBounds i true).getD k true = false) →
            wpAny P .any ops.toArray (fun e a' w' => Ok N a' ∧ ∃ F', Q e (zag a') w' F') fuel (listed.setIfInBounds i true) (a.put o.dst v) w'' := by
          intro γ' v w'' F'' q hoth hq g' hsq kp hv hdone' hnot'
          have henv : zag (a.put o.dst v) = upd (zag a) dst v := by rw [o2]; exact zch ok hdok v
          refine ih _ γ' _ _ F'' q (by simp [hs]) ?_ (ok.put _ _) ?_ hq g' hsq hdone' hnot' ?_ ?_ ?_
          · have := cnt_set hil hs hu; omega
          · rw [henv]
            cases hds : dst with
            | none => exact hk.keep kp
            | some t' => exact (hk.keep kp).other (hd i t' hin (by rw [hdst, hds])).2.1
          · intro j t' x' hj hl hn'
            rw [henv]
            rcases hdn2 j hj t' x' hn' with ⟨e1, e2⟩ | ⟨e1, e2, e3⟩
            · by_cases hij : i = j
              · subst hij
                rw [h1] at hn'; cases hn'
                rw [hdst] at e1; subst e1
                simpa [upd] using hv rfl
              · rw [getD_set_ne true hij] at hl
                have hkeep : upd (zag a) dst v t' = zag a t' := by
                  cases hds : dst with
                  | none => rfl
                  | some t2 =>
                    have : t' ≠ t2 := by rintro rfl; exact hne i j t' hin hj hij (by rw [hdst, hds]) e1
                    simp only [upd, this, if_false]
                rw [hkeep, hoth j t' x' (fun e => hij e.symm) hn']
                exact D.keep kp _ _ (hh j t' x' hj hl hn')
            · rw [← henv]
              have : x'.d γ' j = .v undef := by cases x' <;> simp [Ex.isS] at e3; rfl
              rw [this]
              exact hfar _ (ok.put _ _) t' e2
          · intro j hj hl k hk'
            by_cases hij : i = j
            · subst hij
              have := hpl k hk'
              have hki : i ≠ k := by have := hpre i hil k hk'; omega
              rw [getD_set_ne true hki]; exact this
            · rw [getD_set_ne true hij] at hl
              have := hdn j hj hl k hk'
              by_cases hik : i = k
              · subst hik; rw [hu] at this; cases this
              · rw [getD_set_ne true hik]; exact this
          · intro j hj hjl
            rw [getD_set_ne true (by omega)]
            exact ht j hj hjl
        have hset : (listed.setIfInBounds i true).getD i true = true := by
          have : i < listed.size := by omega
          simp [this]
        -- a quiet one: as many have turned what is owned as ahead
        have stay : isEf (gens γ 0 es) i = false → (∀ k, k < p → isEf (gens γ 0 es) k = true → (listed.setIfInBounds i true).getD k true = true) ∧ (∀ k, p ≤ k → k < n → isEf (gens γ 0 es) k = true → (listed.setIfInBounds i true).getD k true = false) := by
          intro hq
          refine ⟨fun k h1 h2 => ?_, fun k h1 h2 h3 => ?_⟩
          · by_cases hik : i = k
            · subst hik; exact hset
            · rw [getD_set_ne true hik]; exact hdone k h1 h2
          · by_cases hik : i = k
            · subst hik; rw [hq] at h3; cases h3
            · rw [getD_set_ne true hik]; exact hnot k h1 h2 h3
        have gs := hsp.out _ _ _ g
        have nothing : ∀ (γ' : Gh), isEf (gens γ 0 es) i = true → (∀ k, p ≤ k → k < i → isEf (gens γ 0 es) k = false) → p ≤ i → (∀ k, k < i + 1 → isEf (gens γ' 0 es) k = true → (listed.setIfInBounds i true).getD k true = true) ∧ (∀ k, i + 1 ≤ k → k < n → isEf (gens γ' 0 es) k = true → (listed.setIfInBounds i true).getD k true = false) := by
          intro γ' hq hno hpi
          refine ⟨fun k hk1 hk2 => ?_, fun k hk1 hk2 hk3 => ?_⟩
          · rw [zcg γ' γ] at hk2
            by_cases hik : i = k
            · subst hik; exact hset
            · rw [getD_set_ne true hik]
              rcases Nat.lt_or_ge k p with h' | h'
              · exact hdone k h' hk2
              · have := hno k h' (by omega); rw [hk2] at this; cases this
          · rw [zcg γ' γ] at hk3
            rw [getD_set_ne true (by omega)]; exact hnot k (by omega) hk2 hk3
        have front : isEf (gens γ 0 es) i = true → p ≤ i ∧ (∀ k, p ≤ k → k < i → isEf (gens γ 0 es) k = false) ∧ Good C (hof H (gens γ 0 es) i) w' F' := by
          intro hq
          have hpi : p ≤ i := by
            rcases Nat.lt_or_ge i p with h' | h'
            · have := hdone i h' hq; rw [hu] at this; cases this
            · exact h'
          have hno : ∀ k, p ≤ k → k < i → isEf (gens γ 0 es) k = false := by
            intro k hk1 hk2
            cases hke : isEf (gens γ 0 es) k with
            | false => rfl
            | true =>
              obtain ⟨l, l1, l2, l3, l4⟩ := lastEf_some i k hk2 hke
              have := hpl l (hchain γ i l hin hq l1)
              rw [hnot l (by omega) (by omega) l4] at this; cases this
          exact ⟨hpi, hno, by rw [zcm (H0 := H) p i hpi hno]; exact g⟩
        have run : runO P op ty (kpre (gens γ 0 es) K (zaq ops i)) Hs (hof H (gens γ 0 es) i) γ i x → EOp P op ty (zag a) w' (fun v w'' => wpAny P .any ops.toArray (fun e a' w' => Ok N a' ∧ ∃ F', Q e (zag a') w' F') fuel (listed.setIfInBounds i true) (a.put o.dst v) w'') := by
          intro hrun
          cases x with
          | q d =>
            have hq : isEf (gens γ 0 es) i = false := by simp [isEf, h1g, Ex.h]
            refine (Qu.out hrun _ w' F' hkp g.flt gs.h.ok).mono ?_
            rintro v w'' ⟨E, hrep⟩
            obtain ⟨g', kp⟩ := Good.fn g E
            exact after γ v w'' _ p (fun _ _ _ _ _ => rfl) hp g' hsp kp (fun _ => hrep) (stay hq).1 (stay hq).2
          | r d =>
            have hq : isEf (gens γ 0 es) i = false := by simp [isEf, h1g, Ex.h]
            have gr : Good C (hof H (gens γ 0 es) i) w' F' := by
              have hb : isRd es i = true := by simp [isRd, h1]
              have hr := hrd
              unfold readB at hr
              rw [List.all_eq_true] at hr
              have hr := hr i (List.mem_range.2 (by omega))
              rw [hb] at hr
              simp only [Bool.not_true, Bool.false_or, Bool.and_eq_true] at hr
              rw [gens_lastEf _ γ, gens_nextEf _ γ] at hr
              have anc : ∀ k, k < n → (∀ j ∈ zaq ops k, listed.getD j true = true) → ∀ j ∈ ancS ops k (zaq ops k), listed.getD j true = true := by
                intro k hkn hk1
                have := zc9 (ops := ops) (p := fun j => j < ops.length ∧ listed.getD j true = true) (fun k hk j hj => by
                  have hkn : k < n := by
                    rcases Nat.lt_or_ge k n with hh | hh
                    · exact hh
                    · have := ht k hh hk.1; rw [hk.2] at this; cases this
                  exact ⟨by have := hpre k hk.1 j hj; omega, hdn k hkn hk.2 j hj⟩) k _ (fun j hj => ⟨by have := hpre k (by omega) j hj; omega, hk1 j hj⟩)
                exact fun j hj => (this j hj).2
              rcases Nat.lt_or_ge i p with hip | hip
              · rw [zcm (H0 := H) i p (by omega) (fun k k1 k2 => ?_)] at g
                · exact g
                · cases hke : isEf (gens γ 0 es) k with
                  | false => rfl
                  | true =>
                    have hki : k ≠ i := by rintro rfl; rw [hq] at hke; cases hke
                    obtain ⟨j, j1, j2, j3, j4⟩ := nextEf_some es.length (i + 1) k (by omega) (by omega) hke
                    rw [j1] at hr
                    have hjl := hdone j (by omega) j4
                    have := anc j (by omega) (hdn j (by omega) hjl) i (zcI hr.2)
                    rw [hu] at this; cases this
              · rw [← zcm (H0 := H) p i hip (fun k k1 k2 => ?_)] at g
                · exact g
                · cases hke : isEf (gens γ 0 es) k with
                  | false => rfl
                  | true =>
                    obtain ⟨l, l1, l2, l3, l4⟩ := lastEf_some i k k2 hke
                    rw [l1] at hr
                    have := anc i hin hpl l (zcI hr.1)
                    rw [hnot l (by omega) (by omega) l4] at this; cases this
            refine (Qu.out hrun _ w' F' hkp g.flt gr.h.ok).mono ?_
            rintro v w'' ⟨E, hrep⟩
            obtain ⟨g', kp⟩ := Good.fn g E
            exact after γ v w'' _ p (fun _ _ _ _ _ => rfl) hp g' hsp kp (fun _ => hrep) (stay hq).1 (stay hq).2
          | s H' =>
            have hq : isEf (gens γ 0 es) i = true := by simp [isEf, h1g, Ex.h]
            obtain ⟨hef, hsH⟩ := hrun
            obtain ⟨hpi, hno, gi⟩ := front hq
            refine (hef.out C _ w' F' hkp gi).mono ?_
            rintro v w'' ⟨F'', d', H'', rfl, hrep, g', kp⟩
            have hh1 := zcl (gens γ 0 es) H i t _ _ h1g
            refine after γ v w'' F'' (i + 1) (fun _ _ _ _ _ => rfl) (by omega) (by rw [hh1]; exact g') (by rw [hh1]; exact hsH) kp (fun ht' => ?_) (nothing γ hq hno hpi).1 (nothing γ hq hno hpi).2
            rcases hdx with ⟨_, e⟩ | ⟨e, _, _⟩
            · cases e
            · rw [e] at ht'; cases ht'
          | e d H' =>
            have hq : isEf (gens γ 0 es) i = true := by simp [isEf, h1g, Ex.h]
            obtain ⟨hef, hsH⟩ := hrun
            obtain ⟨hpi, hno, gi⟩ := front hq
            refine (hef.out C _ w' F' hkp gi).mono ?_
            rintro v w'' ⟨F'', d', H'', ⟨rfl, rfl⟩, hrep, g', kp⟩
            have hh1 := zcl (gens γ 0 es) H i t _ _ h1g
            exact after γ v w'' F'' (i + 1) (fun _ _ _ _ _ => rfl) (by omega) (by rw [hh1]; exact g') (by rw [hh1]; exact hsH) kp (fun _ => hrep) (nothing γ hq hno hpi).1 (nothing γ hq hno hpi).2
          | o H' =>
            have hq : isEf (gens γ 0 es) i = true := by simp [isEf, h1g, Ex.h]
            obtain ⟨hef, hsH⟩ := hrun
            obtain ⟨hpi, hno, gi⟩ := front hq
            refine (hef.out C _ w' F' hkp gi).mono ?_
            rintro v w'' ⟨F'', d', H'', ⟨vv, rfl, rfl⟩, hrep, g', kp⟩
            have h1n := gens_nth (ug γ i vv) es 0 i t _ h1
            have hh1 := zcl (gens (ug γ i vv) 0 es) H i t _ _ h1n
            refine after (ug γ i vv) v w'' F'' (i + 1) (fun j t' x' hj _ => ?_) (by omega) (by rw [hh1]; exact g') (by rw [hh1]; exact hsH vv) kp ?_ (nothing _ hq hno hpi).1 (nothing _ hq hno hpi).2
            · cases x' with
              | q _ => rfl
              | r _ => rfl
              | s _ => rfl
              | e _ _ => rfl
              | o _ => simp only [Ex.d, ug_ne γ vv hj]
              | f _ _ => simp only [Ex.d, ug_ne γ vv hj]
            · intro _; simp only [Ex.d, ug_self]; exact hrep
          | f m H' =>
            have hq : isEf (gens γ 0 es) i = true := by simp [isEf, h1g, Ex.h]
            obtain ⟨hef, hsH⟩ := hrun
            obtain ⟨hpi, hno, gi⟩ := front hq
            refine (hef.out C _ w' F' hkp gi).mono ?_
            rintro v w'' ⟨F'', d', H'', ⟨vv, rfl, rfl⟩, hrep, g', kp⟩
            have h1n := gens_nth (ug γ i vv) es 0 i t _ h1
            have hh1 := zcl (gens (ug γ i vv) 0 es) H i t _ _ h1n
            refine after (ug γ i vv) v w'' F'' (i + 1) (fun j t' x' hj _ => ?_) (by omega) (by rw [hh1]; exact g') (by rw [hh1]; exact hsH vv) kp ?_ (nothing _ hq hno hpi).1 (nothing _ hq hno hpi).2
            · cases x' with
              | q _ => rfl
              | r _ => rfl
              | s _ => rfl
              | e _ _ => rfl
              | o _ => simp only [Ex.d, ug_ne γ vv hj]
              | f _ _ => simp only [Ex.d, ug_ne γ vv hj]
            · intro _; simp only [Ex.d, ug_self]; exact hrep
        unfold wpOp
        rw [o1]
        simp only
        subst o5
        cases hgo : o.guard with
        | none =>
          rw [hgo] at h3
          rw [if_pos (by unfold Region.wanted; rw [hgo])]
          left
          apply zcd
          rw [o3, o4]
          exact run h3
        | some jw =>
          obtain ⟨j, want⟩ := jw
          rw [hgo] at h3
          obtain ⟨s, u, t1, t2, t3, t4, t5⟩ := h3
          have hyv : yielded ops.toArray a.tmps j = nb u := by
            have he : zag a s = u := hkp s _ t3
            have hts : s < a.tmps.size := by rw [ok.1]; exact zbi.1 t2
            have hg' : a.tmps[s]? = some u := by
              simp only [zag, Array.getD_eq_getD_getElem?] at he
              rw [Array.getElem?_eq_getElem hts] at he ⊢
              simpa using he
            unfold yielded
            unfold zaN at t1
            cases hn : nth ops j with
            | none => rw [hn] at t1; cases t1
            | some oj =>
              rw [hn] at t1
              have : ops.toArray[j]? = some oj := by rw [za1] at hn; simpa using hn
              rw [this]
              simp only [Option.bind_some, t1, hg']
              cases u <;> rfl
          by_cases hb : nb u = some want
          · rw [if_pos (by unfold Region.wanted; rw [hgo]; simp [hyv, hb])]
            left
            apply zcd
            rw [o3, o4]
            exact run (t4 hb)
          · rw [if_neg (by unfold Region.wanted; rw [hgo]; simp [hyv, hb])]
            obtain rfl := t5 hb
            have hq : isEf (gens γ 0 es) i = false := by simp [isEf, h1g, Ex.h]
            exact after γ undef w' F' p (fun _ _ _ _ _ => rfl) hp g hsp Keep.rfl' (fun _ => rfl) (stay hq).1 (stay hq).2
  have gd := (Good.fn g (Ext.drew w)).1
  have hkd := hk.keep (Good.fn g (Ext.drew w)).2
  refine key ops.toArray.size (Array.replicate ops.toArray.size false) (fun _ => undef) a _ _ 0 (by simp) ?_ ok hkd (Nat.zero_le _) (by rw [hof_zero]; exact gd) (by rw [hof_zero]; exact hs0) (fun i hi _ => by omega) (fun i _ hi _ => ?_) ?_ ?_ ?_
  · unfold cnt
    refine Nat.le_trans (List.countP_le_length) (by simp)
  · have : i < ops.length := by omega
    simp [this]
  · intro i t x hi hl
    have : i < ops.length := by omega
    simp [this] at hl
  · intro i hi hl
    have : i < ops.length := by omega
    simp [this] at hl
  · intro i _ hi
    simp [hi]
end

/-- A literal without elements. -/
theorem e_buildSlice0 {P : Program} {ρ : Env} {w : World} {ty : TypeId} {K : Value → World → Prop} {t e z : Nat} (ht : ∀ w, (underlying t).run P w = .ok (.slice e) w) (hs : ∀ w, (Go.sizeOf e).run P w = .ok z w)
    (h : ∀ g w', New w w' g e [] → K (.slice (some ⟨g, 0, none⟩) 0 0) w') : EOp P (.buildSlice t 0 #[]) ty ρ w K := by
  refine EOp.of_run (v := .slice (some ⟨w.heap.size, 0, none⟩) 0 0) (w' := w.alloc (.cells #[] e)) (zbt ?_) (h _ _ ?_)
  · simp [Instr.buildSlice, ht, hs, Go.Instr.fill, newRow]
    rw [Array.eq_empty_of_size_eq_zero (xs := Array.map (fun _ => (default : Value)) (Array.range 0)) (by simp)]
  · have := New.mk' w e #[]
    simpa using this
theorem ef_buildSlice0 {P : Program} {ty : TypeId} {K : Kd} {H : List Hp} {t e z : Nat} (ht : ∀ w, (underlying t).run P w = .ok (.slice e) w) (hs : ∀ w, (Go.sizeOf e).run P w = .ok z w) :
    Ef P (.buildSlice t 0 #[]) ty K H (fun d H' => ∃ g, d = .ov (.slice (some ⟨g, 0, none⟩) 0 0) ∧ H' = .sl (.slice (some ⟨g, 0, none⟩) 0 0) z e [] :: H) :=
  ⟨fun C ρ w F hk gd => by
    refine e_buildSlice0 ht hs (fun g w' n => ?_)
    refine ⟨F, _, _, ⟨g, rfl, rfl⟩, ⟨rfl, rfl⟩, gd.born n ⟨[], rfl, ?_⟩ (fun b e => by cases e; rfl), Keep.ext n.ext⟩
    exact Box.own (base := 0) (cs := vcs) (z := z) (xs := []) n.box (Nat.zero_le _) rfl (fun _ h => by cases h) (by unfold maxLen; simp)⟩
end Lp
/-
  Ways that meet again, with ghosts; functions as values.
-/
set_option linter.unusedVariables false
namespace Lp
open Go Go.RowKit
section
variable {P : Program} {N : Nat} {C : Ctx} {c : Code} {K : Kd} {H : List Hp} {Q : zaG}
/-- A zbM of code whose ways meet again, each with ghosts of its own. -/
theorem zdb {G : Type} (L : G → Kd) (HI : G → List Hp) (I : G → Prop) (h : ∀ Q' : zaG, (∀ g, I g → PD C Q' .normal (L g) (HI g)) → JD P N C c K H Q') (next : ∀ g, I g → PD C Q .normal (L g) (HI g)) : JD P N C c K H Q := h Q next
end
/-- as Mv, and what all could read they still can -/
structure Mvk (K : Kd) (H : List Hp) (K' : Kd) (H' : List Hp) : Prop where
  out : ∀ C w F ρ, KOk w F ρ K → Good C H w F → ∃ F', KOk w F' ρ K' ∧ Good C H' w F' ∧ Keep w F w F'
theorem frz_good {C : Ctx} {w : World} {F : Nat → Prop} {L H1 H1' : List Hp} (hh : HL L H1 H1') (g : Good C (L ++ H1) w F) : Good C H1' w (fun b => F b ∨ blks L b) := by
  have hap := List.pairwise_append.1 g.h.apart
  have hokL : ∀ h ∈ L, h.ok w F := fun h hh => g.h.ok h (List.mem_append_left _ hh)
  refine { g with fsub := fun b hb => .inl (g.fsub b hb), fnew := ?_, flt := ?_, h := ⟨pairwise_blk hh.blk hap.2.1, hh.out g.flt hokL (fun h hm => g.h.ok h (List.mem_append_right _ hm)), fun b hb => ?_⟩ }
  · rintro b (h | ⟨x, hx, e⟩)
    · exact g.fnew b h
    · exact .inr (g.h.mine b ⟨x, List.mem_append_left _ hx, e⟩).1
  · rintro b (h | ⟨x, hx, e⟩)
    · exact g.flt b h
    · exact Hp.lt (hokL x hx) e
  · obtain ⟨x, hx, e⟩ := blks_eq hh.blk hb
    have hm := g.h.mine b ⟨x, List.mem_append_right _ hx, e⟩
    refine ⟨hm.1, ?_⟩
    rintro (h | ⟨y, hy, e'⟩)
    · exact hm.2 h
    · exact hap.2.2 y hy x hx b e' e
theorem Mvk.freeze {K : Kd} (L : List Hp) {K' : Kd} {H1 H1' : List Hp} (hs : SubL L K' K) (hh : HL L H1 H1') : Mvk K (L ++ H1) K' H1' := ⟨fun C w F ρ hk g => by
  have hokL : ∀ h ∈ L, h.ok w F := fun h hh => g.h.ok h (List.mem_append_left _ hh)
  exact ⟨fun b => F b ∨ blks L b, hs.out g.flt hokL hk, frz_good hh g, ⟨fun _ h => .inl h, fun _ _ _ => rfl⟩⟩⟩
theorem Ef.mv {P : Program} {op : Op} {ty : TypeId} {K K' : Kd} {H H' : List Hp} {R : D → List Hp → Prop} (m : Mvk K H K' H') (h : Ef P op ty K' H' R) : Ef P op ty K H R := ⟨fun C ρ w F hk g => by
  obtain ⟨F1, hk1, g1, k1⟩ := m.out C w F ρ hk g
  exact (h.out C ρ w F1 hk1 g1).mono fun u w' ⟨F', d, H1, h1, h2, h3, h4⟩ => ⟨F', d, H1, h1, h2, h3, ⟨fun b hb => h4.sub b (k1.sub b hb), fun b hb hl => h4.same b (k1.sub b hb) hl⟩⟩⟩
theorem HL.rfl' (L : List Hp) : ∀ H : List Hp, HL L H H
  | [] => .nil
  | _ :: r => .same (HL.rfl' L r)
/-- what comes out as a row of the call's own is at once what all may read -/
theorem Ef.fz {P : Program} {op : Op} {ty : TypeId} {K : Kd} {H Hr : List Hp} {R : D → List Hp → Prop} {d : D} (h : Ef P op ty K H R) (hR : ∀ e He, R e He → ∃ L, He = L ++ Hr ∧ ArgC L e d) : Ef P op ty K H (fun e He => e = d ∧ He = Hr) := ⟨fun C ρ w F hk g => (h.out C ρ w F hk g).mono fun u w' ⟨F', e, He, hr, hrep, g', kp⟩ => by
  obtain ⟨L, rfl, hc⟩ := hR e He hr
  have hL : ∀ h ∈ L, h.ok w' F' := fun h hh => g'.h.ok h (List.mem_append_left _ hh)
  have hrep2 := hc.out w' F' u g'.flt hL hrep
  exact ⟨_, d, Hr, ⟨rfl, rfl⟩, hrep2, frz_good (HL.rfl' L Hr) g', ⟨fun b hb => .inl (kp.sub b hb), fun b hb hl => kp.same b hb hl⟩⟩⟩
section
variable {P : Program} {ty : TypeId} {K : Kd} {H : List Hp}
theorem p_makeFunc {f : FuncId} {xs ys : Array Operand} {ds es : List D} (hx : opsD K xs.toList = some ds) (hy : opsD K ys.toList = some es) : Pu P (.makeFunc (.func f) xs ys) ty K H (.fn f ds es) :=
  ⟨fun ρ w F hk _ _ => by
    have h1 := zb6 hk hx
    have h2 := zb6 hk hy
    refine EOp.of_run (v := .func (.func f) (xs.map (ev ρ)) (ys.map (ev ρ))) (w' := w) ?_ ⟨rfl, xs.toList.map (ev ρ), ys.toList.map (ev ρ), ?_, h1, h2⟩
    · simp [execOp, Instr.makeFunc, Sem.run_pure, zao]
    · congr 1 <;> (apply Array.ext'; simp)⟩
end
end Lp
/-
  The tail of a row of the call's own, as a slice: read, cut and grown.
-/
set_option linter.unusedVariables false
namespace Lp
open Go Go.RowKit

theorem Qu.ef {P : Program} {op : Op} {ty : TypeId} {K : Kd} {H : List Hp} {d : D} (h : Qu P op ty K H d) : Ef P op ty K H (fun d' H' => d' = d ∧ H' = H) := ⟨fun C ρ w F hk g => (h.out ρ w F hk g.flt g.h.ok).mono fun u w' ⟨E, hr⟩ => by
  obtain ⟨g', k⟩ := g.fn E
  exact ⟨_, d, H, ⟨rfl, rfl⟩, hr, g', k⟩⟩
theorem addr_add (g o j : Nat) : (⟨g, o, none⟩ : Addr).add j = ⟨g, o + j, none⟩ := by cases j <;> simp [Addr.add]
/-- a row is a tail of itself -/
theorem HSub.slo {H : List Hp} {v : Value} {z : Nat} {T : TypeId} {xs : List D} : HSub (.sl v z T xs :: H) (.slo v z T xs :: H) := ⟨fun C w F gd => by
  have key : (Hp.sl v z T xs).ok w F → (Hp.slo v z T xs).ok w F := by
    rintro ⟨us, hr, ho⟩
    refine ⟨us, hr, ?_⟩
    have hm := ho.1
    rcases hm.2 with ⟨e, h0⟩ | ⟨g, cap, cur, e, hb, hg, hc, rest⟩
    · exact ⟨Option.none, 0, by rw [e, h0], by omega, .inl rfl⟩
    · refine ⟨_, cap, e, hc, .inr ⟨g, [], by simp, ?_⟩⟩
      simp only [List.length_nil, Nat.zero_add, List.nil_append]
      rw [← e]; exact ho
  have hbl : ∀ b, (Hp.slo v z T xs).blk b → (Hp.sl v z T xs).blk b := by
    rintro b ⟨A, n, c, e, _, hb⟩
    show v.ownBlock = some b
    rw [e]; show some A.block = _; rw [hb]
  have ha := List.pairwise_cons.1 gd.h.apart
  exact { gd with h := ⟨List.pairwise_cons.2 ⟨fun h hh b hb => ha.1 h hh b (hbl b hb), ha.2⟩, fun h hh => by
    rcases List.mem_cons.1 hh with e | e
    · rw [e]; exact key (gd.h.ok _ List.mem_cons_self)
    · exact gd.h.ok h (List.mem_cons_of_mem _ e), fun b ⟨h, hh, hb⟩ => by
    rcases List.mem_cons.1 hh with e | e
    · rw [e] at hb; exact gd.h.mine b ⟨_, List.mem_cons_self, hbl b hb⟩
    · exact gd.h.mine b ⟨h, List.mem_cons_of_mem _ e, hb⟩⟩ }⟩
theorem cut0 {z n m c : Nat} {A : Option Addr} (h : c = 0 ∨ ∃ g o, A = some ⟨g, o, none⟩) : cut z (.slice A m c) 0 n = .slice A n c := by
  unfold cut
  simp only [Nat.zero_mul, Nat.sub_zero]
  rcases h with h | ⟨g, o, h⟩
  · rw [if_pos h]
  · subst h; rw [Option.map_some, addr_add]; simp
theorem TlOk.cut0 {w : World} {z n : Nat} {T : TypeId} {u : Value} {us : List Value} (h : TlOk w z T u us) : ∃ A c, u = .slice A us.length c ∧ us.length ≤ c ∧ Lp.cut z u 0 n = .slice A n c ∧ (0 < us.length → ∃ g o, A = some ⟨g, o, none⟩) := by
  obtain ⟨A, c, e, hle, h⟩ := h
  refine ⟨A, c, e, hle, ?_, fun hl => ?_⟩
  · rw [e]; refine Lp.cut0 ?_
    rcases h with h | ⟨g, p, h, _⟩
    · exact .inl h
    · exact .inr ⟨g, _, h⟩
  · rcases h with h | ⟨g, p, h, _⟩
    · omega
    · exact ⟨g, _, h⟩
section
variable {P : Program} {ty : TypeId} {K : Kd} {H : List Hp}
end

section
variable {P : Program} {ty : TypeId} {K : Kd} {H : List Hp} {α : Type} {f : α → D}
end
end Lp
