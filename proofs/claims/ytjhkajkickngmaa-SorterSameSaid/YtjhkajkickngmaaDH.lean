/-
  BYTES: rows of bytes, texts appended to them; a strings.Builder.
-/
import Derived.Lib.AppendStr
import Derived.Lib.UnsafeStr
import Derived.Test.YtjhkajkickngmaaV1
set_option linter.unusedVariables false
namespace Lp
open Go Go.RowKit
open Go.Lib (strCells strCells_eq byteCells byteCells_length run_append_own_string)

section
variable {P : Program} {ty : TypeId} {K : Kd} {H : List Hp}
/-! ### a range over a text -/
theorem ef_range {x : Operand} {t : TypeId} {s : ByteArray} (hx : opS K x = some s) (ht : ∀ w, (underlying t).run P w = .ok .string w) : Ef P (.range t x) ty K H (fun d H' => ∃ g, d = .v (.pointer (some ⟨g, 0, none⟩)) ∧ H' = .it g s 0 :: H) :=
  ⟨fun C ρ w F hk gd => by
    have e := hk.opS hx
    refine EOp.of_run (v := .pointer (some ⟨w.heap.size, 0, none⟩)) (w' := w.alloc (.stringIter s 0)) (by simp [execOp, mkOper, e, Instr.range, ht]) ?_
    have E := Ext.alloc w (.stringIter s 0)
    have g' := gd.ext E
    refine ⟨F, _, _, ⟨w.heap.size, rfl, rfl⟩, rfl, g'.more (heap_alloc_new w _) (fun b hb => ?_), Keep.ext E⟩
    cases hb
    exact ⟨gd.size, fun hF => by have := gd.flt _ hF; omega, fun hB => by have := blks_lt gd.h hB; omega⟩⟩
def decR (s : ByteArray) (p : Nat) : Nat := (Utf8.decode s p).1
def decW (s : ByteArray) (p : Nat) : Nat := (Utf8.decode s p).2
theorem ef_next_t {x : Operand} {s : ByteArray} {g p i : Nat} (hx : opD K x = some (.v (.pointer (some ⟨g, 0, none⟩)))) (hm : nth H i = some (.it g s p)) (hp : p < s.size) :
    Ef P (.next x true) ty K H (fun d H' => d = .tup [.v (.bool true), .v (.int .i64 (p : Int)), .v (.int .i32 (decR s p : Int))] ∧ H' = H.set i (.it g s (p + decW s p))) :=
  ⟨fun C ρ w F hk gd => by
    have e : ev ρ x = _ := hk.op hx
    have hb : w.heap[g]? = some (.stringIter s p) := gd.h.ok _ (nth_mem hm)
    have hlt := (Array.getElem?_eq_some_iff.1 hb).1
    refine EOp.of_run (v := .tuple #[.bool true, .int .i64 (p : Int), .int .i32 (decR s p : Int)]) (w' := { w with heap := w.heap.setIfInBounds g (.stringIter s (p + decW s p)) }) ?_ ?_
    · simp [execOp, mkOper, e, Instr.next, getObj, setObj, Sem.run, hb, hp, decR, decW, goInt]
    have := gd.turn (h' := .it g s (p + decW s p)) (w' := { w with heap := w.heap.setIfInBounds g (.stringIter s (p + decW s p)) }) hm (fun b _ hn => by
        have : ¬ g = b := hn
        simp only [Array.getElem?_setIfInBounds]; rw [if_neg this]) (by simp) rfl rfl rfl (fun b hb => .inl hb) (fun _ => by
        show _ = _
        simp only [Array.getElem?_setIfInBounds, if_true, hlt])
    exact ⟨F, _, _, ⟨rfl, rfl⟩, ⟨_, rfl, _, _, rfl, rfl, _, _, rfl, rfl, _, _, rfl, rfl, rfl⟩, this.1, this.2⟩⟩
theorem p_next_f {x : Operand} {s : ByteArray} {g p i : Nat} (hx : opD K x = some (.v (.pointer (some ⟨g, 0, none⟩)))) (hm : nth H i = some (.it g s p)) (hp : s.size ≤ p) : Pu P (.next x true) ty K H (.tup [.v (.bool false)]) :=
  ⟨fun ρ w F hk _ hH => by
    have e : ev ρ x = _ := hk.op hx
    have hb : w.heap[g]? = some (.stringIter s p) := hH _ (nth_mem hm)
    refine EOp.of_run (v := .tuple #[.bool false]) (w' := w) ?_ ⟨rfl, _, rfl, _, _, rfl, rfl, rfl⟩
    simp [execOp, mkOper, e, Instr.next, getObj, Sem.run, hb, show ¬ p < s.size by omega]⟩
theorem decW_pos (s : ByteArray) (p : Nat) : 1 ≤ decW s p := by
  unfold decW Utf8.decode
  simp only
  (repeat' split) <;> simp
theorem decW_le (s : ByteArray) (p : Nat) (h : p < s.size) : p + decW s p ≤ s.size := by
  unfold decW Utf8.decode
  simp only [Bool.and_eq_true, decide_eq_true_eq]
  (repeat' split) <;> simp <;> omega
/-- the runes of a text, from a place on -/
def runesAt (s : ByteArray) (p : Nat) : List Int := if h : p < s.size then (decR s p : Int) :: runesAt s (p + decW s p) else []
termination_by s.size - p
decreasing_by have := decW_pos s p; omega
theorem runesAt_lt {s : ByteArray} {p : Nat} (h : p < s.size) : runesAt s p = (decR s p : Int) :: runesAt s (p + decW s p) := by
  conv => lhs; unfold runesAt
  rw [dif_pos h]
theorem runesAt_ge {s : ByteArray} {p : Nat} (h : s.size ≤ p) : runesAt s p = [] := by
  unfold runesAt; rw [dif_neg (by omega)]
def runes (s : ByteArray) : List Int := runesAt s 0
theorem decR_lt (s : ByteArray) (p : Nat) : decR s p < 1114112 := by
  unfold decR Utf8.decode
  simp only [Bool.and_eq_true, decide_eq_true_eq]
  have hv : ∀ c, Utf8.valid c = true → c < 1114112 := by
    intro c; unfold Utf8.valid; simp; intros; omega
  (repeat' split)
  all_goals first
    | (simp only [Utf8.runeError]; omega)
    | (simp only; omega)
    | (rename_i h; have := hv _ h.2; simp only; omega)
end
end Lp
