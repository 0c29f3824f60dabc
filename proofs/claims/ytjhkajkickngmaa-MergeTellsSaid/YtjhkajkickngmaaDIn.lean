/-
  What comes in, as data: labels, rows, lists of rows, texts; and a law whose answer is fixed.
-/
import Derived.Test.YtjhkajkickngmaaProg
import Derived.Test.YtjhkajkickngmaaPSpec
set_option linter.unusedVariables false
namespace Lp
open Go Go.RowKit Go.ChangeShapes Go.Deep Go.Proofs

instance : Inhabited Lbl := ⟨⟨ByteArray.empty, ByteArray.empty⟩⟩
instance : Inhabited RowD := ⟨⟨[], 0⟩⟩

/-- A call that owns nothing and whose answer is fixed. -/
theorem CD.law {P : Program} {f : FuncId} {ds : List D} {r : D} (h : CD P f [] ds (isR r)) {w : World} {vs : List Value} (hr : D.repA w (FA w) ds vs) : Calls P f vs.toArray w (Ret fun u w' => Ext w w' ∧ ∃ F', D.rep w' F' r u) := by
  refine (h.out w (FA w) vs hr (fun _ h => h) HOk.empty).mono ?_
  rintro e w' ⟨u, rfl, F', d', H', ⟨rfl, rfl⟩, hrep, g⟩
  have hno : ∀ b, ¬ blks [] b := fun _ ⟨_, h, _⟩ => by cases h
  exact ⟨u, rfl, ⟨g.os, g.tape, g.output, g.size, fun b hb _ => g.frame b hb (hno b)⟩, F', hrep⟩

section
variable {H : Type} {enc : TypeId × Value → H} {w : World} {held : Bool} {sp : Nat → Bool} {n : Nat}
theorem in_int {cs : List Value} {y : DataW H × List MemPlace} (h : DataW.trod enc Try.prog w 0 sp held n 3 cs = some y) : ∃ d : Int, InD w 1 (.v (.int .i64 d)) cs := by
  obtain ⟨i, e1, _, _⟩ := DataW.trod_int (by kernel_rfl) h
  exact ⟨i, by rw [e1]; exact InD.one rfl rfl⟩
theorem in_lbl {cs : List Value} {y : DataW H × List MemPlace} (h : DataW.trod enc Try.prog w 0 sp held n 74 cs = some y) : ∃ d : Lbl, InD w 2 (Lbl.d d) cs := by
  obtain ⟨a, b, y0, y1, m, rfl, h0, h1⟩ := open_str2 (f0 := ⟨"Name", 9, 0, false, "", "", 0⟩) (f1 := ⟨"Value", 9, 1, false, "", "", 16⟩) (by kernel_rfl) rfl rfl (by kernel_rfl) (by kernel_rfl) (by kernel_rfl) h
  obtain ⟨s0, e0, _, k0⟩ := DataW.trod_string (by kernel_rfl) h0
  obtain ⟨s1, e1, _, k1⟩ := DataW.trod_string (by kernel_rfl) h1
  simp at e0 e1
  subst e0; subst e1
  exact ⟨⟨s0, s1⟩, .agg #[.string s0, .string s1], rfl, ⟨_, rfl, _, _, rfl, rfl, ⟨rfl, k0⟩, _, _, rfl, rfl, ⟨rfl, k1⟩, rfl⟩, fun c hc => by
    simp [Value.cells] at hc; rcases hc with rfl | rfl <;> rfl, rfl⟩
theorem in_labels {vs : List Value} {x : DataW H × List MemPlace} (h : DataW.trod enc Try.prog w 0 sp held n 32 vs = some x) : ∃ (v : Value) (ls : List Lbl), vs = [v] ∧ D.rep w (FA w) (.sh 2 (ls.map Lbl.d)) v := open_slD Lbl.d (by kernel_rfl) (by kernel_rfl) (by decide) h (fun _ _ _ h => in_lbl h)
theorem in_row {cs : List Value} {y : DataW H × List MemPlace} (h : DataW.trod enc Try.prog w 0 sp held n 34 cs = some y) : ∃ d : RowD, InD w 2 (RowD.d d) cs := by
  obtain ⟨a, b, y0, y1, m, rfl, h0, h1⟩ := open_str2 (f0 := ⟨"Labels", 32, 0, false, "", "", 0⟩) (f1 := ⟨"V", 3, 1, false, "", "", 24⟩) (by kernel_rfl) rfl rfl (by kernel_rfl) (by kernel_rfl) (by kernel_rfl) h
  obtain ⟨v, ls, e0, k0⟩ := in_labels h0
  obtain ⟨i, e1, _, _⟩ := DataW.trod_int (by kernel_rfl) h1
  have e3 : b = Value.int .i64 i := by simpa using e1
  have e4 : a = v := by simpa using e0
  subst e4; subst e3
  have hv : a.oneCell' = true := by obtain ⟨A, c, e, _⟩ := k0; rw [e]; rfl
  exact ⟨⟨ls, i⟩, .agg #[a, .int .i64 i], rfl, ⟨_, rfl, _, _, rfl, hv, k0, _, _, rfl, rfl, rfl, rfl⟩, fun c hc => by
    simp [Value.cells] at hc; rcases hc with rfl | rfl; exact hv; rfl, rfl⟩
theorem in_rows {vs : List Value} {x : DataW H × List MemPlace} (h : DataW.trod enc Try.prog w 0 sp held n 27 vs = some x) : ∃ (v : Value) (ls : List RowD), vs = [v] ∧ D.rep w (FA w) (.sh 2 (ls.map RowD.d)) v := open_slD RowD.d (by kernel_rfl) (by kernel_rfl) (by decide) h (fun _ _ _ h => in_row h)
theorem in_lists {vs : List Value} {x : DataW H × List MemPlace} (h : DataW.trod enc Try.prog w 0 sp held n 22 vs = some x) : ∃ (v : Value) (ls : LLs), vs = [v] ∧ D.rep w (FA w) (.sh 1 (ls.map (D.ls 2 RowD.d))) v := open_slD (D.ls 2 RowD.d) (by kernel_rfl) (by kernel_rfl) (by decide) h (fun _ _ _ h => by
  obtain ⟨v, ls, e, k⟩ := in_rows h
  exact ⟨ls, by rw [e]; exact InD.one k (by obtain ⟨A, c, e, _⟩ := k; rw [e]; rfl)⟩)
end
end Lp
