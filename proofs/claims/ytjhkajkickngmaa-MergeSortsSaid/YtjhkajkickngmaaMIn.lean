/-
  Labels, rows, lists of rows that came in.
-/
import Derived.Test.YtjhkajkickngmaaEngI
import Derived.Test.YtjhkajkickngmaaMSpec
import Derived.Test.YtjhkajkickngmaaProg
namespace Lp
open Go Go.RowKit Go.ChangeShapes Go.Deep Go.Proofs

instance : Inhabited Lbl := ⟨⟨ByteArray.empty, ByteArray.empty⟩⟩
instance : Inhabited RowD := ⟨⟨.slice none 0 0, [], 0⟩⟩
instance : Inhabited LR := ⟨⟨.slice none 0 0, []⟩⟩

section
variable {H : Type} {enc : TypeId × Value → H} {w : World} {held : Bool} {sp : Nat → Bool} {n : Nat}
def LblOk (x : Lbl) : Prop := x.n.size ≤ 9223372036854775807 ∧ x.v.size ≤ 9223372036854775807
theorem open_lbl {cs : List Value} {y : DataW H × List MemPlace} (h : DataW.trod enc Try.prog w 0 sp held n 74 cs = some y) : ∃ d : Lbl, cs = d.cs ∧ d.cs.length = 2 ∧ LblOk d := by
  obtain ⟨a, b, y0, y1, m, rfl, h0, h1⟩ := open_str2 (f0 := ⟨"Name", 9, 0, false, "", "", 0⟩) (f1 := ⟨"Value", 9, 1, false, "", "", 16⟩) (by kernel_rfl) rfl rfl (by kernel_rfl) (by kernel_rfl) (by kernel_rfl) h
  obtain ⟨s0, e0, _, k0⟩ := DataW.trod_string (by kernel_rfl) h0
  obtain ⟨s1, e1, _, k1⟩ := DataW.trod_string (by kernel_rfl) h1
  simp at e0 e1
  exact ⟨⟨s0, s1⟩, by rw [e0, e1]; rfl, rfl, k0, k1⟩
theorem open_labels {vs : List Value} {x : DataW H × List MemPlace} (h : DataW.trod enc Try.prog w 0 sp held n 32 vs = some x) : ∃ v ls, vs = [v] ∧ RLab w 0 w.heap.size v ls ∧ (∀ d ∈ ls, LblOk d) ∧ ls.length ≤ 9223372036854775807 :=
  open_sl LblOk (by kernel_rfl) (by kernel_rfl) (by decide) h (fun _ _ _ h => open_lbl h)
def RowOk (w : World) (r : RowD) : Prop := RLab w 0 w.heap.size r.lv r.ls ∧ (∀ d ∈ r.ls, LblOk d) ∧ r.ls.length ≤ 9223372036854775807
theorem open_row {cs : List Value} {y : DataW H × List MemPlace} (h : DataW.trod enc Try.prog w 0 sp held n 34 cs = some y) : ∃ d : RowD, cs = d.cs ∧ d.cs.length = 2 ∧ RowOk w d := by
  obtain ⟨a, b, y0, y1, m, rfl, h0, h1⟩ := open_str2 (f0 := ⟨"Labels", 32, 0, false, "", "", 0⟩) (f1 := ⟨"V", 3, 1, false, "", "", 24⟩) (by kernel_rfl) rfl rfl (by kernel_rfl) (by kernel_rfl) (by kernel_rfl) h
  obtain ⟨v, ls, e0, k0⟩ := open_labels h0
  obtain ⟨i, e1, _, _⟩ := DataW.trod_int (by kernel_rfl) h1
  simp at e0 e1
  exact ⟨⟨v, ls, i⟩, by rw [e0, e1]; rfl, rfl, k0⟩
theorem open_rows {vs : List Value} {x : DataW H × List MemPlace} (h : DataW.trod enc Try.prog w 0 sp held n 27 vs = some x) : ∃ v rs, vs = [v] ∧ SlT RowD.cs 2 w 0 w.heap.size v rs ∧ (∀ d ∈ rs, RowOk w d) ∧ rs.length ≤ 9223372036854775807 :=
  open_sl (RowOk w) (by kernel_rfl) (by kernel_rfl) (by decide) h (fun _ _ _ h => open_row h)
def LROk (w : World) (x : LR) : Prop := SlT RowD.cs 2 w 0 w.heap.size x.sv x.rs ∧ (∀ d ∈ x.rs, RowOk w d) ∧ x.rs.length ≤ 9223372036854775807
theorem open_lists {vs : List Value} {x : DataW H × List MemPlace} (h : DataW.trod enc Try.prog w 0 sp held n 22 vs = some x) : ∃ v ll, vs = [v] ∧ RLL w 0 w.heap.size v ll ∧ ll.length ≤ 9223372036854775807 ∧
    ∀ y ∈ ll, y.rs.length ≤ 9223372036854775807 ∧ ∀ r ∈ y.rs, r.ls.length ≤ 9223372036854775807 ∧ ∀ x ∈ r.ls, x.n.size ≤ 9223372036854775807 ∧ x.v.size ≤ 9223372036854775807 := by
  obtain ⟨v, ll, e, h1, h2, h3⟩ := open_sl (α := LR) (cs := LR.cs) (z := 1) (LROk w) (by kernel_rfl) (by kernel_rfl) (by decide) h (fun _ _ _ h => by
    obtain ⟨v, rs, e, k⟩ := open_rows h
    exact ⟨⟨v, rs⟩, e, rfl, k⟩)
  exact ⟨v, ll, e, ⟨h1, fun x hx => ⟨(h2 x hx).1, fun r hr => ((h2 x hx).2.1 r hr).1⟩⟩, h3, fun y hy => ⟨(h2 y hy).2.2, fun r hr => ⟨((h2 y hy).2.1 r hr).2.2, ((h2 y hy).2.1 r hr).2.1⟩⟩⟩
end
end Lp
