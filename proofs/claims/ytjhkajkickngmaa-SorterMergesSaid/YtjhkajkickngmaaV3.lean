/- Walks, printed by a program of mine (wip/tools/dw.py): each theorem says what a function of the translation hands back. -/
import Derived.Test.YtjhkajkickngmaaV1
import Derived.Test.YtjhkajkickngmaaPTree
set_option linter.unusedSimpArgs false
set_option linter.unusedVariables false
namespace Lp
open Go Go.RowKit Go.Proofs

namespace HdV3
theorem bd_189 : ∀ w, ((#[⟨"order", 3, 0, false, "", "leporello/merge", 0⟩, ⟨"l", 22, 1, false, "", "leporello/merge", 8⟩, ⟨"width", 3, 2, false, "", "leporello/merge", 32⟩, ⟨"best", 25, 3, false, "", "leporello/merge", 40⟩] : Array Field).mapM fun f => do pure (f.offset, ← Go.sizeOf f.type) : Sem (Array (Nat × Nat))).run Try.prog w = .ok ([(0, 1), (1, 1), (2, 1), (3, 1)] : List (Nat × Nat)).toArray w := fun _ => by kernel_rfl
theorem bd_192 : ∀ w, ((#[⟨"r", 34, 0, false, "", "leporello/merge", 0⟩] : Array Field).mapM fun f => do pure (f.offset, ← Go.sizeOf f.type) : Sem (Array (Nat × Nat))).run Try.prog w = .ok ([(0, 2)] : List (Nat × Nat)).toArray w := fun _ => by kernel_rfl
theorem bd_214 : ∀ w, ((#[] : Array Field).mapM fun f => do pure (f.offset, ← Go.sizeOf f.type) : Sem (Array (Nat × Nat))).run Try.prog w = .ok ([] : List (Nat × Nat)).toArray w := fun _ => by kernel_rfl
theorem bd_34 : ∀ w, ((#[⟨"Labels", 32, 0, false, "", "", 0⟩, ⟨"V", 3, 1, false, "", "", 24⟩] : Array Field).mapM fun f => do pure (f.offset, ← Go.sizeOf f.type) : Sem (Array (Nat × Nat))).run Try.prog w = .ok ([(0, 1), (1, 1)] : List (Nat × Nat)).toArray w := fun _ => by kernel_rfl
theorem fa_189_0 (b o : Nat) : ∀ w, (Instr.fieldAt 189 (.pointer (some ⟨b, o, none⟩)) 0).run Try.prog w = .ok (.pointer (some ⟨b, o + 0, none⟩)) w := fun _ => by kernel_rfl
theorem fa_189_1 (b o : Nat) : ∀ w, (Instr.fieldAt 189 (.pointer (some ⟨b, o, none⟩)) 1).run Try.prog w = .ok (.pointer (some ⟨b, o + 1, none⟩)) w := fun _ => by kernel_rfl
theorem fa_189_2 (b o : Nat) : ∀ w, (Instr.fieldAt 189 (.pointer (some ⟨b, o, none⟩)) 2).run Try.prog w = .ok (.pointer (some ⟨b, o + 2, none⟩)) w := fun _ => by kernel_rfl
theorem fa_189_3 (b o : Nat) : ∀ w, (Instr.fieldAt 189 (.pointer (some ⟨b, o, none⟩)) 3).run Try.prog w = .ok (.pointer (some ⟨b, o + 3, none⟩)) w := fun _ => by kernel_rfl
theorem fa_192_0 (b o : Nat) : ∀ w, (Instr.fieldAt 192 (.pointer (some ⟨b, o, none⟩)) 0).run Try.prog w = .ok (.pointer (some ⟨b, o + 0, none⟩)) w := fun _ => by kernel_rfl
theorem inf_3 : ∃ i, Try.prog.info? 3 = some i ∧ i.bytes = 8 ∧ i.size = 1 := inf_of (by kernel_rfl)
theorem infz_27 : ∃ i, Try.prog.info? 27 = some i ∧ i.zero = some (.slice none 0 0) ∧ i.size = 1 ∧ i.bytes = 24 := infz_of (by kernel_rfl)
theorem infz_3 : ∃ i, Try.prog.info? 3 = some i ∧ i.zero = some (.int .i64 0) ∧ i.size = 1 ∧ i.bytes = 8 := infz_of (by kernel_rfl)
theorem infz_34 : ∃ i, Try.prog.info? 34 = some i ∧ i.zero = some (.agg #[(.slice none 0 0), (.int .i64 0)]) ∧ i.size = 2 ∧ i.bytes = 32 := infz_of (by kernel_rfl)
theorem und_22 : Try.prog.underlying 22 = some (.slice 27) := by kernel_rfl
theorem und_25 : Try.prog.underlying 25 = some (.slice 3) := by kernel_rfl
theorem und_27 : Try.prog.underlying 27 = some (.slice 34) := by kernel_rfl
end HdV3
open HdV3

set_option maxHeartbeats 4000000 in
set_option maxRecDepth 100000 in
theorem leaf_some (t : TreeD) (k : Nat) (x : RowD) (hh : hd t.l k = some x) :
    CD Try.prog 147 [] [.el (TreeD.d t) 0, .v (.int .i64 ((k : Nat) : Int))] (isR (.ifc 192 (RowD.d x))) := by
  refine cd_of_JD Try.func147 rfl (N := 36) rfl rfl (fun C => ?_)
  refine JD.keep [0, 1] [(0, .el (TreeD.d t) 0), (1, .v (.int .i64 ((k : Nat) : Int)))] rfl ?_
  refine JD.bd 0 rfl (fun bd0 => ?_)
  refine jd_seq [false] [true] rfl rfl rfl ?_
  refine jd_region rfl ?_
  refine od_pu rfl rfl (p_assign rfl) ?_
  refine od_nil rfl ?_
  refine pd_seq ?_
  refine jd_seq [true, false] [true, true] rfl rfl rfl ?_
  refine jd_seq [true, false, false] [true, false, true] rfl rfl rfl ?_
  by_cases hg1 : ((t.l.length : Nat) : Int) ≤ ((k : Nat) : Int)
  · skip
    refine jd_region rfl ?_
    refine od_pu rfl rfl (p_move rfl) ?_
    refine od_pu rfl rfl (p_move rfl) ?_
    refine od_pu rfl rfl (p_nilCheck_el rfl) ?_
    refine od_pu rfl rfl (p_fieldAddr_el rfl fa_189_1 rfl) ?_
    refine od_pu rfl rfl (p_load_el1 rfl Try.isAgg22 rfl) ?_
    refine od_pu rfl rfl (p_len (n := t.l.length) rfl Try.runUnderlying22 (by simp only [List.length_map, List.length_cons, List.length_nil])) ?_
    refine od_pu rfl rfl (p_geq rfl rfl (decide_eq_true hg1)) ?_
    refine od_pu rfl rfl (p_move rfl) ?_
    refine od_skip rfl rfl rfl rfl rfl (by decide) ?_
    refine od_skip rfl rfl rfl rfl rfl (by decide) ?_
    refine od_skip rfl rfl rfl rfl rfl (by decide) ?_
    refine od_skip rfl rfl rfl rfl rfl (by decide) ?_
    refine od_skip rfl rfl rfl rfl rfl (by decide) ?_
    refine od_skip rfl rfl rfl rfl rfl (by decide) ?_
    refine od_skip rfl rfl rfl rfl rfl (by decide) ?_
    refine od_skip rfl rfl rfl rfl rfl (by decide) ?_
    refine od_skip rfl rfl rfl rfl rfl (by decide) ?_
    refine od_pu rfl rfl (p_pick_t rfl rfl) ?_
    refine od_nil rfl ?_
    refine pd_seq ?_
    refine JD.keep [0, 1, 4, 22] [(0, .el (TreeD.d t) 0), (1, .v (.int .i64 ((k : Nat) : Int))), (4, .v .nilIface), (22, .v (.bool true))] rfl ?_
    refine jd_cond_t [true, false, true, false] rfl rfl rfl ?_
    refine jd_seq [true, false, true, false, false] [true, false, true, false, true] rfl rfl rfl ?_
    refine jd_region rfl ?_
    refine od_pu rfl rfl (p_build [] [] (zv := (.agg #[])) rfl rfl (.nil) (Try.runUnderlying214) Try.zeroValue214 bd_214 trivial rfl) ?_
    refine od_pu rfl rfl (p_mkIface rfl (fun _ _ => by kernel_rfl)) ?_
    refine od_pu rfl rfl (p_assign rfl) ?_
    refine od_nil rfl ?_
    refine pd_seq ?_
    refine jd_ret rfl ?_
    refine pd_seq_ret ?_
    exfalso; rw [hd_far (by omega)] at hh; cases hh
  · skip
    refine jd_region rfl ?_
    refine od_pu rfl rfl (p_move rfl) ?_
    refine od_pu rfl rfl (p_move rfl) ?_
    refine od_pu rfl rfl (p_nilCheck_el rfl) ?_
    refine od_pu rfl rfl (p_fieldAddr_el rfl fa_189_1 rfl) ?_
    refine od_pu rfl rfl (p_load_el1 rfl Try.isAgg22 rfl) ?_
    refine od_pu rfl rfl (p_len (n := t.l.length) rfl Try.runUnderlying22 (by simp only [List.length_map, List.length_cons, List.length_nil])) ?_
    refine od_pu rfl rfl (p_geq rfl rfl (decide_eq_false hg1)) ?_
    refine od_pu rfl rfl (p_move rfl) ?_
    refine od_runp rfl rfl rfl rfl rfl (p_move rfl) ?_
    refine od_runp rfl rfl rfl rfl rfl (p_nilCheck_el rfl) ?_
    refine od_runp rfl rfl rfl rfl rfl (p_fieldAddr_el rfl fa_189_1 rfl) ?_
    refine od_runp rfl rfl rfl rfl rfl (p_load_el1 rfl Try.isAgg22 rfl) ?_
    refine od_runp rfl rfl rfl rfl rfl (p_move rfl) ?_
    obtain ⟨x1, hx1⟩ := get_some t.l k (by omega)
    refine od_runp rfl rfl rfl rfl rfl (p_indexAddr (k := k) rfl rfl Try.runUnderlying22 Try.sizeOf27 (by first | rfl | omega) (get_map hx1)) ?_
    refine od_runp rfl rfl rfl rfl rfl (p_load_el1 rfl Try.isAgg27 rfl) ?_
    refine od_runp rfl rfl rfl rfl rfl (p_len (n := x1.length) rfl Try.runUnderlying27 (by simp only [List.length_map, List.length_cons, List.length_nil])) ?_
    refine od_runp rfl rfl rfl rfl rfl (p_eql rfl rfl rfl) ?_
    refine od_pu rfl rfl (p_pick_f rfl rfl) ?_
    refine od_nil rfl ?_
    refine pd_seq ?_
    refine JD.keep [0, 1, 4, 22] [(0, .el (TreeD.d t) 0), (1, .v (.int .i64 ((k : Nat) : Int))), (4, .v .nilIface), (22, .v (.bool (decide (((x1.length : Nat) : Int) = (0 : Int)))))] rfl ?_
    refine jd_cond [true, false, true, false] [true, false, true, true] rfl rfl rfl rfl (fun hc2 => ?_) (fun hc2 => ?_)
    · replace hc2 := of_decide_eq_true hc2
      refine jd_seq [true, false, true, false, false] [true, false, true, false, true] rfl rfl rfl ?_
      refine jd_region rfl ?_
      refine od_pu rfl rfl (p_build [] [] (zv := (.agg #[])) rfl rfl (.nil) (Try.runUnderlying214) Try.zeroValue214 bd_214 trivial rfl) ?_
      refine od_pu rfl rfl (p_mkIface rfl (fun _ _ => by kernel_rfl)) ?_
      refine od_pu rfl rfl (p_assign rfl) ?_
      refine od_nil rfl ?_
      refine pd_seq ?_
      refine jd_ret rfl ?_
      refine pd_seq_ret ?_
      exfalso; rw [hd_zero hx1 (by omega)] at hh; cases hh
    · replace hc2 := of_decide_eq_false hc2
      refine jd_skip rfl ?_
      refine pd_seq ?_
      refine jd_seq [true, true, false] [true, true, true] rfl rfl rfl ?_
      refine jd_region rfl ?_
      refine od_pu rfl rfl (p_move rfl) ?_
      refine od_pu rfl rfl (p_nilCheck_el rfl) ?_
      refine od_pu rfl rfl (p_fieldAddr_el rfl fa_189_1 rfl) ?_
      refine od_pu rfl rfl (p_load_el1 rfl Try.isAgg22 rfl) ?_
      refine od_pu rfl rfl (p_move rfl) ?_
      refine od_pu rfl rfl (p_indexAddr (k := k) rfl rfl Try.runUnderlying22 Try.sizeOf27 (by first | rfl | omega) (get_map hx1)) ?_
      refine od_pu rfl rfl (p_load_el1 rfl Try.isAgg27 rfl) ?_
      obtain ⟨x2, hx2⟩ := get_some x1 0 (by omega)
      refine od_pu rfl rfl (p_indexAddr (k := 0) rfl rfl Try.runUnderlying27 Try.sizeOf34 (by first | rfl | omega) (get_map hx2)) ?_
      refine od_pu rfl rfl (p_load_el (d := RowD.d x2) rfl Try.isAgg34 Try.sizeOf34 rfl rfl) ?_
      refine od_pu rfl rfl (p_build [0] [.tmp 33] (zv := (.agg #[(.slice none 0 0), (.int .i64 0)])) rfl rfl (.cons CellD.agg .nil) (Try.runUnderlying192) Try.zeroValue192 bd_192 ⟨rfl, rfl, trivial⟩ rfl) ?_
      refine od_pu rfl rfl (p_mkIface rfl (fun _ _ => by kernel_rfl)) ?_
      refine od_pu rfl rfl (p_assign rfl) ?_
      refine od_nil rfl ?_
      refine pd_seq ?_
      refine JD.keep [4] [(4, .ifc 192 (.agg [.sh 2 (x2.ls.map Lbl.d), .v (.int .i64 x2.v)]))] rfl ?_
      refine jd_ret rfl ?_
      exact PD.drop (pd_ret Try.results147 (.cons (ro_tmp rfl) .nil) rfl ⟨by rw [hd_first hx1 hx2] at hh; cases hh; rfl, rfl⟩)

set_option maxHeartbeats 4000000 in
set_option maxRecDepth 100000 in
theorem leaf_none (t : TreeD) (k : Nat) (hh : hd t.l k = none) :
    CD Try.prog 147 [] [.el (TreeD.d t) 0, .v (.int .i64 ((k : Nat) : Int))] (isR (.ifc 214 (.agg []))) := by
  refine cd_of_JD Try.func147 rfl (N := 36) rfl rfl (fun C => ?_)
  refine JD.keep [0, 1] [(0, .el (TreeD.d t) 0), (1, .v (.int .i64 ((k : Nat) : Int)))] rfl ?_
  refine JD.bd 0 rfl (fun bd0 => ?_)
  refine jd_seq [false] [true] rfl rfl rfl ?_
  refine jd_region rfl ?_
  refine od_pu rfl rfl (p_assign rfl) ?_
  refine od_nil rfl ?_
  refine pd_seq ?_
  refine jd_seq [true, false] [true, true] rfl rfl rfl ?_
  refine jd_seq [true, false, false] [true, false, true] rfl rfl rfl ?_
  by_cases hg1 : ((t.l.length : Nat) : Int) ≤ ((k : Nat) : Int)
  · skip
    refine jd_region rfl ?_
    refine od_pu rfl rfl (p_move rfl) ?_
    refine od_pu rfl rfl (p_move rfl) ?_
    refine od_pu rfl rfl (p_nilCheck_el rfl) ?_
    refine od_pu rfl rfl (p_fieldAddr_el rfl fa_189_1 rfl) ?_
    refine od_pu rfl rfl (p_load_el1 rfl Try.isAgg22 rfl) ?_
    refine od_pu rfl rfl (p_len (n := t.l.length) rfl Try.runUnderlying22 (by simp only [List.length_map, List.length_cons, List.length_nil])) ?_
    refine od_pu rfl rfl (p_geq rfl rfl (decide_eq_true hg1)) ?_
    refine od_pu rfl rfl (p_move rfl) ?_
    refine od_skip rfl rfl rfl rfl rfl (by decide) ?_
    refine od_skip rfl rfl rfl rfl rfl (by decide) ?_
    refine od_skip rfl rfl rfl rfl rfl (by decide) ?_
    refine od_skip rfl rfl rfl rfl rfl (by decide) ?_
    refine od_skip rfl rfl rfl rfl rfl (by decide) ?_
    refine od_skip rfl rfl rfl rfl rfl (by decide) ?_
    refine od_skip rfl rfl rfl rfl rfl (by decide) ?_
    refine od_skip rfl rfl rfl rfl rfl (by decide) ?_
    refine od_skip rfl rfl rfl rfl rfl (by decide) ?_
    refine od_pu rfl rfl (p_pick_t rfl rfl) ?_
    refine od_nil rfl ?_
    refine pd_seq ?_
    refine JD.keep [0, 1, 4, 22] [(0, .el (TreeD.d t) 0), (1, .v (.int .i64 ((k : Nat) : Int))), (4, .v .nilIface), (22, .v (.bool true))] rfl ?_
    refine jd_cond_t [true, false, true, false] rfl rfl rfl ?_
    refine jd_seq [true, false, true, false, false] [true, false, true, false, true] rfl rfl rfl ?_
    refine jd_region rfl ?_
    refine od_pu rfl rfl (p_build [] [] (zv := (.agg #[])) rfl rfl (.nil) (Try.runUnderlying214) Try.zeroValue214 bd_214 trivial rfl) ?_
    refine od_pu rfl rfl (p_mkIface rfl (fun _ _ => by kernel_rfl)) ?_
    refine od_pu rfl rfl (p_assign rfl) ?_
    refine od_nil rfl ?_
    refine pd_seq ?_
    refine jd_ret rfl ?_
    refine pd_seq_ret ?_
    exact PD.drop (pd_ret Try.results147 (.cons (ro_tmp rfl) .nil) rfl ⟨rfl, rfl⟩)
  · skip
    refine jd_region rfl ?_
    refine od_pu rfl rfl (p_move rfl) ?_
    refine od_pu rfl rfl (p_move rfl) ?_
    refine od_pu rfl rfl (p_nilCheck_el rfl) ?_
    refine od_pu rfl rfl (p_fieldAddr_el rfl fa_189_1 rfl) ?_
    refine od_pu rfl rfl (p_load_el1 rfl Try.isAgg22 rfl) ?_
    refine od_pu rfl rfl (p_len (n := t.l.length) rfl Try.runUnderlying22 (by simp only [List.length_map, List.length_cons, List.length_nil])) ?_
    refine od_pu rfl rfl (p_geq rfl rfl (decide_eq_false hg1)) ?_
    refine od_pu rfl rfl (p_move rfl) ?_
    refine od_runp rfl rfl rfl rfl rfl (p_move rfl) ?_
    refine od_runp rfl rfl rfl rfl rfl (p_nilCheck_el rfl) ?_
    refine od_runp rfl rfl rfl rfl rfl (p_fieldAddr_el rfl fa_189_1 rfl) ?_
    refine od_runp rfl rfl rfl rfl rfl (p_load_el1 rfl Try.isAgg22 rfl) ?_
    refine od_runp rfl rfl rfl rfl rfl (p_move rfl) ?_
    obtain ⟨x1, hx1⟩ := get_some t.l k (by omega)
    refine od_runp rfl rfl rfl rfl rfl (p_indexAddr (k := k) rfl rfl Try.runUnderlying22 Try.sizeOf27 (by first | rfl | omega) (get_map hx1)) ?_
    refine od_runp rfl rfl rfl rfl rfl (p_load_el1 rfl Try.isAgg27 rfl) ?_
    refine od_runp rfl rfl rfl rfl rfl (p_len (n := x1.length) rfl Try.runUnderlying27 (by simp only [List.length_map, List.length_cons, List.length_nil])) ?_
    refine od_runp rfl rfl rfl rfl rfl (p_eql rfl rfl rfl) ?_
    refine od_pu rfl rfl (p_pick_f rfl rfl) ?_
    refine od_nil rfl ?_
    refine pd_seq ?_
    refine JD.keep [0, 1, 4, 22] [(0, .el (TreeD.d t) 0), (1, .v (.int .i64 ((k : Nat) : Int))), (4, .v .nilIface), (22, .v (.bool (decide (((x1.length : Nat) : Int) = (0 : Int)))))] rfl ?_
    refine jd_cond [true, false, true, false] [true, false, true, true] rfl rfl rfl rfl (fun hc2 => ?_) (fun hc2 => ?_)
    · replace hc2 := of_decide_eq_true hc2
      refine jd_seq [true, false, true, false, false] [true, false, true, false, true] rfl rfl rfl ?_
      refine jd_region rfl ?_
      refine od_pu rfl rfl (p_build [] [] (zv := (.agg #[])) rfl rfl (.nil) (Try.runUnderlying214) Try.zeroValue214 bd_214 trivial rfl) ?_
      refine od_pu rfl rfl (p_mkIface rfl (fun _ _ => by kernel_rfl)) ?_
      refine od_pu rfl rfl (p_assign rfl) ?_
      refine od_nil rfl ?_
      refine pd_seq ?_
      refine jd_ret rfl ?_
      refine pd_seq_ret ?_
      exact PD.drop (pd_ret Try.results147 (.cons (ro_tmp rfl) .nil) rfl ⟨rfl, rfl⟩)
    · replace hc2 := of_decide_eq_false hc2
      refine jd_skip rfl ?_
      refine pd_seq ?_
      refine jd_seq [true, true, false] [true, true, true] rfl rfl rfl ?_
      refine jd_region rfl ?_
      refine od_pu rfl rfl (p_move rfl) ?_
      refine od_pu rfl rfl (p_nilCheck_el rfl) ?_
      refine od_pu rfl rfl (p_fieldAddr_el rfl fa_189_1 rfl) ?_
      refine od_pu rfl rfl (p_load_el1 rfl Try.isAgg22 rfl) ?_
      refine od_pu rfl rfl (p_move rfl) ?_
      refine od_pu rfl rfl (p_indexAddr (k := k) rfl rfl Try.runUnderlying22 Try.sizeOf27 (by first | rfl | omega) (get_map hx1)) ?_
      refine od_pu rfl rfl (p_load_el1 rfl Try.isAgg27 rfl) ?_
      obtain ⟨x2, hx2⟩ := get_some x1 0 (by omega)
      refine od_pu rfl rfl (p_indexAddr (k := 0) rfl rfl Try.runUnderlying27 Try.sizeOf34 (by first | rfl | omega) (get_map hx2)) ?_
      refine od_pu rfl rfl (p_load_el (d := RowD.d x2) rfl Try.isAgg34 Try.sizeOf34 rfl rfl) ?_
      refine od_pu rfl rfl (p_build [0] [.tmp 33] (zv := (.agg #[(.slice none 0 0), (.int .i64 0)])) rfl rfl (.cons CellD.agg .nil) (Try.runUnderlying192) Try.zeroValue192 bd_192 ⟨rfl, rfl, trivial⟩ rfl) ?_
      refine od_pu rfl rfl (p_mkIface rfl (fun _ _ => by kernel_rfl)) ?_
      refine od_pu rfl rfl (p_assign rfl) ?_
      refine od_nil rfl ?_
      refine pd_seq ?_
      refine JD.keep [4] [(4, .ifc 192 (.agg [.sh 2 (x2.ls.map Lbl.d), .v (.int .i64 x2.v)]))] rfl ?_
      refine jd_ret rfl ?_
      exfalso; rw [hd_first hx1 hx2] at hh; cases hh

set_option maxHeartbeats 4000000 in
set_option maxRecDepth 100000 in
theorem first_c (t : TreeD) (a b : Nat)  :
    CD Try.prog 146 [] [.el (TreeD.d t) 0, .v (.int .i64 ((a : Nat) : Int)), .v (.int .i64 ((b : Nat) : Int))] (isR (dN (firstN t.o t.l a b))) := by
  refine cd_of_JD Try.func146 rfl (N := 43) rfl rfl (fun C => ?_)
  refine JD.keep [0, 1, 2] [(0, .el (TreeD.d t) 0), (1, .v (.int .i64 ((a : Nat) : Int))), (2, .v (.int .i64 ((b : Nat) : Int)))] rfl ?_
  refine JD.bd 0 rfl (fun bd0 => ?_)
  rcases ha : hd t.l a with _ | x <;> rcases hb : hd t.l b with _ | y
  · skip
    refine jd_seq [false] [true] rfl rfl rfl ?_
    refine jd_region rfl ?_
    refine od_pu rfl rfl (p_assign rfl) ?_
    refine od_nil rfl ?_
    refine pd_seq ?_
    refine jd_seq [true, false] [true, true] rfl rfl rfl ?_
    refine jd_region rfl ?_
    refine od_pu rfl rfl (p_move rfl) ?_
    refine od_pu rfl rfl (p_move rfl) ?_
    refine od_step rfl rfl (ef_call [] _ [] rfl rfl (.cons ArgC.id (.cons ArgC.id .nil)) lend_nil Try.call147 (leaf_none t a ha) (.inl rfl)) ?_
    rintro _ _ ⟨_, ⟨rfl, rfl⟩, rfl⟩
    refine OpsD.norm [] rfl ?_
    refine od_pu rfl rfl ((p_assert_f (zv := (.agg #[(.slice none 0 0), (.int .i64 0)])) rfl (fun _ _ => by kernel_rfl)).cv (Cv.tup (.cons (Cv.vagg (by decide)) (.cons Cv.rfl' .nil)))) ?_
    refine od_pu rfl rfl (p_move rfl) ?_
    refine od_pu rfl rfl (p_extract rfl rfl) ?_
    refine od_pu rfl rfl (p_extract rfl rfl) ?_
    refine od_step rfl rfl (ef_alloc (zv := (.agg #[(.slice none 0 0), (.int .i64 0)])) Try.zeroValue192 ⟨rfl, rfl, trivial⟩ (Cv.vagg (by decide))) ?_
    rintro _ _ ⟨g1, rfl, rfl⟩
    refine od_step rfl rfl (ef_store_bx (i := 0) (X' := .agg [.v (.slice none 0 0), .v (.int .i64 0)]) rfl rfl rfl (CellD.agg) Try.sizeOf192 rfl rfl rfl) ?_
    rintro _ _ ⟨rfl, rfl⟩
    refine OpsD.norm [.bx g1 192 (.agg [.v (.slice none 0 0), .v (.int .i64 0)])] rfl ?_
    refine od_pu rfl rfl (p_assign rfl) ?_
    refine od_nil rfl ?_
    refine pd_seq ?_
    refine jd_seq [true, true, false] [true, true, true] rfl rfl rfl ?_
    refine jd_region rfl ?_
    refine od_pu rfl rfl (p_move rfl) ?_
    refine od_pu rfl rfl (p_move rfl) ?_
    refine od_step rfl rfl (ef_call [] _ [] rfl rfl (.cons ArgC.id (.cons ArgC.id .nil)) lend_nil Try.call147 (leaf_none t b hb) (.inl rfl)) ?_
    rintro _ _ ⟨_, ⟨rfl, rfl⟩, rfl⟩
    refine OpsD.norm [.bx g1 192 (.agg [.v (.slice none 0 0), .v (.int .i64 0)])] rfl ?_
    refine od_pu rfl rfl ((p_assert_f (zv := (.agg #[(.slice none 0 0), (.int .i64 0)])) rfl (fun _ _ => by kernel_rfl)).cv (Cv.tup (.cons (Cv.vagg (by decide)) (.cons Cv.rfl' .nil)))) ?_
    refine od_pu rfl rfl (p_move rfl) ?_
    refine od_pu rfl rfl (p_extract rfl rfl) ?_
    refine od_pu rfl rfl (p_extract rfl rfl) ?_
    refine od_step rfl rfl (ef_alloc (zv := (.agg #[(.slice none 0 0), (.int .i64 0)])) Try.zeroValue192 ⟨rfl, rfl, trivial⟩ (Cv.vagg (by decide))) ?_
    rintro _ _ ⟨g2, rfl, rfl⟩
    refine od_step rfl rfl (ef_store_bx (i := 0) (X' := .agg [.v (.slice none 0 0), .v (.int .i64 0)]) rfl rfl rfl (CellD.agg) Try.sizeOf192 rfl rfl rfl) ?_
    rintro _ _ ⟨rfl, rfl⟩
    refine OpsD.norm [.bx g2 192 (.agg [.v (.slice none 0 0), .v (.int .i64 0)]), .bx g1 192 (.agg [.v (.slice none 0 0), .v (.int .i64 0)])] rfl ?_
    refine od_pu rfl rfl (p_assign rfl) ?_
    refine od_nil rfl ?_
    refine pd_seq ?_
    refine JD.keep [0, 1, 2, 6, 7, 8, 9, 10] [(0, .el (TreeD.d t) 0), (1, .v (.int .i64 ((a : Nat) : Int))), (2, .v (.int .i64 ((b : Nat) : Int))), (6, .v (.int .i64 0)), (7, .v (.pointer (some ⟨g1, 0, none⟩))), (8, .v (.bool false)), (9, .v (.pointer (some ⟨g2, 0, none⟩))), (10, .v (.bool false))] rfl ?_
    refine jd_seq [true, true, true, false] [true, true, true, true] rfl rfl rfl ?_
    refine jd_seq [true, true, true, false, false] [true, true, true, false, true] rfl rfl rfl ?_
    refine JD.keep [0, 1, 2, 6, 7, 8, 9, 10] [(0, .el (TreeD.d t) 0), (1, .v (.int .i64 ((a : Nat) : Int))), (2, .v (.int .i64 ((b : Nat) : Int))), (6, .v (.int .i64 0)), (7, .v (.pointer (some ⟨g1, 0, none⟩))), (8, .v (.bool false)), (9, .v (.pointer (some ⟨g2, 0, none⟩))), (10, .v (.bool false))] rfl ?_
    refine JD.norm [.bx g2 192 (.agg [.v (.slice none 0 0), .v (.int .i64 0)]), .bx g1 192 (.agg [.v (.slice none 0 0), .v (.int .i64 0)])] rfl ?_
    refine jd_draw 13 [(25, .v (.bool false), none), (26, .v (.bool false), none), (27, .v undef, none), (28, .v undef, none), (29, .v undef, none), (30, .v undef, none), (31, .v undef, none), (32, .v undef, none), (33, .v undef, none), (34, .v undef, none), (35, .v undef, none), (36, .v undef, none), (37, .v undef, none)] [.bx g2 192 (.agg [.v (.slice none 0 0), .v (.int .i64 0)]), .bx g1 192 (.agg [.v (.slice none 0 0), .v (.int .i64 0)])] (Hn := [.bx g2 192 (.agg [.v (.slice none 0 0), .v (.int .i64 0)]), .bx g1 192 (.agg [.v (.slice none 0 0), .v (.int .i64 0)])]) mixed rfl rfl rfl rfl HSub.rfl' rfl ⟨sa_p rfl rfl rfl (p_move rfl), sa_p rfl rfl rfl (p_move rfl), sa_s rfl rfl rfl rfl rfl rfl (by decide), sa_s rfl rfl rfl rfl rfl rfl (by decide), sa_s rfl rfl rfl rfl rfl rfl (by decide), sa_s rfl rfl rfl rfl rfl rfl (by decide), sa_s rfl rfl rfl rfl rfl rfl (by decide), sa_s rfl rfl rfl rfl rfl rfl (by decide), sa_s rfl rfl rfl rfl rfl rfl (by decide), sa_s rfl rfl rfl rfl rfl rfl (by decide), sa_s rfl rfl rfl rfl rfl rfl (by decide), sa_s rfl rfl rfl rfl rfl rfl (by decide), sa_s rfl rfl rfl rfl rfl rfl (by decide), trivial⟩ ?_
    refine OpsD.keep [0, 1, 2, 6, 7, 8, 9, 10, 25, 26, 27, 28, 29, 30, 31, 32, 33, 34, 35, 36, 37] [(0, .el (TreeD.d t) 0), (1, .v (.int .i64 ((a : Nat) : Int))), (2, .v (.int .i64 ((b : Nat) : Int))), (6, .v (.int .i64 0)), (7, .v (.pointer (some ⟨g1, 0, none⟩))), (8, .v (.bool false)), (9, .v (.pointer (some ⟨g2, 0, none⟩))), (10, .v (.bool false)), (25, .v (.bool false)), (26, .v (.bool false)), (27, .v undef), (28, .v undef), (29, .v undef), (30, .v undef), (31, .v undef), (32, .v undef), (33, .v undef), (34, .v undef), (35, .v undef), (36, .v undef), (37, .v undef)] rfl ?_
    refine od_skip rfl rfl rfl rfl rfl (by decide) ?_
    refine od_skip rfl rfl rfl rfl rfl (by decide) ?_
    refine od_pu rfl rfl (p_pick_f rfl rfl) ?_
    refine od_nil rfl ?_
    refine pd_seq ?_
    refine JD.keep [1, 2, 6, 40] [(1, .v (.int .i64 ((a : Nat) : Int))), (2, .v (.int .i64 ((b : Nat) : Int))), (6, .v (.int .i64 0)), (40, .v (.bool false))] rfl ?_
    refine jd_cond_f [true, true, true, false, true, true] rfl rfl rfl ?_
    refine jd_skip rfl ?_
    refine pd_seq ?_
    refine jd_seq [true, true, true, true, false] [true, true, true, true, true] rfl rfl rfl ?_
    refine jd_region rfl ?_
    refine od_pu rfl rfl (p_move rfl) ?_
    refine od_pu rfl rfl (p_assign rfl) ?_
    refine od_nil rfl ?_
    refine pd_seq ?_
    refine jd_ret rfl ?_
    exact pd_retH Try.results146 (.cons (ro_cv (ro_tmp rfl) (Cv.eq (congrArg dN (by simp [firstN, ha, hb])))) .nil) rfl HSub.none ⟨rfl, rfl⟩
  · skip
    refine jd_seq [false] [true] rfl rfl rfl ?_
    refine jd_region rfl ?_
    refine od_pu rfl rfl (p_assign rfl) ?_
    refine od_nil rfl ?_
    refine pd_seq ?_
    refine jd_seq [true, false] [true, true] rfl rfl rfl ?_
    refine jd_region rfl ?_
    refine od_pu rfl rfl (p_move rfl) ?_
    refine od_pu rfl rfl (p_move rfl) ?_
    refine od_step rfl rfl (ef_call [] _ [] rfl rfl (.cons ArgC.id (.cons ArgC.id .nil)) lend_nil Try.call147 (leaf_none t a ha) (.inl rfl)) ?_
    rintro _ _ ⟨_, ⟨rfl, rfl⟩, rfl⟩
    refine OpsD.norm [] rfl ?_
    refine od_pu rfl rfl ((p_assert_f (zv := (.agg #[(.slice none 0 0), (.int .i64 0)])) rfl (fun _ _ => by kernel_rfl)).cv (Cv.tup (.cons (Cv.vagg (by decide)) (.cons Cv.rfl' .nil)))) ?_
    refine od_pu rfl rfl (p_move rfl) ?_
    refine od_pu rfl rfl (p_extract rfl rfl) ?_
    refine od_pu rfl rfl (p_extract rfl rfl) ?_
    refine od_step rfl rfl (ef_alloc (zv := (.agg #[(.slice none 0 0), (.int .i64 0)])) Try.zeroValue192 ⟨rfl, rfl, trivial⟩ (Cv.vagg (by decide))) ?_
    rintro _ _ ⟨g3, rfl, rfl⟩
    refine od_step rfl rfl (ef_store_bx (i := 0) (X' := .agg [.v (.slice none 0 0), .v (.int .i64 0)]) rfl rfl rfl (CellD.agg) Try.sizeOf192 rfl rfl rfl) ?_
    rintro _ _ ⟨rfl, rfl⟩
    refine OpsD.norm [.bx g3 192 (.agg [.v (.slice none 0 0), .v (.int .i64 0)])] rfl ?_
    refine od_pu rfl rfl (p_assign rfl) ?_
    refine od_nil rfl ?_
    refine pd_seq ?_
    refine jd_seq [true, true, false] [true, true, true] rfl rfl rfl ?_
    refine jd_region rfl ?_
    refine od_pu rfl rfl (p_move rfl) ?_
    refine od_pu rfl rfl (p_move rfl) ?_
    refine od_step rfl rfl (ef_call [] _ [] rfl rfl (.cons ArgC.id (.cons ArgC.id .nil)) lend_nil Try.call147 (leaf_some t b y hb) (.inl rfl)) ?_
    rintro _ _ ⟨_, ⟨rfl, rfl⟩, rfl⟩
    refine OpsD.norm [.bx g3 192 (.agg [.v (.slice none 0 0), .v (.int .i64 0)])] rfl ?_
    refine od_pu rfl rfl (p_assert_t rfl (fun _ _ => by kernel_rfl)) ?_
    refine od_pu rfl rfl (p_move rfl) ?_
    refine od_pu rfl rfl (p_extract rfl rfl) ?_
    refine od_pu rfl rfl (p_extract rfl rfl) ?_
    refine od_step rfl rfl (ef_alloc (zv := (.agg #[(.slice none 0 0), (.int .i64 0)])) Try.zeroValue192 ⟨rfl, rfl, trivial⟩ (Cv.vagg (by decide))) ?_
    rintro _ _ ⟨g4, rfl, rfl⟩
    refine od_step rfl rfl (ef_store_bx (i := 0) (X' := RowD.d y) rfl rfl rfl (CellD.agg) Try.sizeOf192 rfl rfl rfl) ?_
    rintro _ _ ⟨rfl, rfl⟩
    refine OpsD.norm [.bx g4 192 (RowD.d y), .bx g3 192 (.agg [.v (.slice none 0 0), .v (.int .i64 0)])] rfl ?_
    refine od_pu rfl rfl (p_assign rfl) ?_
    refine od_nil rfl ?_
    refine pd_seq ?_
    refine JD.keep [0, 1, 2, 6, 7, 8, 9, 10] [(0, .el (TreeD.d t) 0), (1, .v (.int .i64 ((a : Nat) : Int))), (2, .v (.int .i64 ((b : Nat) : Int))), (6, .v (.int .i64 0)), (7, .v (.pointer (some ⟨g3, 0, none⟩))), (8, .v (.bool false)), (9, .v (.pointer (some ⟨g4, 0, none⟩))), (10, .v (.bool true))] rfl ?_
    refine jd_seq [true, true, true, false] [true, true, true, true] rfl rfl rfl ?_
    refine jd_seq [true, true, true, false, false] [true, true, true, false, true] rfl rfl rfl ?_
    refine JD.keep [0, 1, 2, 6, 7, 8, 9, 10] [(0, .el (TreeD.d t) 0), (1, .v (.int .i64 ((a : Nat) : Int))), (2, .v (.int .i64 ((b : Nat) : Int))), (6, .v (.int .i64 0)), (7, .v (.pointer (some ⟨g3, 0, none⟩))), (8, .v (.bool false)), (9, .v (.pointer (some ⟨g4, 0, none⟩))), (10, .v (.bool true))] rfl ?_
    refine JD.norm [.bx g4 192 (RowD.d y), .bx g3 192 (.agg [.v (.slice none 0 0), .v (.int .i64 0)])] rfl ?_
    refine jd_draw 13 [(25, .v (.bool true), none), (26, .v (.bool true), none), (27, .v (.bool false), none), (28, .v (.bool true), none), (29, .v (.bool true), none), (30, .v undef, none), (31, .v undef, none), (32, .v undef, none), (33, .v undef, none), (34, .v undef, none), (35, .v undef, none), (36, .v undef, none), (37, .v undef, none)] [.bx g4 192 (RowD.d y), .bx g3 192 (.agg [.v (.slice none 0 0), .v (.int .i64 0)])] (Hn := [.bx g4 192 (RowD.d y), .bx g3 192 (.agg [.v (.slice none 0 0), .v (.int .i64 0)])]) mixed rfl rfl rfl rfl HSub.rfl' rfl ⟨sa_p rfl rfl rfl (p_move rfl), sa_p rfl rfl rfl (p_move rfl), sa_qr rfl rfl rfl rfl rfl rfl (p_move rfl).qu, sa_qr rfl rfl rfl rfl rfl rfl (p_not (q := false) rfl).qu, sa_qr rfl rfl rfl rfl rfl rfl (p_move rfl).qu, sa_s rfl rfl rfl rfl rfl rfl (by decide), sa_s rfl rfl rfl rfl rfl rfl (by decide), sa_s rfl rfl rfl rfl rfl rfl (by decide), sa_s rfl rfl rfl rfl rfl rfl (by decide), sa_s rfl rfl rfl rfl rfl rfl (by decide), sa_s rfl rfl rfl rfl rfl rfl (by decide), sa_s rfl rfl rfl rfl rfl rfl (by decide), sa_s rfl rfl rfl rfl rfl rfl (by decide), trivial⟩ ?_
    refine OpsD.keep [0, 1, 2, 6, 7, 8, 9, 10, 25, 26, 27, 28, 29, 30, 31, 32, 33, 34, 35, 36, 37] [(0, .el (TreeD.d t) 0), (1, .v (.int .i64 ((a : Nat) : Int))), (2, .v (.int .i64 ((b : Nat) : Int))), (6, .v (.int .i64 0)), (7, .v (.pointer (some ⟨g3, 0, none⟩))), (8, .v (.bool false)), (9, .v (.pointer (some ⟨g4, 0, none⟩))), (10, .v (.bool true)), (25, .v (.bool true)), (26, .v (.bool true)), (27, .v (.bool false)), (28, .v (.bool true)), (29, .v (.bool true)), (30, .v undef), (31, .v undef), (32, .v undef), (33, .v undef), (34, .v undef), (35, .v undef), (36, .v undef), (37, .v undef)] rfl ?_
    refine od_skip rfl rfl rfl rfl rfl (by decide) ?_
    refine od_runp rfl rfl rfl rfl rfl (p_pick_t rfl rfl) ?_
    refine od_pu rfl rfl (p_pick_t rfl rfl) ?_
    refine od_nil rfl ?_
    refine pd_seq ?_
    refine JD.keep [1, 2, 6, 40] [(1, .v (.int .i64 ((a : Nat) : Int))), (2, .v (.int .i64 ((b : Nat) : Int))), (6, .v (.int .i64 0)), (40, .v (.bool true))] rfl ?_
    refine jd_cond_t [true, true, true, false, true, false] rfl rfl rfl ?_
    refine jd_seq [true, true, true, false, true, false, false] [true, true, true, false, true, false, true] rfl rfl rfl ?_
    refine jd_region rfl ?_
    refine od_pu rfl rfl (p_move rfl) ?_
    refine od_pu rfl rfl (p_assign rfl) ?_
    refine od_nil rfl ?_
    refine pd_seq ?_
    refine jd_ret rfl ?_
    refine pd_seq_ret ?_
    exact pd_retH Try.results146 (.cons (ro_cv (ro_tmp rfl) (Cv.eq (congrArg dN (by simp [firstN, ha, hb])))) .nil) rfl HSub.none ⟨rfl, rfl⟩
  · skip
    refine jd_seq [false] [true] rfl rfl rfl ?_
    refine jd_region rfl ?_
    refine od_pu rfl rfl (p_assign rfl) ?_
    refine od_nil rfl ?_
    refine pd_seq ?_
    refine jd_seq [true, false] [true, true] rfl rfl rfl ?_
    refine jd_region rfl ?_
    refine od_pu rfl rfl (p_move rfl) ?_
    refine od_pu rfl rfl (p_move rfl) ?_
    refine od_step rfl rfl (ef_call [] _ [] rfl rfl (.cons ArgC.id (.cons ArgC.id .nil)) lend_nil Try.call147 (leaf_some t a x ha) (.inl rfl)) ?_
    rintro _ _ ⟨_, ⟨rfl, rfl⟩, rfl⟩
    refine OpsD.norm [] rfl ?_
    refine od_pu rfl rfl (p_assert_t rfl (fun _ _ => by kernel_rfl)) ?_
    refine od_pu rfl rfl (p_move rfl) ?_
    refine od_pu rfl rfl (p_extract rfl rfl) ?_
    refine od_pu rfl rfl (p_extract rfl rfl) ?_
    refine od_step rfl rfl (ef_alloc (zv := (.agg #[(.slice none 0 0), (.int .i64 0)])) Try.zeroValue192 ⟨rfl, rfl, trivial⟩ (Cv.vagg (by decide))) ?_
    rintro _ _ ⟨g5, rfl, rfl⟩
    refine od_step rfl rfl (ef_store_bx (i := 0) (X' := RowD.d x) rfl rfl rfl (CellD.agg) Try.sizeOf192 rfl rfl rfl) ?_
    rintro _ _ ⟨rfl, rfl⟩
    refine OpsD.norm [.bx g5 192 (RowD.d x)] rfl ?_
    refine od_pu rfl rfl (p_assign rfl) ?_
    refine od_nil rfl ?_
    refine pd_seq ?_
    refine jd_seq [true, true, false] [true, true, true] rfl rfl rfl ?_
    refine jd_region rfl ?_
    refine od_pu rfl rfl (p_move rfl) ?_
    refine od_pu rfl rfl (p_move rfl) ?_
    refine od_step rfl rfl (ef_call [] _ [] rfl rfl (.cons ArgC.id (.cons ArgC.id .nil)) lend_nil Try.call147 (leaf_none t b hb) (.inl rfl)) ?_
    rintro _ _ ⟨_, ⟨rfl, rfl⟩, rfl⟩
    refine OpsD.norm [.bx g5 192 (RowD.d x)] rfl ?_
    refine od_pu rfl rfl ((p_assert_f (zv := (.agg #[(.slice none 0 0), (.int .i64 0)])) rfl (fun _ _ => by kernel_rfl)).cv (Cv.tup (.cons (Cv.vagg (by decide)) (.cons Cv.rfl' .nil)))) ?_
    refine od_pu rfl rfl (p_move rfl) ?_
    refine od_pu rfl rfl (p_extract rfl rfl) ?_
    refine od_pu rfl rfl (p_extract rfl rfl) ?_
    refine od_step rfl rfl (ef_alloc (zv := (.agg #[(.slice none 0 0), (.int .i64 0)])) Try.zeroValue192 ⟨rfl, rfl, trivial⟩ (Cv.vagg (by decide))) ?_
    rintro _ _ ⟨g6, rfl, rfl⟩
    refine od_step rfl rfl (ef_store_bx (i := 0) (X' := .agg [.v (.slice none 0 0), .v (.int .i64 0)]) rfl rfl rfl (CellD.agg) Try.sizeOf192 rfl rfl rfl) ?_
    rintro _ _ ⟨rfl, rfl⟩
    refine OpsD.norm [.bx g6 192 (.agg [.v (.slice none 0 0), .v (.int .i64 0)]), .bx g5 192 (RowD.d x)] rfl ?_
    refine od_pu rfl rfl (p_assign rfl) ?_
    refine od_nil rfl ?_
    refine pd_seq ?_
    refine JD.keep [0, 1, 2, 6, 7, 8, 9, 10] [(0, .el (TreeD.d t) 0), (1, .v (.int .i64 ((a : Nat) : Int))), (2, .v (.int .i64 ((b : Nat) : Int))), (6, .v (.int .i64 0)), (7, .v (.pointer (some ⟨g5, 0, none⟩))), (8, .v (.bool true)), (9, .v (.pointer (some ⟨g6, 0, none⟩))), (10, .v (.bool false))] rfl ?_
    refine jd_seq [true, true, true, false] [true, true, true, true] rfl rfl rfl ?_
    refine jd_seq [true, true, true, false, false] [true, true, true, false, true] rfl rfl rfl ?_
    refine JD.keep [0, 1, 2, 6, 7, 8, 9, 10] [(0, .el (TreeD.d t) 0), (1, .v (.int .i64 ((a : Nat) : Int))), (2, .v (.int .i64 ((b : Nat) : Int))), (6, .v (.int .i64 0)), (7, .v (.pointer (some ⟨g5, 0, none⟩))), (8, .v (.bool true)), (9, .v (.pointer (some ⟨g6, 0, none⟩))), (10, .v (.bool false))] rfl ?_
    refine JD.norm [.bx g6 192 (.agg [.v (.slice none 0 0), .v (.int .i64 0)]), .bx g5 192 (RowD.d x)] rfl ?_
    refine jd_draw 13 [(25, .v (.bool false), none), (26, .v (.bool false), none), (27, .v undef, none), (28, .v undef, none), (29, .v undef, none), (30, .v undef, none), (31, .v undef, none), (32, .v undef, none), (33, .v undef, none), (34, .v undef, none), (35, .v undef, none), (36, .v undef, none), (37, .v undef, none)] [.bx g6 192 (.agg [.v (.slice none 0 0), .v (.int .i64 0)]), .bx g5 192 (RowD.d x)] (Hn := [.bx g6 192 (.agg [.v (.slice none 0 0), .v (.int .i64 0)]), .bx g5 192 (RowD.d x)]) mixed rfl rfl rfl rfl HSub.rfl' rfl ⟨sa_p rfl rfl rfl (p_move rfl), sa_p rfl rfl rfl (p_move rfl), sa_s rfl rfl rfl rfl rfl rfl (by decide), sa_s rfl rfl rfl rfl rfl rfl (by decide), sa_s rfl rfl rfl rfl rfl rfl (by decide), sa_s rfl rfl rfl rfl rfl rfl (by decide), sa_s rfl rfl rfl rfl rfl rfl (by decide), sa_s rfl rfl rfl rfl rfl rfl (by decide), sa_s rfl rfl rfl rfl rfl rfl (by decide), sa_s rfl rfl rfl rfl rfl rfl (by decide), sa_s rfl rfl rfl rfl rfl rfl (by decide), sa_s rfl rfl rfl rfl rfl rfl (by decide), sa_s rfl rfl rfl rfl rfl rfl (by decide), trivial⟩ ?_
    refine OpsD.keep [0, 1, 2, 6, 7, 8, 9, 10, 25, 26, 27, 28, 29, 30, 31, 32, 33, 34, 35, 36, 37] [(0, .el (TreeD.d t) 0), (1, .v (.int .i64 ((a : Nat) : Int))), (2, .v (.int .i64 ((b : Nat) : Int))), (6, .v (.int .i64 0)), (7, .v (.pointer (some ⟨g5, 0, none⟩))), (8, .v (.bool true)), (9, .v (.pointer (some ⟨g6, 0, none⟩))), (10, .v (.bool false)), (25, .v (.bool false)), (26, .v (.bool false)), (27, .v undef), (28, .v undef), (29, .v undef), (30, .v undef), (31, .v undef), (32, .v undef), (33, .v undef), (34, .v undef), (35, .v undef), (36, .v undef), (37, .v undef)] rfl ?_
    refine od_skip rfl rfl rfl rfl rfl (by decide) ?_
    refine od_skip rfl rfl rfl rfl rfl (by decide) ?_
    refine od_pu rfl rfl (p_pick_f rfl rfl) ?_
    refine od_nil rfl ?_
    refine pd_seq ?_
    refine JD.keep [1, 2, 6, 40] [(1, .v (.int .i64 ((a : Nat) : Int))), (2, .v (.int .i64 ((b : Nat) : Int))), (6, .v (.int .i64 0)), (40, .v (.bool false))] rfl ?_
    refine jd_cond_f [true, true, true, false, true, true] rfl rfl rfl ?_
    refine jd_skip rfl ?_
    refine pd_seq ?_
    refine jd_seq [true, true, true, true, false] [true, true, true, true, true] rfl rfl rfl ?_
    refine jd_region rfl ?_
    refine od_pu rfl rfl (p_move rfl) ?_
    refine od_pu rfl rfl (p_assign rfl) ?_
    refine od_nil rfl ?_
    refine pd_seq ?_
    refine jd_ret rfl ?_
    exact pd_retH Try.results146 (.cons (ro_cv (ro_tmp rfl) (Cv.eq (congrArg dN (by simp [firstN, ha, hb])))) .nil) rfl HSub.none ⟨rfl, rfl⟩
  · skip
    refine jd_seq [false] [true] rfl rfl rfl ?_
    refine jd_region rfl ?_
    refine od_pu rfl rfl (p_assign rfl) ?_
    refine od_nil rfl ?_
    refine pd_seq ?_
    refine jd_seq [true, false] [true, true] rfl rfl rfl ?_
    refine jd_region rfl ?_
    refine od_pu rfl rfl (p_move rfl) ?_
    refine od_pu rfl rfl (p_move rfl) ?_
    refine od_step rfl rfl (ef_call [] _ [] rfl rfl (.cons ArgC.id (.cons ArgC.id .nil)) lend_nil Try.call147 (leaf_some t a x ha) (.inl rfl)) ?_
    rintro _ _ ⟨_, ⟨rfl, rfl⟩, rfl⟩
    refine OpsD.norm [] rfl ?_
    refine od_pu rfl rfl (p_assert_t rfl (fun _ _ => by kernel_rfl)) ?_
    refine od_pu rfl rfl (p_move rfl) ?_
    refine od_pu rfl rfl (p_extract rfl rfl) ?_
    refine od_pu rfl rfl (p_extract rfl rfl) ?_
    refine od_step rfl rfl (ef_alloc (zv := (.agg #[(.slice none 0 0), (.int .i64 0)])) Try.zeroValue192 ⟨rfl, rfl, trivial⟩ (Cv.vagg (by decide))) ?_
    rintro _ _ ⟨g7, rfl, rfl⟩
    refine od_step rfl rfl (ef_store_bx (i := 0) (X' := RowD.d x) rfl rfl rfl (CellD.agg) Try.sizeOf192 rfl rfl rfl) ?_
    rintro _ _ ⟨rfl, rfl⟩
    refine OpsD.norm [.bx g7 192 (RowD.d x)] rfl ?_
    refine od_pu rfl rfl (p_assign rfl) ?_
    refine od_nil rfl ?_
    refine pd_seq ?_
    refine jd_seq [true, true, false] [true, true, true] rfl rfl rfl ?_
    refine jd_region rfl ?_
    refine od_pu rfl rfl (p_move rfl) ?_
    refine od_pu rfl rfl (p_move rfl) ?_
    refine od_step rfl rfl (ef_call [] _ [] rfl rfl (.cons ArgC.id (.cons ArgC.id .nil)) lend_nil Try.call147 (leaf_some t b y hb) (.inl rfl)) ?_
    rintro _ _ ⟨_, ⟨rfl, rfl⟩, rfl⟩
    refine OpsD.norm [.bx g7 192 (RowD.d x)] rfl ?_
    refine od_pu rfl rfl (p_assert_t rfl (fun _ _ => by kernel_rfl)) ?_
    refine od_pu rfl rfl (p_move rfl) ?_
    refine od_pu rfl rfl (p_extract rfl rfl) ?_
    refine od_pu rfl rfl (p_extract rfl rfl) ?_
    refine od_step rfl rfl (ef_alloc (zv := (.agg #[(.slice none 0 0), (.int .i64 0)])) Try.zeroValue192 ⟨rfl, rfl, trivial⟩ (Cv.vagg (by decide))) ?_
    rintro _ _ ⟨g8, rfl, rfl⟩
    refine od_step rfl rfl (ef_store_bx (i := 0) (X' := RowD.d y) rfl rfl rfl (CellD.agg) Try.sizeOf192 rfl rfl rfl) ?_
    rintro _ _ ⟨rfl, rfl⟩
    refine OpsD.norm [.bx g8 192 (RowD.d y), .bx g7 192 (RowD.d x)] rfl ?_
    refine od_pu rfl rfl (p_assign rfl) ?_
    refine od_nil rfl ?_
    refine pd_seq ?_
    refine JD.keep [0, 1, 2, 6, 7, 8, 9, 10] [(0, .el (TreeD.d t) 0), (1, .v (.int .i64 ((a : Nat) : Int))), (2, .v (.int .i64 ((b : Nat) : Int))), (6, .v (.int .i64 0)), (7, .v (.pointer (some ⟨g7, 0, none⟩))), (8, .v (.bool true)), (9, .v (.pointer (some ⟨g8, 0, none⟩))), (10, .v (.bool true))] rfl ?_
    refine jd_seq [true, true, true, false] [true, true, true, true] rfl rfl rfl ?_
    refine jd_seq [true, true, true, false, false] [true, true, true, false, true] rfl rfl rfl ?_
    refine JD.keep [0, 1, 2, 6, 7, 8, 9, 10] [(0, .el (TreeD.d t) 0), (1, .v (.int .i64 ((a : Nat) : Int))), (2, .v (.int .i64 ((b : Nat) : Int))), (6, .v (.int .i64 0)), (7, .v (.pointer (some ⟨g7, 0, none⟩))), (8, .v (.bool true)), (9, .v (.pointer (some ⟨g8, 0, none⟩))), (10, .v (.bool true))] rfl ?_
    refine jd_sum 40 (less t.o y x) [.bx g8 192 (RowD.d y), .bx g7 192 (RowD.d x)] (fun _ hQ9 => ?_) ?_
    · skip
      refine JD.keep [0, 1, 2, 6, 7, 8, 9, 10] [(0, .el (TreeD.d t) 0), (1, .v (.int .i64 ((a : Nat) : Int))), (2, .v (.int .i64 ((b : Nat) : Int))), (6, .v (.int .i64 0)), (7, .v (.pointer (some ⟨g7, 0, none⟩))), (8, .v (.bool true)), (9, .v (.pointer (some ⟨g8, 0, none⟩))), (10, .v (.bool true))] rfl ?_
      refine JD.norm [.bx g8 192 (RowD.d y), .bx g7 192 (RowD.d x)] rfl ?_
      refine jd_draw 13 [(25, .v (.bool true), none), (26, .v (.bool true), none), (27, .v (.bool true), none), (28, .v (.bool false), none), (29, .v (.bool false), none), (30, .el (TreeD.d t) 0, none), (31, .el (TreeD.d t) 0, none), (32, .el (TreeD.d t) 0, none), (33, .v (.int .i64 t.o), none), (34, .v (.pointer (some ⟨g8, 0, none⟩)), none), (35, RowD.d y, none), (36, .v (.pointer (some ⟨g7, 0, none⟩)), none), (37, RowD.d x, none)] [.bx g8 192 (RowD.d y), .bx g7 192 (RowD.d x)] (Hn := [.bx g8 192 (RowD.d y), .bx g7 192 (RowD.d x)]) mixed rfl rfl rfl rfl HSub.rfl' rfl ⟨sa_p rfl rfl rfl (p_move rfl), sa_p rfl rfl rfl (p_move rfl), sa_qr rfl rfl rfl rfl rfl rfl (p_move rfl).qu, sa_qr rfl rfl rfl rfl rfl rfl (p_not (q := true) rfl).qu, sa_qr rfl rfl rfl rfl rfl rfl (p_move rfl).qu, sa_qr rfl rfl rfl rfl rfl rfl (p_move rfl).qu, sa_qr rfl rfl rfl rfl rfl rfl (p_nilCheck_el rfl).qu, sa_qr rfl rfl rfl rfl rfl rfl (p_fieldAddr_el rfl fa_189_0 rfl).qu, sa_qr rfl rfl rfl rfl rfl rfl (p_load_el1 rfl Try.isAgg3 rfl).qu, sa_qr rfl rfl rfl rfl rfl rfl (p_fieldAddr rfl fa_192_0 rfl).qu, sa_qr rfl rfl rfl rfl rfl rfl (p_load_bx (d := RowD.d y) rfl (i := 0) rfl Try.isAgg34 Try.sizeOf34 rfl rfl).qu, sa_qr rfl rfl rfl rfl rfl rfl (p_fieldAddr rfl fa_192_0 rfl).qu, sa_qr rfl rfl rfl rfl rfl rfl (p_load_bx (d := RowD.d x) rfl (i := 1) rfl Try.isAgg34 Try.sizeOf34 rfl rfl).qu, trivial⟩ ?_
      refine OpsD.keep [0, 1, 2, 6, 7, 8, 9, 10, 25, 26, 27, 28, 29, 30, 31, 32, 33, 34, 35, 36, 37] [(0, .el (TreeD.d t) 0), (1, .v (.int .i64 ((a : Nat) : Int))), (2, .v (.int .i64 ((b : Nat) : Int))), (6, .v (.int .i64 0)), (7, .v (.pointer (some ⟨g7, 0, none⟩))), (8, .v (.bool true)), (9, .v (.pointer (some ⟨g8, 0, none⟩))), (10, .v (.bool true)), (25, .v (.bool true)), (26, .v (.bool true)), (27, .v (.bool true)), (28, .v (.bool false)), (29, .v (.bool false)), (30, .el (TreeD.d t) 0), (31, .el (TreeD.d t) 0), (32, .el (TreeD.d t) 0), (33, .v (.int .i64 t.o)), (34, .v (.pointer (some ⟨g8, 0, none⟩))), (35, RowD.d y), (36, .v (.pointer (some ⟨g7, 0, none⟩))), (37, RowD.d x)] rfl ?_
      refine od_run rfl rfl rfl rfl rfl (ef_call [] _ [] rfl rfl (.cons ArgC.id (.cons ArgC.id (.cons ArgC.id .nil))) lend_nil Try.call49 (Less_c t.o y x) (.inl rfl)) ?_
      rintro _ _ ⟨_, ⟨rfl, rfl⟩, rfl⟩
      refine OpsD.norm [.bx g8 192 (RowD.d y), .bx g7 192 (RowD.d x)] rfl ?_
      refine od_runp rfl rfl rfl rfl rfl (p_pick_f rfl rfl) ?_
      refine od_pu rfl rfl (p_pick_t rfl rfl) ?_
      refine od_nil rfl ?_
      exact PD.sub ((40, .v (.bool (less t.o y x))) :: [(0, .el (TreeD.d t) 0), (1, .v (.int .i64 ((a : Nat) : Int))), (2, .v (.int .i64 ((b : Nat) : Int))), (6, .v (.int .i64 0)), (7, .v (.pointer (some ⟨g7, 0, none⟩))), (8, .v (.bool true)), (9, .v (.pointer (some ⟨g8, 0, none⟩))), (10, .v (.bool true))]) ⟨sc rfl (Cv.eq (congrArg (fun b => D.v (.bool b)) (by first | (simp []; done) | (simp_all; done)))), sk rfl, sk rfl, sk rfl, sk rfl, sk rfl, sk rfl, sk rfl, sk rfl, trivial⟩ hQ9
    · skip
      refine pd_seq ?_
      refine jd_cond [true, true, true, false, true, false] [true, true, true, false, true, true] rfl rfl rfl rfl (fun hc10 => ?_) (fun hc10 => ?_)
      · skip
        refine jd_seq [true, true, true, false, true, false, false] [true, true, true, false, true, false, true] rfl rfl rfl ?_
        refine jd_region rfl ?_
        refine od_pu rfl rfl (p_move rfl) ?_
        refine od_pu rfl rfl (p_assign rfl) ?_
        refine od_nil rfl ?_
        refine pd_seq ?_
        refine jd_ret rfl ?_
        refine pd_seq_ret ?_
        exact pd_retH Try.results146 (.cons (ro_cv (ro_tmp rfl) (Cv.eq (congrArg dN (by simp [firstN, ha, hb, hc10])))) .nil) rfl HSub.none ⟨rfl, rfl⟩
      · skip
        refine jd_skip rfl ?_
        refine pd_seq ?_
        refine jd_seq [true, true, true, true, false] [true, true, true, true, true] rfl rfl rfl ?_
        refine jd_region rfl ?_
        refine od_pu rfl rfl (p_move rfl) ?_
        refine od_pu rfl rfl (p_assign rfl) ?_
        refine od_nil rfl ?_
        refine pd_seq ?_
        refine JD.keep [6] [(6, .v (.int .i64 ((a : Nat) : Int)))] rfl ?_
        refine jd_ret rfl ?_
        exact pd_retH Try.results146 (.cons (ro_cv (ro_tmp rfl) (Cv.eq (congrArg dN (by simp [firstN, ha, hb, hc10])))) .nil) rfl HSub.none ⟨rfl, rfl⟩

set_option maxHeartbeats 4000000 in
set_option maxRecDepth 100000 in
theorem play_c (t : Nat) (lv bv : Value) (o : Int) (ll : LLs) (wd : Nat) (bs : List Nat) (p : Nat) (hp : wd = 2 ^ p) (hwd : wd ≤ 2000000000) (hb : bs.length = 2 * wd) (k : Nat) (hk : k < wd) (hpl : Playing o ll wd bs ((wd + k) / 2)) :
    CD Try.prog 148 [.bx t 189 (.agg [.v (.int .i64 o), .ov lv, .v (.int .i64 ((wd : Nat) : Int)), .ov bv]), .sl lv 1 27 (ll.map (D.ls 2 RowD.d)), .sl bv 1 3 (bs.map dN)] [.v (.pointer (some ⟨t, 0, none⟩)), .v (.int .i64 ((k : Nat) : Int))] (fun r H' => ∃ bs', r = .tup [] ∧ H' = [.bx t 189 (.agg [.v (.int .i64 o), .ov lv, .v (.int .i64 ((wd : Nat) : Int)), .ov bv]), .sl lv 1 27 (ll.map (D.ls 2 RowD.d)), .sl bv 1 3 (bs'.map dN)] ∧ bs'.length = 2 * wd ∧ AllGood o ll wd bs') := by
  refine cd_of_JD Try.func148 rfl (N := 41) rfl rfl (fun C => ?_)
  refine JD.keep [0, 1] [(0, .v (.pointer (some ⟨t, 0, none⟩))), (1, .v (.int .i64 ((k : Nat) : Int)))] rfl ?_
  refine jd_seq [false] [true] rfl rfl rfl ?_
  refine jd_region rfl ?_
  refine od_pu rfl rfl (p_move rfl) ?_
  refine od_pu rfl rfl (p_nilCheck rfl) ?_
  refine od_pu rfl rfl (p_fieldAddr rfl fa_189_2 rfl) ?_
  refine od_pu rfl rfl (p_load_bx1 rfl (i := 0) rfl Try.isAgg3 rfl) ?_
  refine od_pu rfl rfl (p_move rfl) ?_
  refine od_pu rfl rfl (p_add (c := ((wd + k : Nat) : Int)) rfl rfl (w64eq (by omega) (by omega))) ?_
  refine od_pu rfl rfl (p_quo (c := (((wd + k) / 2 : Nat) : Int)) rfl rfl (by omega) (w64eq (by rw [Int.tdiv_eq_ediv_of_nonneg (by omega)]; omega) (by omega))) ?_
  refine od_pu rfl rfl (p_assign rfl) ?_
  refine od_nil rfl ?_
  refine pd_seq ?_
  refine jd_block [true, false] rfl rfl ?_
  refine jd_loop (fun (g : Nat × List Nat) => [(0, .v (.pointer (some ⟨t, 0, none⟩))), (4, .v (.int .i64 ((g.1 : Nat) : Int)))]) (fun (g : Nat × List Nat) => [.bx t 189 (.agg [.v (.int .i64 o), .ov lv, .v (.int .i64 ((wd : Nat) : Int)), .ov bv]), .sl lv 1 27 (ll.map (D.ls 2 RowD.d)), .sl bv 1 3 (g.2.map dN)]) (fun (g : Nat × List Nat) => (Playing o ll wd g.2 g.1) ∧ (g.1 < wd) ∧ ((g.2).length = 2 * wd)) (fun (g : Nat × List Nat) => g.1) [true, false, false] (((wd + k) / 2), bs) rfl rfl ⟨sk rfl, sk rfl, trivial⟩ HSub.rfl' ⟨hpl, by omega, hb⟩ ?_
  rintro ⟨a, c⟩ ⟨hpl, ha, hc⟩
  replace hpl : Playing o ll wd c a := hpl
  replace ha : a < wd := ha
  replace hc : (c).length = 2 * wd := hc
  refine JD.keep [0, 4] [(0, .v (.pointer (some ⟨t, 0, none⟩))), (4, .v (.int .i64 ((a : Nat) : Int)))] rfl ?_
  refine JD.norm [.bx t 189 (.agg [.v (.int .i64 o), .ov lv, .v (.int .i64 ((wd : Nat) : Int)), .ov bv]), .sl lv 1 27 (ll.map (D.ls 2 RowD.d)), .sl bv 1 3 (c.map dN)] rfl ?_
  refine jd_seq [true, false, false, false] [true, false, false, true] rfl rfl rfl ?_
  refine jd_seq [true, false, false, false, false] [true, false, false, false, true] rfl rfl rfl ?_
  refine jd_region rfl ?_
  refine od_pu rfl rfl (p_move rfl) ?_
  refine od_pu rfl rfl (p_gtr rfl rfl rfl) ?_
  refine od_nil rfl ?_
  refine pd_seq ?_
  refine jd_cond [true, false, false, false, true, false] [true, false, false, false, true, true] rfl rfl rfl rfl (fun hc1 => ?_) (fun hc1 => ?_)
  · replace hc1 := of_decide_eq_true hc1
    refine jd_skip rfl ?_
    refine pd_seq ?_
    refine jd_seq [true, false, false, true, false] [true, false, false, true, true] rfl rfl rfl ?_
    refine jd_block [true, false, false, true, false, false] rfl rfl ?_
    refine JD.keep [0, 4, 12, 13] [(0, .v (.pointer (some ⟨t, 0, none⟩))), (4, .v (.int .i64 ((a : Nat) : Int))), (12, .v (.int .i64 ((a : Nat) : Int))), (13, .v (.bool (decide ((0 : Int) < ((a : Nat) : Int)))))] rfl ?_
    refine JD.norm [.bx t 189 (.agg [.v (.int .i64 o), .ov lv, .v (.int .i64 ((wd : Nat) : Int)), .ov bv]), .sl lv 1 27 (ll.map (D.ls 2 RowD.d)), .sl bv 1 3 (c.map dN)] rfl ?_
    obtain ⟨x1, hx1⟩ := get_some c (2 * a) (by omega)
    obtain ⟨x2, hx2⟩ := get_some c ((2 * a) + 1) (by omega)
    refine jd_draw 24 [(16, .v (.pointer (some ⟨t, 0, none⟩)), none), (17, .v (.pointer (some ⟨t, 0, none⟩)), none), (18, .v (.pointer (some ⟨t, 3, none⟩)), none), (19, .ov bv, none), (20, .v (.int .i64 ((a : Nat) : Int)), none), (21, .v (.pointer (some ⟨t, 0, none⟩)), none), (22, .v (.pointer (some ⟨t, 0, none⟩)), none), (23, .v (.pointer (some ⟨t, 0, none⟩)), none), (24, .v (.pointer (some ⟨t, 3, none⟩)), none), (25, .ov bv, none), (26, .v (.int .i64 ((a : Nat) : Int)), none), (27, .v (.int .i64 ((2 * a : Nat) : Int)), none), (28, .v (.pointer (some ⟨bl bv, (2 * a) * 1 + 0, none⟩)), none), (29, .v (.int .i64 ((x1 : Nat) : Int)), none), (30, .v (.pointer (some ⟨t, 0, none⟩)), none), (31, .v (.pointer (some ⟨t, 0, none⟩)), none), (32, .v (.pointer (some ⟨t, 3, none⟩)), none), (33, .ov bv, none), (34, .v (.int .i64 ((a : Nat) : Int)), none), (35, .v (.int .i64 ((2 * a : Nat) : Int)), none), (36, .v (.int .i64 (((2 * a) + 1 : Nat) : Int)), none), (37, .v (.pointer (some ⟨bl bv, ((2 * a) + 1) * 1 + 0, none⟩)), none), (38, .v (.int .i64 ((x2 : Nat) : Int)), none), (39, .v (.int .i64 ((firstN o ll x1 x2 : Nat) : Int)), none)] [.bx t 189 (.agg [.v (.int .i64 o), .ov lv, .v (.int .i64 ((wd : Nat) : Int)), .ov bv]), .sl lv 1 27 (ll.map (D.ls 2 RowD.d)), .sl bv 1 3 (c.map dN)] (Hn := [.bx t 189 (.agg [.v (.int .i64 o), .ov lv, .v (.int .i64 ((wd : Nat) : Int)), .ov bv]), .sl lv 1 27 (ll.map (D.ls 2 RowD.d)), .sl bv 1 3 (c.map dN)]) mixed rfl rfl rfl rfl HSub.rfl' rfl ⟨sa_p rfl rfl rfl (p_move rfl), sa_p rfl rfl rfl (p_nilCheck rfl), sa_p rfl rfl rfl (p_fieldAddr rfl fa_189_3 rfl), sa_p rfl rfl rfl (p_load_bx1 rfl (i := 0) rfl Try.isAgg25 rfl), sa_p rfl rfl rfl (p_move rfl), sa_p rfl rfl rfl (p_move rfl), sa_p rfl rfl rfl (p_move rfl), sa_p rfl rfl rfl (p_nilCheck rfl), sa_p rfl rfl rfl (p_fieldAddr rfl fa_189_3 rfl), sa_p rfl rfl rfl (p_load_bx1 rfl (i := 0) rfl Try.isAgg25 rfl), sa_p rfl rfl rfl (p_move rfl), sa_p rfl rfl rfl (p_mul (c := ((2 * a : Nat) : Int)) rfl rfl (w64eq (by omega) (by omega))), sa_p rfl rfl rfl (p_indexAddr_sl (k := 2 * a) (j := 2) rfl rfl rfl Try.runUnderlying25 Try.sizeOf3 (by first | rfl | omega) (get_map hx1)), sa_p rfl rfl rfl (p_load_sl1 rfl (i := 2) rfl (get_map hx1) Try.isAgg3 rfl), sa_p rfl rfl rfl (p_move rfl), sa_p rfl rfl rfl (p_nilCheck rfl), sa_p rfl rfl rfl (p_fieldAddr rfl fa_189_3 rfl), sa_p rfl rfl rfl (p_load_bx1 rfl (i := 0) rfl Try.isAgg25 rfl), sa_p rfl rfl rfl (p_move rfl), sa_p rfl rfl rfl (p_mul (c := ((2 * a : Nat) : Int)) rfl rfl (w64eq (by omega) (by omega))), sa_p rfl rfl rfl (p_add (c := (((2 * a) + 1 : Nat) : Int)) rfl rfl (w64eq (by omega) (by omega))), sa_p rfl rfl rfl (p_indexAddr_sl (k := (2 * a) + 1) (j := 2) rfl rfl rfl Try.runUnderlying25 Try.sizeOf3 (by first | rfl | omega) (get_map hx2)), sa_p rfl rfl rfl (p_load_sl1 rfl (i := 2) rfl (get_map hx2) Try.isAgg3 rfl), sa_q rfl rfl rfl (qu_lend [.bx t 189 (.agg [.v (.int .i64 o), .ov lv, .v (.int .i64 ((wd : Nat) : Int)), .ov bv]), .sl lv 1 27 (ll.map (D.ls 2 RowD.d)), .sl bv 1 3 (c.map dN)] rfl (.cons (ArgC.boxC (j := 0) rfl (ArgC.agg (.cons ArgC.id (.cons (ArgC.own (j := 1) rfl rfl) (.cons ArgC.id (.cons (ArgC.own (j := 2) rfl rfl) .nil)))))) (.cons ArgC.id (.cons ArgC.id .nil))) (lend_cons (j := 0) rfl (lend_cons (j := 1) rfl (lend_cons (j := 2) rfl lend_nil))) Try.call146 (first_c (TreeD.mk o ll wd c) x1 x2) (fun _ _ h => h.1) rfl), trivial⟩ ?_
    refine OpsD.keep [0, 4, 12, 13, 16, 17, 18, 19, 20, 21, 22, 23, 24, 25, 26, 27, 28, 29, 30, 31, 32, 33, 34, 35, 36, 37, 38, 39] [(0, .v (.pointer (some ⟨t, 0, none⟩))), (4, .v (.int .i64 ((a : Nat) : Int))), (12, .v (.int .i64 ((a : Nat) : Int))), (13, .v (.bool (decide ((0 : Int) < ((a : Nat) : Int))))), (16, .v (.pointer (some ⟨t, 0, none⟩))), (17, .v (.pointer (some ⟨t, 0, none⟩))), (18, .v (.pointer (some ⟨t, 3, none⟩))), (19, .ov bv), (20, .v (.int .i64 ((a : Nat) : Int))), (21, .v (.pointer (some ⟨t, 0, none⟩))), (22, .v (.pointer (some ⟨t, 0, none⟩))), (23, .v (.pointer (some ⟨t, 0, none⟩))), (24, .v (.pointer (some ⟨t, 3, none⟩))), (25, .ov bv), (26, .v (.int .i64 ((a : Nat) : Int))), (27, .v (.int .i64 ((2 * a : Nat) : Int))), (28, .v (.pointer (some ⟨bl bv, (2 * a) * 1 + 0, none⟩))), (29, .v (.int .i64 ((x1 : Nat) : Int))), (30, .v (.pointer (some ⟨t, 0, none⟩))), (31, .v (.pointer (some ⟨t, 0, none⟩))), (32, .v (.pointer (some ⟨t, 3, none⟩))), (33, .ov bv), (34, .v (.int .i64 ((a : Nat) : Int))), (35, .v (.int .i64 ((2 * a : Nat) : Int))), (36, .v (.int .i64 (((2 * a) + 1 : Nat) : Int))), (37, .v (.pointer (some ⟨bl bv, ((2 * a) + 1) * 1 + 0, none⟩))), (38, .v (.int .i64 ((x2 : Nat) : Int))), (39, .v (.int .i64 ((firstN o ll x1 x2 : Nat) : Int)))] rfl ?_
    obtain ⟨x3, hx3⟩ := get_some c a (by omega)
    refine od_pu rfl rfl (p_indexAddr_sl (k := a) (j := 2) rfl rfl rfl Try.runUnderlying25 Try.sizeOf3 (by first | rfl | omega) (get_map hx3)) ?_
    refine od_step rfl rfl (ef_store_m (f := dN) (k := a) (z := 1) (o := 0) (i := 2) (a' := firstN o ll x1 x2) rfl rfl hx3 rfl (CellD.v rfl) Try.sizeOf3 rfl rfl rfl) ?_
    rintro _ _ ⟨rfl, rfl⟩
    refine OpsD.norm [.bx t 189 (.agg [.v (.int .i64 o), .ov lv, .v (.int .i64 ((wd : Nat) : Int)), .ov bv]), .sl lv 1 27 (ll.map (D.ls 2 RowD.d)), .sl bv 1 3 ((c.set a (firstN o ll x1 x2)).map dN)] rfl ?_
    refine od_nil rfl ?_
    refine pd_block ?_
    refine pd_seq ?_
    refine jd_region rfl ?_
    refine od_pu rfl rfl (p_move rfl) ?_
    refine od_pu rfl rfl (p_quo (c := ((a / 2 : Nat) : Int)) rfl rfl (by omega) (w64eq (by rw [Int.tdiv_eq_ediv_of_nonneg (by omega)]; omega) (by omega))) ?_
    refine od_pu rfl rfl (p_assign rfl) ?_
    refine od_nil rfl ?_
    exact pd_loop (a / 2, (c.set a (firstN o ll x1 x2))) ⟨sk rfl, sk rfl, trivial⟩ HSub.rfl' ⟨hpl.next hp (by omega) (by omega) hc hx1 hx2, by omega, by rw [List.length_set]; exact hc⟩ (by omega)
  · replace hc1 := of_decide_eq_false hc1
    refine jd_exit rfl ?_
    refine pd_seq_exit ?_
    refine pd_loop_exit ?_
    refine pd_block_exit ?_
    obtain rfl : a = 0 := by omega
    exact pd_end Try.results148 .nil rfl ⟨c, rfl, rfl, hc, hpl.last⟩

set_option maxHeartbeats 4000000 in
set_option maxRecDepth 100000 in
theorem leafH_some (t : Nat) (lv bv : Value) (o : Int) (ll : LLs) (wd : Nat) (bs : List Nat) (k : Nat) (x : RowD) (hh : hd ll k = some x) :
    CD Try.prog 147 [.bx t 189 (.agg [.v (.int .i64 o), .ov lv, .v (.int .i64 ((wd : Nat) : Int)), .ov bv]), .sl lv 1 27 (ll.map (D.ls 2 RowD.d)), .sl bv 1 3 (bs.map dN)] [.v (.pointer (some ⟨t, 0, none⟩)), .v (.int .i64 ((k : Nat) : Int))] (fun r H' => r = .ifc 192 (RowD.d x) ∧ H' = [.bx t 189 (.agg [.v (.int .i64 o), .ov lv, .v (.int .i64 ((wd : Nat) : Int)), .ov bv]), .sl lv 1 27 (ll.map (D.ls 2 RowD.d)), .sl bv 1 3 (bs.map dN)]) := by
  refine cd_of_JD Try.func147 rfl (N := 36) rfl rfl (fun C => ?_)
  refine JD.keep [0, 1] [(0, .v (.pointer (some ⟨t, 0, none⟩))), (1, .v (.int .i64 ((k : Nat) : Int)))] rfl ?_
  refine jd_seq [false] [true] rfl rfl rfl ?_
  refine jd_region rfl ?_
  refine od_pu rfl rfl (p_assign rfl) ?_
  refine od_nil rfl ?_
  refine pd_seq ?_
  refine jd_seq [true, false] [true, true] rfl rfl rfl ?_
  refine jd_seq [true, false, false] [true, false, true] rfl rfl rfl ?_
  by_cases hg1 : ((ll.length : Nat) : Int) ≤ ((k : Nat) : Int)
  · skip
    refine jd_region rfl ?_
    refine od_pu rfl rfl (p_move rfl) ?_
    refine od_pu rfl rfl (p_move rfl) ?_
    refine od_pu rfl rfl (p_nilCheck rfl) ?_
    refine od_pu rfl rfl (p_fieldAddr rfl fa_189_1 rfl) ?_
    refine od_pu rfl rfl (p_load_bx1 rfl (i := 0) rfl Try.isAgg22 rfl) ?_
    refine od_pu rfl rfl (p_len_own (n := ll.length) (j := 1) rfl rfl Try.runUnderlying22 (List.length_map _)) ?_
    refine od_pu rfl rfl (p_geq rfl rfl (decide_eq_true hg1)) ?_
    refine od_pu rfl rfl (p_move rfl) ?_
    refine od_skip rfl rfl rfl rfl rfl (by decide) ?_
    refine od_skip rfl rfl rfl rfl rfl (by decide) ?_
    refine od_skip rfl rfl rfl rfl rfl (by decide) ?_
    refine od_skip rfl rfl rfl rfl rfl (by decide) ?_
    refine od_skip rfl rfl rfl rfl rfl (by decide) ?_
    refine od_skip rfl rfl rfl rfl rfl (by decide) ?_
    refine od_skip rfl rfl rfl rfl rfl (by decide) ?_
    refine od_skip rfl rfl rfl rfl rfl (by decide) ?_
    refine od_skip rfl rfl rfl rfl rfl (by decide) ?_
    refine od_pu rfl rfl (p_pick_t rfl rfl) ?_
    refine od_nil rfl ?_
    refine pd_seq ?_
    refine JD.keep [0, 1, 4, 22] [(0, .v (.pointer (some ⟨t, 0, none⟩))), (1, .v (.int .i64 ((k : Nat) : Int))), (4, .v .nilIface), (22, .v (.bool true))] rfl ?_
    refine jd_cond_t [true, false, true, false] rfl rfl rfl ?_
    refine jd_seq [true, false, true, false, false] [true, false, true, false, true] rfl rfl rfl ?_
    refine jd_region rfl ?_
    refine od_pu rfl rfl (p_build [] [] (zv := (.agg #[])) rfl rfl (.nil) (Try.runUnderlying214) Try.zeroValue214 bd_214 trivial rfl) ?_
    refine od_pu rfl rfl (p_mkIface rfl (fun _ _ => by kernel_rfl)) ?_
    refine od_pu rfl rfl (p_assign rfl) ?_
    refine od_nil rfl ?_
    refine pd_seq ?_
    refine jd_ret rfl ?_
    refine pd_seq_ret ?_
    exfalso; rw [hd_far (by omega)] at hh; cases hh
  · skip
    refine jd_region rfl ?_
    refine od_pu rfl rfl (p_move rfl) ?_
    refine od_pu rfl rfl (p_move rfl) ?_
    refine od_pu rfl rfl (p_nilCheck rfl) ?_
    refine od_pu rfl rfl (p_fieldAddr rfl fa_189_1 rfl) ?_
    refine od_pu rfl rfl (p_load_bx1 rfl (i := 0) rfl Try.isAgg22 rfl) ?_
    refine od_pu rfl rfl (p_len_own (n := ll.length) (j := 1) rfl rfl Try.runUnderlying22 (List.length_map _)) ?_
    refine od_pu rfl rfl (p_geq rfl rfl (decide_eq_false hg1)) ?_
    refine od_pu rfl rfl (p_move rfl) ?_
    refine od_runp rfl rfl rfl rfl rfl (p_move rfl) ?_
    refine od_runp rfl rfl rfl rfl rfl (p_nilCheck rfl) ?_
    refine od_runp rfl rfl rfl rfl rfl (p_fieldAddr rfl fa_189_1 rfl) ?_
    refine od_runp rfl rfl rfl rfl rfl (p_load_bx1 rfl (i := 0) rfl Try.isAgg22 rfl) ?_
    refine od_runp rfl rfl rfl rfl rfl (p_move rfl) ?_
    obtain ⟨x1, hx1⟩ := get_some ll k (by omega)
    refine od_runp rfl rfl rfl rfl rfl (p_indexAddr_sl (k := k) (j := 1) rfl rfl rfl Try.runUnderlying22 Try.sizeOf27 (by first | rfl | omega) (get_map hx1)) ?_
    refine od_runp rfl rfl rfl rfl rfl (p_load_sl1 rfl (i := 1) rfl (get_map hx1) Try.isAgg27 rfl) ?_
    refine od_runp rfl rfl rfl rfl rfl (p_len (n := x1.length) rfl Try.runUnderlying27 (by simp only [List.length_map, List.length_cons, List.length_nil])) ?_
    refine od_runp rfl rfl rfl rfl rfl (p_eql rfl rfl rfl) ?_
    refine od_pu rfl rfl (p_pick_f rfl rfl) ?_
    refine od_nil rfl ?_
    refine pd_seq ?_
    refine JD.keep [0, 1, 4, 22] [(0, .v (.pointer (some ⟨t, 0, none⟩))), (1, .v (.int .i64 ((k : Nat) : Int))), (4, .v .nilIface), (22, .v (.bool (decide (((x1.length : Nat) : Int) = (0 : Int)))))] rfl ?_
    refine jd_cond [true, false, true, false] [true, false, true, true] rfl rfl rfl rfl (fun hc2 => ?_) (fun hc2 => ?_)
    · replace hc2 := of_decide_eq_true hc2
      refine jd_seq [true, false, true, false, false] [true, false, true, false, true] rfl rfl rfl ?_
      refine jd_region rfl ?_
      refine od_pu rfl rfl (p_build [] [] (zv := (.agg #[])) rfl rfl (.nil) (Try.runUnderlying214) Try.zeroValue214 bd_214 trivial rfl) ?_
      refine od_pu rfl rfl (p_mkIface rfl (fun _ _ => by kernel_rfl)) ?_
      refine od_pu rfl rfl (p_assign rfl) ?_
      refine od_nil rfl ?_
      refine pd_seq ?_
      refine jd_ret rfl ?_
      refine pd_seq_ret ?_
      exfalso; rw [hd_zero hx1 (by omega)] at hh; cases hh
    · replace hc2 := of_decide_eq_false hc2
      refine jd_skip rfl ?_
      refine pd_seq ?_
      refine jd_seq [true, true, false] [true, true, true] rfl rfl rfl ?_
      refine jd_region rfl ?_
      refine od_pu rfl rfl (p_move rfl) ?_
      refine od_pu rfl rfl (p_nilCheck rfl) ?_
      refine od_pu rfl rfl (p_fieldAddr rfl fa_189_1 rfl) ?_
      refine od_pu rfl rfl (p_load_bx1 rfl (i := 0) rfl Try.isAgg22 rfl) ?_
      refine od_pu rfl rfl (p_move rfl) ?_
      refine od_pu rfl rfl (p_indexAddr_sl (k := k) (j := 1) rfl rfl rfl Try.runUnderlying22 Try.sizeOf27 (by first | rfl | omega) (get_map hx1)) ?_
      refine od_pu rfl rfl (p_load_sl1 rfl (i := 1) rfl (get_map hx1) Try.isAgg27 rfl) ?_
      obtain ⟨x2, hx2⟩ := get_some x1 0 (by omega)
      refine od_pu rfl rfl (p_indexAddr (k := 0) rfl rfl Try.runUnderlying27 Try.sizeOf34 (by first | rfl | omega) (get_map hx2)) ?_
      refine od_pu rfl rfl (p_load_el (d := RowD.d x2) rfl Try.isAgg34 Try.sizeOf34 rfl rfl) ?_
      refine od_pu rfl rfl (p_build [0] [.tmp 33] (zv := (.agg #[(.slice none 0 0), (.int .i64 0)])) rfl rfl (.cons CellD.agg .nil) (Try.runUnderlying192) Try.zeroValue192 bd_192 ⟨rfl, rfl, trivial⟩ rfl) ?_
      refine od_pu rfl rfl (p_mkIface rfl (fun _ _ => by kernel_rfl)) ?_
      refine od_pu rfl rfl (p_assign rfl) ?_
      refine od_nil rfl ?_
      refine pd_seq ?_
      refine JD.keep [4] [(4, .ifc 192 (.agg [.sh 2 (x2.ls.map Lbl.d), .v (.int .i64 x2.v)]))] rfl ?_
      refine jd_ret rfl ?_
      exact pd_ret Try.results147 (.cons (ro_tmp rfl) .nil) rfl ⟨by rw [hd_first hx1 hx2] at hh; cases hh; rfl, rfl⟩

set_option maxHeartbeats 4000000 in
set_option maxRecDepth 100000 in
theorem leafH_none (t : Nat) (lv bv : Value) (o : Int) (ll : LLs) (wd : Nat) (bs : List Nat) (k : Nat) (hh : hd ll k = none) :
    CD Try.prog 147 [.bx t 189 (.agg [.v (.int .i64 o), .ov lv, .v (.int .i64 ((wd : Nat) : Int)), .ov bv]), .sl lv 1 27 (ll.map (D.ls 2 RowD.d)), .sl bv 1 3 (bs.map dN)] [.v (.pointer (some ⟨t, 0, none⟩)), .v (.int .i64 ((k : Nat) : Int))] (fun r H' => r = .ifc 214 (.agg []) ∧ H' = [.bx t 189 (.agg [.v (.int .i64 o), .ov lv, .v (.int .i64 ((wd : Nat) : Int)), .ov bv]), .sl lv 1 27 (ll.map (D.ls 2 RowD.d)), .sl bv 1 3 (bs.map dN)]) := by
  refine cd_of_JD Try.func147 rfl (N := 36) rfl rfl (fun C => ?_)
  refine JD.keep [0, 1] [(0, .v (.pointer (some ⟨t, 0, none⟩))), (1, .v (.int .i64 ((k : Nat) : Int)))] rfl ?_
  refine jd_seq [false] [true] rfl rfl rfl ?_
  refine jd_region rfl ?_
  refine od_pu rfl rfl (p_assign rfl) ?_
  refine od_nil rfl ?_
  refine pd_seq ?_
  refine jd_seq [true, false] [true, true] rfl rfl rfl ?_
  refine jd_seq [true, false, false] [true, false, true] rfl rfl rfl ?_
  by_cases hg1 : ((ll.length : Nat) : Int) ≤ ((k : Nat) : Int)
  · skip
    refine jd_region rfl ?_
    refine od_pu rfl rfl (p_move rfl) ?_
    refine od_pu rfl rfl (p_move rfl) ?_
    refine od_pu rfl rfl (p_nilCheck rfl) ?_
    refine od_pu rfl rfl (p_fieldAddr rfl fa_189_1 rfl) ?_
    refine od_pu rfl rfl (p_load_bx1 rfl (i := 0) rfl Try.isAgg22 rfl) ?_
    refine od_pu rfl rfl (p_len_own (n := ll.length) (j := 1) rfl rfl Try.runUnderlying22 (List.length_map _)) ?_
    refine od_pu rfl rfl (p_geq rfl rfl (decide_eq_true hg1)) ?_
    refine od_pu rfl rfl (p_move rfl) ?_
    refine od_skip rfl rfl rfl rfl rfl (by decide) ?_
    refine od_skip rfl rfl rfl rfl rfl (by decide) ?_
    refine od_skip rfl rfl rfl rfl rfl (by decide) ?_
    refine od_skip rfl rfl rfl rfl rfl (by decide) ?_
    refine od_skip rfl rfl rfl rfl rfl (by decide) ?_
    refine od_skip rfl rfl rfl rfl rfl (by decide) ?_
    refine od_skip rfl rfl rfl rfl rfl (by decide) ?_
    refine od_skip rfl rfl rfl rfl rfl (by decide) ?_
    refine od_skip rfl rfl rfl rfl rfl (by decide) ?_
    refine od_pu rfl rfl (p_pick_t rfl rfl) ?_
    refine od_nil rfl ?_
    refine pd_seq ?_
    refine JD.keep [0, 1, 4, 22] [(0, .v (.pointer (some ⟨t, 0, none⟩))), (1, .v (.int .i64 ((k : Nat) : Int))), (4, .v .nilIface), (22, .v (.bool true))] rfl ?_
    refine jd_cond_t [true, false, true, false] rfl rfl rfl ?_
    refine jd_seq [true, false, true, false, false] [true, false, true, false, true] rfl rfl rfl ?_
    refine jd_region rfl ?_
    refine od_pu rfl rfl (p_build [] [] (zv := (.agg #[])) rfl rfl (.nil) (Try.runUnderlying214) Try.zeroValue214 bd_214 trivial rfl) ?_
    refine od_pu rfl rfl (p_mkIface rfl (fun _ _ => by kernel_rfl)) ?_
    refine od_pu rfl rfl (p_assign rfl) ?_
    refine od_nil rfl ?_
    refine pd_seq ?_
    refine jd_ret rfl ?_
    refine pd_seq_ret ?_
    exact pd_ret Try.results147 (.cons (ro_tmp rfl) .nil) rfl ⟨rfl, rfl⟩
  · skip
    refine jd_region rfl ?_
    refine od_pu rfl rfl (p_move rfl) ?_
    refine od_pu rfl rfl (p_move rfl) ?_
    refine od_pu rfl rfl (p_nilCheck rfl) ?_
    refine od_pu rfl rfl (p_fieldAddr rfl fa_189_1 rfl) ?_
    refine od_pu rfl rfl (p_load_bx1 rfl (i := 0) rfl Try.isAgg22 rfl) ?_
    refine od_pu rfl rfl (p_len_own (n := ll.length) (j := 1) rfl rfl Try.runUnderlying22 (List.length_map _)) ?_
    refine od_pu rfl rfl (p_geq rfl rfl (decide_eq_false hg1)) ?_
    refine od_pu rfl rfl (p_move rfl) ?_
    refine od_runp rfl rfl rfl rfl rfl (p_move rfl) ?_
    refine od_runp rfl rfl rfl rfl rfl (p_nilCheck rfl) ?_
    refine od_runp rfl rfl rfl rfl rfl (p_fieldAddr rfl fa_189_1 rfl) ?_
    refine od_runp rfl rfl rfl rfl rfl (p_load_bx1 rfl (i := 0) rfl Try.isAgg22 rfl) ?_
    refine od_runp rfl rfl rfl rfl rfl (p_move rfl) ?_
    obtain ⟨x1, hx1⟩ := get_some ll k (by omega)
    refine od_runp rfl rfl rfl rfl rfl (p_indexAddr_sl (k := k) (j := 1) rfl rfl rfl Try.runUnderlying22 Try.sizeOf27 (by first | rfl | omega) (get_map hx1)) ?_
    refine od_runp rfl rfl rfl rfl rfl (p_load_sl1 rfl (i := 1) rfl (get_map hx1) Try.isAgg27 rfl) ?_
    refine od_runp rfl rfl rfl rfl rfl (p_len (n := x1.length) rfl Try.runUnderlying27 (by simp only [List.length_map, List.length_cons, List.length_nil])) ?_
    refine od_runp rfl rfl rfl rfl rfl (p_eql rfl rfl rfl) ?_
    refine od_pu rfl rfl (p_pick_f rfl rfl) ?_
    refine od_nil rfl ?_
    refine pd_seq ?_
    refine JD.keep [0, 1, 4, 22] [(0, .v (.pointer (some ⟨t, 0, none⟩))), (1, .v (.int .i64 ((k : Nat) : Int))), (4, .v .nilIface), (22, .v (.bool (decide (((x1.length : Nat) : Int) = (0 : Int)))))] rfl ?_
    refine jd_cond [true, false, true, false] [true, false, true, true] rfl rfl rfl rfl (fun hc2 => ?_) (fun hc2 => ?_)
    · replace hc2 := of_decide_eq_true hc2
      refine jd_seq [true, false, true, false, false] [true, false, true, false, true] rfl rfl rfl ?_
      refine jd_region rfl ?_
      refine od_pu rfl rfl (p_build [] [] (zv := (.agg #[])) rfl rfl (.nil) (Try.runUnderlying214) Try.zeroValue214 bd_214 trivial rfl) ?_
      refine od_pu rfl rfl (p_mkIface rfl (fun _ _ => by kernel_rfl)) ?_
      refine od_pu rfl rfl (p_assign rfl) ?_
      refine od_nil rfl ?_
      refine pd_seq ?_
      refine jd_ret rfl ?_
      refine pd_seq_ret ?_
      exact pd_ret Try.results147 (.cons (ro_tmp rfl) .nil) rfl ⟨rfl, rfl⟩
    · replace hc2 := of_decide_eq_false hc2
      refine jd_skip rfl ?_
      refine pd_seq ?_
      refine jd_seq [true, true, false] [true, true, true] rfl rfl rfl ?_
      refine jd_region rfl ?_
      refine od_pu rfl rfl (p_move rfl) ?_
      refine od_pu rfl rfl (p_nilCheck rfl) ?_
      refine od_pu rfl rfl (p_fieldAddr rfl fa_189_1 rfl) ?_
      refine od_pu rfl rfl (p_load_bx1 rfl (i := 0) rfl Try.isAgg22 rfl) ?_
      refine od_pu rfl rfl (p_move rfl) ?_
      refine od_pu rfl rfl (p_indexAddr_sl (k := k) (j := 1) rfl rfl rfl Try.runUnderlying22 Try.sizeOf27 (by first | rfl | omega) (get_map hx1)) ?_
      refine od_pu rfl rfl (p_load_sl1 rfl (i := 1) rfl (get_map hx1) Try.isAgg27 rfl) ?_
      obtain ⟨x2, hx2⟩ := get_some x1 0 (by omega)
      refine od_pu rfl rfl (p_indexAddr (k := 0) rfl rfl Try.runUnderlying27 Try.sizeOf34 (by first | rfl | omega) (get_map hx2)) ?_
      refine od_pu rfl rfl (p_load_el (d := RowD.d x2) rfl Try.isAgg34 Try.sizeOf34 rfl rfl) ?_
      refine od_pu rfl rfl (p_build [0] [.tmp 33] (zv := (.agg #[(.slice none 0 0), (.int .i64 0)])) rfl rfl (.cons CellD.agg .nil) (Try.runUnderlying192) Try.zeroValue192 bd_192 ⟨rfl, rfl, trivial⟩ rfl) ?_
      refine od_pu rfl rfl (p_mkIface rfl (fun _ _ => by kernel_rfl)) ?_
      refine od_pu rfl rfl (p_assign rfl) ?_
      refine od_nil rfl ?_
      refine pd_seq ?_
      refine JD.keep [4] [(4, .ifc 192 (.agg [.sh 2 (x2.ls.map Lbl.d), .v (.int .i64 x2.v)]))] rfl ?_
      refine jd_ret rfl ?_
      exfalso; rw [hd_first hx1 hx2] at hh; cases hh

set_option maxHeartbeats 4000000 in
set_option maxRecDepth 100000 in
theorem next_none (t : Nat) (lv bv : Value) (o : Int) (ll : LLs) (wd : Nat) (bs : List Nat) (p : Nat) (hp : wd = 2 ^ p) (hwd : wd ≤ 2000000000) (hb : bs.length = 2 * wd) (m : Nat) (hg : AllGood o ll wd bs) (hm : bs[1]? = some m) (hmw : m < wd) (hh : hd ll m = none) :
    CD Try.prog 107 [.bx t 189 (.agg [.v (.int .i64 o), .ov lv, .v (.int .i64 ((wd : Nat) : Int)), .ov bv]), .sl lv 1 27 (ll.map (D.ls 2 RowD.d)), .sl bv 1 3 (bs.map dN)] [.v (.pointer (some ⟨t, 0, none⟩))] (fun r H' => r = .tup [.agg [.v (.slice none 0 0), .v (.int .i64 0)], .v (.int .i64 0), .v (.bool false)] ∧ H' = [.bx t 189 (.agg [.v (.int .i64 o), .ov lv, .v (.int .i64 ((wd : Nat) : Int)), .ov bv]), .sl lv 1 27 (ll.map (D.ls 2 RowD.d)), .sl bv 1 3 (bs.map dN)]) := by
  refine cd_of_JD Try.func107 rfl (N := 44) rfl rfl (fun C => ?_)
  refine JD.keep [0] [(0, .v (.pointer (some ⟨t, 0, none⟩)))] rfl ?_
  · skip
    refine jd_seq [false] [true] rfl rfl rfl ?_
    refine jd_region rfl ?_
    refine od_step rfl rfl (ef_alloc (zv := (.agg #[(.slice none 0 0), (.int .i64 0)])) Try.zeroValue34 ⟨rfl, rfl, trivial⟩ (Cv.vagg (by decide))) ?_
    rintro _ _ ⟨g1, rfl, rfl⟩
    refine od_pu rfl rfl (p_assign rfl) ?_
    refine od_pu rfl rfl (p_assign rfl) ?_
    refine od_nil rfl ?_
    refine pd_seq ?_
    refine jd_seq [true, false] [true, true] rfl rfl rfl ?_
    refine jd_region rfl ?_
    refine od_pu rfl rfl (p_move rfl) ?_
    refine od_pu rfl rfl (p_nilCheck rfl) ?_
    refine od_pu rfl rfl (p_fieldAddr rfl fa_189_3 rfl) ?_
    refine od_pu rfl rfl (p_load_bx1 rfl (i := 1) rfl Try.isAgg25 rfl) ?_
    refine od_pu rfl rfl (p_indexAddr_sl (k := 1) (j := 3) rfl rfl rfl Try.runUnderlying25 Try.sizeOf3 (by first | rfl | omega) (get_map hm)) ?_
    refine od_pu rfl rfl (p_load_sl1 rfl (i := 3) rfl (get_map hm) Try.isAgg3 rfl) ?_
    refine od_pu rfl rfl (p_assign rfl) ?_
    refine od_nil rfl ?_
    refine pd_seq ?_
    refine jd_seq [true, true, false] [true, true, true] rfl rfl rfl ?_
    refine jd_region rfl ?_
    refine od_pu rfl rfl (p_move rfl) ?_
    refine od_pu rfl rfl (p_move rfl) ?_
    refine OpsD.subH (HSub.perm (perm_front (i := 3) rfl)) ?_
    refine OpsD.norm [.sl bv 1 3 (bs.map dN), .bx g1 34 (.agg [.v (.slice none 0 0), .v (.int .i64 0)]), .bx t 189 (.agg [.v (.int .i64 o), .ov lv, .v (.int .i64 ((wd : Nat) : Int)), .ov bv]), .sl lv 1 27 (ll.map (D.ls 2 RowD.d))] rfl ?_
    refine OpsD.subH (HSub.perm (perm_front (i := 3) rfl)) ?_
    refine OpsD.norm [.sl lv 1 27 (ll.map (D.ls 2 RowD.d)), .sl bv 1 3 (bs.map dN), .bx g1 34 (.agg [.v (.slice none 0 0), .v (.int .i64 0)]), .bx t 189 (.agg [.v (.int .i64 o), .ov lv, .v (.int .i64 ((wd : Nat) : Int)), .ov bv])] rfl ?_
    refine OpsD.subH (HSub.perm (perm_front (i := 3) rfl)) ?_
    refine OpsD.norm [.bx t 189 (.agg [.v (.int .i64 o), .ov lv, .v (.int .i64 ((wd : Nat) : Int)), .ov bv]), .sl lv 1 27 (ll.map (D.ls 2 RowD.d)), .sl bv 1 3 (bs.map dN), .bx g1 34 (.agg [.v (.slice none 0 0), .v (.int .i64 0)])] rfl ?_
    refine od_step rfl rfl (ef_call [.bx t 189 (.agg [.v (.int .i64 o), .ov lv, .v (.int .i64 ((wd : Nat) : Int)), .ov bv]), .sl lv 1 27 (ll.map (D.ls 2 RowD.d)), .sl bv 1 3 (bs.map dN)] [.bx g1 34 (.agg [.v (.slice none 0 0), .v (.int .i64 0)])] [] rfl rfl (.cons ArgC.id (.cons ArgC.id .nil)) lend_nil Try.call147 (leafH_none t lv bv o ll wd bs m hh) (.inl rfl)) ?_
    rintro _ _ ⟨_, ⟨rfl, rfl⟩, rfl⟩
    refine OpsD.norm [.bx t 189 (.agg [.v (.int .i64 o), .ov lv, .v (.int .i64 ((wd : Nat) : Int)), .ov bv]), .sl lv 1 27 (ll.map (D.ls 2 RowD.d)), .sl bv 1 3 (bs.map dN), .bx g1 34 (.agg [.v (.slice none 0 0), .v (.int .i64 0)])] rfl ?_
    refine od_pu rfl rfl ((p_assert_f (zv := (.agg #[(.slice none 0 0), (.int .i64 0)])) rfl (fun _ _ => by kernel_rfl)).cv (Cv.tup (.cons (Cv.vagg (by decide)) (.cons Cv.rfl' .nil)))) ?_
    refine od_pu rfl rfl (p_move rfl) ?_
    refine od_pu rfl rfl (p_extract rfl rfl) ?_
    refine od_pu rfl rfl (p_extract rfl rfl) ?_
    refine od_step rfl rfl (ef_alloc (zv := (.agg #[(.slice none 0 0), (.int .i64 0)])) Try.zeroValue192 ⟨rfl, rfl, trivial⟩ (Cv.vagg (by decide))) ?_
    rintro _ _ ⟨g2, rfl, rfl⟩
    refine od_step rfl rfl (ef_store_bx (i := 0) (X' := .agg [.v (.slice none 0 0), .v (.int .i64 0)]) rfl rfl rfl (CellD.agg) Try.sizeOf192 rfl rfl rfl) ?_
    rintro _ _ ⟨rfl, rfl⟩
    refine OpsD.norm [.bx g2 192 (.agg [.v (.slice none 0 0), .v (.int .i64 0)]), .bx t 189 (.agg [.v (.int .i64 o), .ov lv, .v (.int .i64 ((wd : Nat) : Int)), .ov bv]), .sl lv 1 27 (ll.map (D.ls 2 RowD.d)), .sl bv 1 3 (bs.map dN), .bx g1 34 (.agg [.v (.slice none 0 0), .v (.int .i64 0)])] rfl ?_
    refine od_pu rfl rfl (p_assign rfl) ?_
    refine od_nil rfl ?_
    refine pd_seq ?_
    refine JD.keep [0, 2, 3, 4, 5, 6, 7] [(0, .v (.pointer (some ⟨t, 0, none⟩))), (2, .v (.pointer (some ⟨g1, 0, none⟩))), (3, .v (.int .i64 0)), (4, .v (.bool false)), (5, .v (.int .i64 ((m : Nat) : Int))), (6, .v (.pointer (some ⟨g2, 0, none⟩))), (7, .v (.bool false))] rfl ?_
    refine jd_seq [true, true, true, false] [true, true, true, true] rfl rfl rfl ?_
    refine jd_seq [true, true, true, false, false] [true, true, true, false, true] rfl rfl rfl ?_
    refine jd_region rfl ?_
    refine od_pu rfl rfl (p_move rfl) ?_
    refine od_pu rfl rfl (p_not (q := false) rfl) ?_
    refine od_nil rfl ?_
    refine pd_seq ?_
    refine jd_cond_t [true, true, true, false, true, false] rfl rfl rfl ?_
    refine jd_seq [true, true, true, false, true, false, false] [true, true, true, false, true, false, true] rfl rfl rfl ?_
    refine jd_region rfl ?_
    refine od_pu rfl rfl (p_build [] [] (zv := (.agg #[(.slice none 0 0), (.int .i64 0)])) rfl rfl (.nil) (Try.runUnderlying34) Try.zeroValue34 bd_34 ⟨rfl, rfl, trivial⟩ rfl) ?_
    refine od_step rfl rfl (ef_store_bx (i := 4) (X' := .agg [.v (.slice none 0 0), .v (.int .i64 0)]) rfl rfl rfl (CellD.agg) Try.sizeOf34 rfl rfl rfl) ?_
    rintro _ _ ⟨rfl, rfl⟩
    refine OpsD.norm [.bx g2 192 (.agg [.v (.slice none 0 0), .v (.int .i64 0)]), .bx t 189 (.agg [.v (.int .i64 o), .ov lv, .v (.int .i64 ((wd : Nat) : Int)), .ov bv]), .sl lv 1 27 (ll.map (D.ls 2 RowD.d)), .sl bv 1 3 (bs.map dN), .bx g1 34 (.agg [.v (.slice none 0 0), .v (.int .i64 0)])] rfl ?_
    refine od_pu rfl rfl (p_assign rfl) ?_
    refine od_pu rfl rfl (p_assign rfl) ?_
    refine od_nil rfl ?_
    refine pd_seq ?_
    refine jd_ret rfl ?_
    refine pd_seq_ret ?_
    refine PD.subH (HSub.perm (perm_front (i := 3) rfl)) ?_
    refine PD.norm [.sl bv 1 3 (bs.map dN), .bx g2 192 (.agg [.v (.slice none 0 0), .v (.int .i64 0)]), .bx t 189 (.agg [.v (.int .i64 o), .ov lv, .v (.int .i64 ((wd : Nat) : Int)), .ov bv]), .sl lv 1 27 (ll.map (D.ls 2 RowD.d)), .bx g1 34 (.agg [.v (.slice none 0 0), .v (.int .i64 0)])] rfl ?_
    refine PD.subH (HSub.perm (perm_front (i := 3) rfl)) ?_
    refine PD.norm [.sl lv 1 27 (ll.map (D.ls 2 RowD.d)), .sl bv 1 3 (bs.map dN), .bx g2 192 (.agg [.v (.slice none 0 0), .v (.int .i64 0)]), .bx t 189 (.agg [.v (.int .i64 o), .ov lv, .v (.int .i64 ((wd : Nat) : Int)), .ov bv]), .bx g1 34 (.agg [.v (.slice none 0 0), .v (.int .i64 0)])] rfl ?_
    refine PD.subH (HSub.perm (perm_front (i := 3) rfl)) ?_
    refine PD.norm [.bx t 189 (.agg [.v (.int .i64 o), .ov lv, .v (.int .i64 ((wd : Nat) : Int)), .ov bv]), .sl lv 1 27 (ll.map (D.ls 2 RowD.d)), .sl bv 1 3 (bs.map dN), .bx g2 192 (.agg [.v (.slice none 0 0), .v (.int .i64 0)]), .bx g1 34 (.agg [.v (.slice none 0 0), .v (.int .i64 0)])] rfl ?_
    exact pd_retH Try.results107 (.cons (ro_cell (i := 4) rfl rfl Try.isAgg34 Try.sizeOf34 rfl rfl) (.cons (ro_tmp rfl) (.cons (ro_tmp rfl) .nil))) rfl (HSub.fst 3 rfl) ⟨rfl, rfl⟩

set_option maxHeartbeats 4000000 in
set_option maxRecDepth 100000 in
theorem next_some (t : Nat) (lv bv : Value) (o : Int) (ll : LLs) (wd : Nat) (bs : List Nat) (p : Nat) (hp : wd = 2 ^ p) (hwd : wd ≤ 2000000000) (hb : bs.length = 2 * wd) (m : Nat) (hg : AllGood o ll wd bs) (hm : bs[1]? = some m) (hmw : m < wd) (x : RowD) (hh : hd ll m = some x) :
    CD Try.prog 107 [.bx t 189 (.agg [.v (.int .i64 o), .ov lv, .v (.int .i64 ((wd : Nat) : Int)), .ov bv]), .sl lv 1 27 (ll.map (D.ls 2 RowD.d)), .sl bv 1 3 (bs.map dN)] [.v (.pointer (some ⟨t, 0, none⟩))] (fun r H' => ∃ bs', r = .tup [RowD.d x, dN m, .v (.bool true)] ∧ H' = [.bx t 189 (.agg [.v (.int .i64 o), .ov lv, .v (.int .i64 ((wd : Nat) : Int)), .ov bv]), .sl lv 1 27 ((pop ll m).map (D.ls 2 RowD.d)), .sl bv 1 3 (bs'.map dN)] ∧ bs'.length = 2 * wd ∧ AllGood o (pop ll m) wd bs') := by
  refine cd_of_JD Try.func107 rfl (N := 44) rfl rfl (fun C => ?_)
  refine JD.keep [0] [(0, .v (.pointer (some ⟨t, 0, none⟩)))] rfl ?_
  obtain ⟨y, rest, hy, he⟩ : ∃ y r, ll[m]? = some y ∧ y = x :: r := by obtain ⟨r, h⟩ := hd_get hh; exact ⟨_, r, h, rfl⟩
  have hn0 : y.length = rest.length + 1 := by rw [he]; rfl
  · skip
    refine jd_seq [false] [true] rfl rfl rfl ?_
    refine jd_region rfl ?_
    refine od_step rfl rfl (ef_alloc (zv := (.agg #[(.slice none 0 0), (.int .i64 0)])) Try.zeroValue34 ⟨rfl, rfl, trivial⟩ (Cv.vagg (by decide))) ?_
    rintro _ _ ⟨g1, rfl, rfl⟩
    refine od_pu rfl rfl (p_assign rfl) ?_
    refine od_pu rfl rfl (p_assign rfl) ?_
    refine od_nil rfl ?_
    refine pd_seq ?_
    refine jd_seq [true, false] [true, true] rfl rfl rfl ?_
    refine jd_region rfl ?_
    refine od_pu rfl rfl (p_move rfl) ?_
    refine od_pu rfl rfl (p_nilCheck rfl) ?_
    refine od_pu rfl rfl (p_fieldAddr rfl fa_189_3 rfl) ?_
    refine od_pu rfl rfl (p_load_bx1 rfl (i := 1) rfl Try.isAgg25 rfl) ?_
    refine od_pu rfl rfl (p_indexAddr_sl (k := 1) (j := 3) rfl rfl rfl Try.runUnderlying25 Try.sizeOf3 (by first | rfl | omega) (get_map hm)) ?_
    refine od_pu rfl rfl (p_load_sl1 rfl (i := 3) rfl (get_map hm) Try.isAgg3 rfl) ?_
    refine od_pu rfl rfl (p_assign rfl) ?_
    refine od_nil rfl ?_
    refine pd_seq ?_
    refine jd_seq [true, true, false] [true, true, true] rfl rfl rfl ?_
    refine jd_region rfl ?_
    refine od_pu rfl rfl (p_move rfl) ?_
    refine od_pu rfl rfl (p_move rfl) ?_
    refine OpsD.subH (HSub.perm (perm_front (i := 3) rfl)) ?_
    refine OpsD.norm [.sl bv 1 3 (bs.map dN), .bx g1 34 (.agg [.v (.slice none 0 0), .v (.int .i64 0)]), .bx t 189 (.agg [.v (.int .i64 o), .ov lv, .v (.int .i64 ((wd : Nat) : Int)), .ov bv]), .sl lv 1 27 (ll.map (D.ls 2 RowD.d))] rfl ?_
    refine OpsD.subH (HSub.perm (perm_front (i := 3) rfl)) ?_
    refine OpsD.norm [.sl lv 1 27 (ll.map (D.ls 2 RowD.d)), .sl bv 1 3 (bs.map dN), .bx g1 34 (.agg [.v (.slice none 0 0), .v (.int .i64 0)]), .bx t 189 (.agg [.v (.int .i64 o), .ov lv, .v (.int .i64 ((wd : Nat) : Int)), .ov bv])] rfl ?_
    refine OpsD.subH (HSub.perm (perm_front (i := 3) rfl)) ?_
    refine OpsD.norm [.bx t 189 (.agg [.v (.int .i64 o), .ov lv, .v (.int .i64 ((wd : Nat) : Int)), .ov bv]), .sl lv 1 27 (ll.map (D.ls 2 RowD.d)), .sl bv 1 3 (bs.map dN), .bx g1 34 (.agg [.v (.slice none 0 0), .v (.int .i64 0)])] rfl ?_
    refine od_step rfl rfl (ef_call [.bx t 189 (.agg [.v (.int .i64 o), .ov lv, .v (.int .i64 ((wd : Nat) : Int)), .ov bv]), .sl lv 1 27 (ll.map (D.ls 2 RowD.d)), .sl bv 1 3 (bs.map dN)] [.bx g1 34 (.agg [.v (.slice none 0 0), .v (.int .i64 0)])] [] rfl rfl (.cons ArgC.id (.cons ArgC.id .nil)) lend_nil Try.call147 (leafH_some t lv bv o ll wd bs m x hh) (.inl rfl)) ?_
    rintro _ _ ⟨_, ⟨rfl, rfl⟩, rfl⟩
    refine OpsD.norm [.bx t 189 (.agg [.v (.int .i64 o), .ov lv, .v (.int .i64 ((wd : Nat) : Int)), .ov bv]), .sl lv 1 27 (ll.map (D.ls 2 RowD.d)), .sl bv 1 3 (bs.map dN), .bx g1 34 (.agg [.v (.slice none 0 0), .v (.int .i64 0)])] rfl ?_
    refine od_pu rfl rfl (p_assert_t rfl (fun _ _ => by kernel_rfl)) ?_
    refine od_pu rfl rfl (p_move rfl) ?_
    refine od_pu rfl rfl (p_extract rfl rfl) ?_
    refine od_pu rfl rfl (p_extract rfl rfl) ?_
    refine od_step rfl rfl (ef_alloc (zv := (.agg #[(.slice none 0 0), (.int .i64 0)])) Try.zeroValue192 ⟨rfl, rfl, trivial⟩ (Cv.vagg (by decide))) ?_
    rintro _ _ ⟨g2, rfl, rfl⟩
    refine od_step rfl rfl (ef_store_bx (i := 0) (X' := RowD.d x) rfl rfl rfl (CellD.agg) Try.sizeOf192 rfl rfl rfl) ?_
    rintro _ _ ⟨rfl, rfl⟩
    refine OpsD.norm [.bx g2 192 (RowD.d x), .bx t 189 (.agg [.v (.int .i64 o), .ov lv, .v (.int .i64 ((wd : Nat) : Int)), .ov bv]), .sl lv 1 27 (ll.map (D.ls 2 RowD.d)), .sl bv 1 3 (bs.map dN), .bx g1 34 (.agg [.v (.slice none 0 0), .v (.int .i64 0)])] rfl ?_
    refine od_pu rfl rfl (p_assign rfl) ?_
    refine od_nil rfl ?_
    refine pd_seq ?_
    refine JD.keep [0, 2, 3, 4, 5, 6, 7] [(0, .v (.pointer (some ⟨t, 0, none⟩))), (2, .v (.pointer (some ⟨g1, 0, none⟩))), (3, .v (.int .i64 0)), (4, .v (.bool false)), (5, .v (.int .i64 ((m : Nat) : Int))), (6, .v (.pointer (some ⟨g2, 0, none⟩))), (7, .v (.bool true))] rfl ?_
    refine jd_seq [true, true, true, false] [true, true, true, true] rfl rfl rfl ?_
    refine jd_seq [true, true, true, false, false] [true, true, true, false, true] rfl rfl rfl ?_
    refine jd_region rfl ?_
    refine od_pu rfl rfl (p_move rfl) ?_
    refine od_pu rfl rfl (p_not (q := true) rfl) ?_
    refine od_nil rfl ?_
    refine pd_seq ?_
    refine jd_cond_f [true, true, true, false, true, true] rfl rfl rfl ?_
    refine jd_skip rfl ?_
    refine pd_seq ?_
    refine jd_seq [true, true, true, true, false] [true, true, true, true, true] rfl rfl rfl ?_
    refine JD.keep [0, 2, 3, 4, 5, 6, 7, 21, 22] [(0, .v (.pointer (some ⟨t, 0, none⟩))), (2, .v (.pointer (some ⟨g1, 0, none⟩))), (3, .v (.int .i64 0)), (4, .v (.bool false)), (5, .v (.int .i64 ((m : Nat) : Int))), (6, .v (.pointer (some ⟨g2, 0, none⟩))), (7, .v (.bool true)), (21, .v (.bool true)), (22, .v (.bool false))] rfl ?_
    refine JD.norm [.bx g2 192 (RowD.d x), .bx t 189 (.agg [.v (.int .i64 o), .ov lv, .v (.int .i64 ((wd : Nat) : Int)), .ov bv]), .sl lv 1 27 (ll.map (D.ls 2 RowD.d)), .sl bv 1 3 (bs.map dN), .bx g1 34 (.agg [.v (.slice none 0 0), .v (.int .i64 0)])] rfl ?_
    refine jd_draw 13 [(24, .v (.pointer (some ⟨t, 0, none⟩)), none), (25, .v (.pointer (some ⟨t, 0, none⟩)), none), (26, .v (.pointer (some ⟨t, 1, none⟩)), none), (27, .ov lv, none), (28, .v (.int .i64 ((m : Nat) : Int)), none), (29, .v (.pointer (some ⟨t, 0, none⟩)), none), (30, .v (.pointer (some ⟨t, 0, none⟩)), none), (31, .v (.pointer (some ⟨t, 1, none⟩)), none), (32, .ov lv, none), (33, .v (.int .i64 ((m : Nat) : Int)), none), (34, .v (.pointer (some ⟨bl lv, m * 1 + 0, none⟩)), none), (35, .sh 2 (y.map RowD.d), none), (36, .sh 2 (((y.take y.length).drop 1).map RowD.d), none)] [.bx g2 192 (RowD.d x), .bx t 189 (.agg [.v (.int .i64 o), .ov lv, .v (.int .i64 ((wd : Nat) : Int)), .ov bv]), .sl lv 1 27 (ll.map (D.ls 2 RowD.d)), .sl bv 1 3 (bs.map dN), .bx g1 34 (.agg [.v (.slice none 0 0), .v (.int .i64 0)])] (Hn := [.bx g2 192 (RowD.d x), .bx t 189 (.agg [.v (.int .i64 o), .ov lv, .v (.int .i64 ((wd : Nat) : Int)), .ov bv]), .sl lv 1 27 (ll.map (D.ls 2 RowD.d)), .sl bv 1 3 (bs.map dN), .bx g1 34 (.agg [.v (.slice none 0 0), .v (.int .i64 0)])]) mixed rfl rfl rfl rfl HSub.rfl' rfl ⟨sa_p rfl rfl rfl (p_move rfl), sa_p rfl rfl rfl (p_nilCheck rfl), sa_p rfl rfl rfl (p_fieldAddr rfl fa_189_1 rfl), sa_p rfl rfl rfl (p_load_bx1 rfl (i := 1) rfl Try.isAgg22 rfl), sa_p rfl rfl rfl (p_move rfl), sa_p rfl rfl rfl (p_move rfl), sa_p rfl rfl rfl (p_nilCheck rfl), sa_p rfl rfl rfl (p_fieldAddr rfl fa_189_1 rfl), sa_p rfl rfl rfl (p_load_bx1 rfl (i := 1) rfl Try.isAgg22 rfl), sa_p rfl rfl rfl (p_move rfl), sa_p rfl rfl rfl (p_indexAddr_sl (k := m) (j := 2) rfl rfl rfl Try.runUnderlying22 Try.sizeOf27 (by first | rfl | omega) (get_map hy)), sa_p rfl rfl rfl (p_load_sl1 rfl (i := 2) rfl (get_map hy) Try.isAgg27 rfl), sa_p rfl rfl rfl ((p_slice (a := 1) (b := y.length) rfl rfl rfl (by first | rfl | (show _ = _; (try simp only [List.length_map]); omega) | exact List.length_map _) (by first | rfl | (show _ = _; (try simp only [List.length_map]); omega) | exact List.length_map _) Try.runUnderlying27 Try.sizeOf34 (by omega) (by simp only [List.length_map]; omega)).cv (Cv.eq (by rw [← List.map_take, ← List.map_drop]))), trivial⟩ ?_
    refine OpsD.keep [0, 2, 3, 4, 5, 6, 7, 21, 22, 24, 25, 26, 27, 28, 29, 30, 31, 32, 33, 34, 35, 36] [(0, .v (.pointer (some ⟨t, 0, none⟩))), (2, .v (.pointer (some ⟨g1, 0, none⟩))), (3, .v (.int .i64 0)), (4, .v (.bool false)), (5, .v (.int .i64 ((m : Nat) : Int))), (6, .v (.pointer (some ⟨g2, 0, none⟩))), (7, .v (.bool true)), (21, .v (.bool true)), (22, .v (.bool false)), (24, .v (.pointer (some ⟨t, 0, none⟩))), (25, .v (.pointer (some ⟨t, 0, none⟩))), (26, .v (.pointer (some ⟨t, 1, none⟩))), (27, .ov lv), (28, .v (.int .i64 ((m : Nat) : Int))), (29, .v (.pointer (some ⟨t, 0, none⟩))), (30, .v (.pointer (some ⟨t, 0, none⟩))), (31, .v (.pointer (some ⟨t, 1, none⟩))), (32, .ov lv), (33, .v (.int .i64 ((m : Nat) : Int))), (34, .v (.pointer (some ⟨bl lv, m * 1 + 0, none⟩))), (35, .sh 2 (y.map RowD.d)), (36, .sh 2 (((y.take y.length).drop 1).map RowD.d))] rfl ?_
    refine od_pu rfl rfl (p_indexAddr_sl (k := m) (j := 2) rfl rfl rfl Try.runUnderlying22 Try.sizeOf27 (by first | rfl | omega) (get_map hy)) ?_
    refine od_step rfl rfl (ef_store_m (f := (D.ls 2 RowD.d)) (k := m) (z := 1) (o := 0) (i := 2) (a' := ((y.take y.length).drop 1)) rfl rfl hy rfl (CellD.sh) Try.sizeOf27 rfl rfl rfl) ?_
    rintro _ _ ⟨rfl, rfl⟩
    refine OpsD.norm [.bx g2 192 (RowD.d x), .bx t 189 (.agg [.v (.int .i64 o), .ov lv, .v (.int .i64 ((wd : Nat) : Int)), .ov bv]), .sl lv 1 27 ((ll.set m ((y.take y.length).drop 1)).map (D.ls 2 RowD.d)), .sl bv 1 3 (bs.map dN), .bx g1 34 (.agg [.v (.slice none 0 0), .v (.int .i64 0)])] rfl ?_
    refine OpsD.norm [.bx g2 192 (RowD.d x), .bx t 189 (.agg [.v (.int .i64 o), .ov lv, .v (.int .i64 ((wd : Nat) : Int)), .ov bv]), .sl lv 1 27 ((pop ll m).map (D.ls 2 RowD.d)), .sl bv 1 3 (bs.map dN), .bx g1 34 (.agg [.v (.slice none 0 0), .v (.int .i64 0)])] (by rw [pop_at hy]) ?_
    refine od_nil rfl ?_
    refine pd_seq ?_
    refine JD.keep [0, 2, 3, 4, 5, 6] [(0, .v (.pointer (some ⟨t, 0, none⟩))), (2, .v (.pointer (some ⟨g1, 0, none⟩))), (3, .v (.int .i64 0)), (4, .v (.bool false)), (5, .v (.int .i64 ((m : Nat) : Int))), (6, .v (.pointer (some ⟨g2, 0, none⟩)))] rfl ?_
    refine jd_seq [true, true, true, true, true, false] [true, true, true, true, true, true] rfl rfl rfl ?_
    refine jd_region rfl ?_
    refine od_pu rfl rfl (p_move rfl) ?_
    refine od_pu rfl rfl (p_move rfl) ?_
    refine OpsD.subH (HSub.perm (perm_front (i := 3) rfl)) ?_
    refine OpsD.norm [.sl bv 1 3 (bs.map dN), .bx g2 192 (RowD.d x), .bx t 189 (.agg [.v (.int .i64 o), .ov lv, .v (.int .i64 ((wd : Nat) : Int)), .ov bv]), .sl lv 1 27 ((pop ll m).map (D.ls 2 RowD.d)), .bx g1 34 (.agg [.v (.slice none 0 0), .v (.int .i64 0)])] rfl ?_
    refine OpsD.subH (HSub.perm (perm_front (i := 3) rfl)) ?_
    refine OpsD.norm [.sl lv 1 27 ((pop ll m).map (D.ls 2 RowD.d)), .sl bv 1 3 (bs.map dN), .bx g2 192 (RowD.d x), .bx t 189 (.agg [.v (.int .i64 o), .ov lv, .v (.int .i64 ((wd : Nat) : Int)), .ov bv]), .bx g1 34 (.agg [.v (.slice none 0 0), .v (.int .i64 0)])] rfl ?_
    refine OpsD.subH (HSub.perm (perm_front (i := 3) rfl)) ?_
    refine OpsD.norm [.bx t 189 (.agg [.v (.int .i64 o), .ov lv, .v (.int .i64 ((wd : Nat) : Int)), .ov bv]), .sl lv 1 27 ((pop ll m).map (D.ls 2 RowD.d)), .sl bv 1 3 (bs.map dN), .bx g2 192 (RowD.d x), .bx g1 34 (.agg [.v (.slice none 0 0), .v (.int .i64 0)])] rfl ?_
    refine od_step rfl rfl (ef_call [.bx t 189 (.agg [.v (.int .i64 o), .ov lv, .v (.int .i64 ((wd : Nat) : Int)), .ov bv]), .sl lv 1 27 ((pop ll m).map (D.ls 2 RowD.d)), .sl bv 1 3 (bs.map dN)] [.bx g2 192 (RowD.d x), .bx g1 34 (.agg [.v (.slice none 0 0), .v (.int .i64 0)])] [] rfl rfl (.cons ArgC.id (.cons ArgC.id .nil)) lend_nil Try.call148 (play_c t lv bv o (pop ll m) wd bs _ hp hwd (by first | exact hb | (simp only [List.length_set]; omega)) m (by omega) (Playing.first hg hmw)) (.inl rfl)) ?_
    rintro _ _ ⟨_, ⟨bs3, rfl, rfl, hbbs3, hgbs3⟩, rfl⟩
    refine OpsD.norm [.bx t 189 (.agg [.v (.int .i64 o), .ov lv, .v (.int .i64 ((wd : Nat) : Int)), .ov bv]), .sl lv 1 27 ((pop ll m).map (D.ls 2 RowD.d)), .sl bv 1 3 (bs3.map dN), .bx g2 192 (RowD.d x), .bx g1 34 (.agg [.v (.slice none 0 0), .v (.int .i64 0)])] rfl ?_
    refine od_nil rfl ?_
    refine pd_seq ?_
    refine jd_seq [true, true, true, true, true, true, false] [true, true, true, true, true, true, true] rfl rfl rfl ?_
    refine jd_region rfl ?_
    refine od_pu rfl rfl (p_fieldAddr rfl fa_192_0 rfl) ?_
    refine od_pu rfl rfl (p_load_bx (d := RowD.d x) rfl (i := 3) rfl Try.isAgg34 Try.sizeOf34 rfl rfl) ?_
    refine od_pu rfl rfl (p_move rfl) ?_
    refine od_step rfl rfl (ef_store_bx (i := 4) (X' := RowD.d x) rfl rfl rfl (CellD.agg) Try.sizeOf34 rfl rfl rfl) ?_
    rintro _ _ ⟨rfl, rfl⟩
    refine OpsD.norm [.bx t 189 (.agg [.v (.int .i64 o), .ov lv, .v (.int .i64 ((wd : Nat) : Int)), .ov bv]), .sl lv 1 27 ((pop ll m).map (D.ls 2 RowD.d)), .sl bv 1 3 (bs3.map dN), .bx g2 192 (RowD.d x), .bx g1 34 (RowD.d x)] rfl ?_
    refine od_pu rfl rfl (p_assign rfl) ?_
    refine od_pu rfl rfl (p_assign rfl) ?_
    refine od_nil rfl ?_
    refine pd_seq ?_
    refine JD.keep [2, 3, 4] [(2, .v (.pointer (some ⟨g1, 0, none⟩))), (3, .v (.int .i64 ((m : Nat) : Int))), (4, .v (.bool true))] rfl ?_
    refine jd_ret rfl ?_
    exact pd_retH Try.results107 (.cons (ro_cell (i := 4) rfl rfl Try.isAgg34 Try.sizeOf34 rfl rfl) (.cons (ro_tmp rfl) (.cons (ro_tmp rfl) .nil))) rfl (HSub.fst 3 rfl) ⟨bs3, rfl, rfl, hbbs3, hgbs3⟩

set_option maxHeartbeats 4000000 in
set_option maxRecDepth 100000 in
theorem grow_c (o : Int) (ll : LLs) (nl : ll.length ≤ 1000000000) :
    CD Try.prog 106 [] [.v (.int .i64 o), .sh 1 (ll.map (D.ls 2 RowD.d))] (fun r H' => ∃ t lv bv wd bs p, r = .v (.pointer (some ⟨t, 0, none⟩)) ∧ H' = [.bx t 189 (.agg [.v (.int .i64 o), .ov lv, .v (.int .i64 ((wd : Nat) : Int)), .ov bv]), .sl lv 1 27 (ll.map (D.ls 2 RowD.d)), .sl bv 1 3 (bs.map dN)] ∧ wd = 2 ^ p ∧ wd ≤ 2000000000 ∧ ll.length ≤ wd ∧ bs.length = 2 * wd ∧ AllGood o ll wd bs) := by
  refine cd_of_JD Try.func106 rfl (N := 91) rfl rfl (fun C => ?_)
  refine JD.keep [0, 1] [(0, .v (.int .i64 o)), (1, .sh 1 (ll.map (D.ls 2 RowD.d)))] rfl ?_
  refine JD.bd 1 rfl (fun bd1 => ?_)
  have nl1 := bd_len bd1
  refine jd_seq [false] [true] rfl rfl rfl ?_
  refine jd_region rfl ?_
  refine od_pu rfl rfl (p_assign rfl) ?_
  refine od_nil rfl ?_
  refine pd_seq ?_
  refine jd_seq [true, false] [true, true] rfl rfl rfl ?_
  refine jd_region rfl ?_
  refine od_pu rfl rfl (p_move rfl) ?_
  refine od_pu rfl rfl (p_move rfl) ?_
  refine od_step rfl rfl (ef_append_n (f := (D.ls 2 RowD.d)) (l' := ll) rfl rfl (SrcD.sh) und_22 infz_27 rfl rfl (by unfold maxLen; (try simp only [List.length_append, List.length_cons, List.length_nil, List.length_map, List.length_take, List.length_drop, List.length_set, List.length_replicate]); omega) (by (try simp only [List.length_append, List.length_cons, List.length_nil, List.length_map, List.length_take, List.length_drop, List.length_set, List.length_replicate]); omega)) ?_
  rintro _ _ ⟨v1, rfl, rfl⟩
  refine od_pu rfl rfl (p_build [0, 1, 2] [.tmp 8, .tmp 10, .const (.int .i64 1)] (zv := (.agg #[(.int .i64 0), (.slice none 0 0), (.int .i64 0), (.slice none 0 0)])) rfl rfl (.cons (CellD.v rfl) (.cons CellD.o (.cons (CellD.v rfl) .nil))) (Try.runUnderlying189) Try.zeroValue189 bd_189 ⟨rfl, rfl, rfl, rfl, trivial⟩ rfl) ?_
  refine od_step rfl rfl (ef_box rfl (CellD.agg)) ?_
  rintro _ _ ⟨g2, rfl, rfl⟩
  refine od_pu rfl rfl (p_assign rfl) ?_
  refine od_nil rfl ?_
  refine pd_seq ?_
  refine jd_seq [true, true, false] [true, true, true] rfl rfl rfl ?_
  refine jd_block [true, true, false, false] rfl rfl ?_
  refine jd_loop (fun (g : Nat × Nat) => [(1, .sh 1 (ll.map (D.ls 2 RowD.d))), (4, .v (.pointer none)), (5, .v (.pointer (some ⟨g2, 0, none⟩)))]) (fun (g : Nat × Nat) => [.bx g2 189 (.agg [.v (.int .i64 o), .ov v1, .v (.int .i64 ((g.1 : Nat) : Int)), .v (.slice none 0 0)]), .sl v1 1 27 (ll.map (D.ls 2 RowD.d))]) (fun (g : Nat × Nat) => (g.1 = 2 ^ g.2) ∧ (g.1 ≤ 2000000000)) (fun (g : Nat × Nat) => ll.length - g.1) [true, true, false, false, false] (1, 0) rfl rfl ⟨sk rfl, sk rfl, sk rfl, trivial⟩ HSub.rfl' ⟨rfl, by omega⟩ ?_
  rintro ⟨wd, p⟩ ⟨hp, hw⟩
  replace hp : wd = 2 ^ p := hp
  replace hw : wd ≤ 2000000000 := hw
  refine JD.keep [1, 4, 5] [(1, .sh 1 (ll.map (D.ls 2 RowD.d))), (4, .v (.pointer none)), (5, .v (.pointer (some ⟨g2, 0, none⟩)))] rfl ?_
  refine JD.norm [.bx g2 189 (.agg [.v (.int .i64 o), .ov v1, .v (.int .i64 ((wd : Nat) : Int)), .v (.slice none 0 0)]), .sl v1 1 27 (ll.map (D.ls 2 RowD.d))] rfl ?_
  refine jd_seq [true, true, false, false, false, false] [true, true, false, false, false, true] rfl rfl rfl ?_
  refine jd_seq [true, true, false, false, false, false, false] [true, true, false, false, false, false, true] rfl rfl rfl ?_
  refine jd_region rfl ?_
  refine od_pu rfl rfl (p_move rfl) ?_
  refine od_pu rfl rfl (p_nilCheck rfl) ?_
  refine od_pu rfl rfl (p_fieldAddr rfl fa_189_2 rfl) ?_
  refine od_pu rfl rfl (p_load_bx1 rfl (i := 0) rfl Try.isAgg3 rfl) ?_
  refine od_pu rfl rfl (p_move rfl) ?_
  refine od_pu rfl rfl (p_len (n := ll.length) rfl Try.runUnderlying22 (by simp only [List.length_map, List.length_cons, List.length_nil])) ?_
  refine od_pu rfl rfl (p_lss rfl rfl rfl) ?_
  refine od_nil rfl ?_
  refine pd_seq ?_
  refine jd_cond [true, true, false, false, false, false, true, false] [true, true, false, false, false, false, true, true] rfl rfl rfl rfl (fun hc3 => ?_) (fun hc3 => ?_)
  · replace hc3 := of_decide_eq_true hc3
    refine jd_skip rfl ?_
    refine pd_seq ?_
    refine jd_block [true, true, false, false, false, true, false] rfl rfl ?_
    refine jd_region rfl ?_
    refine od_pu rfl rfl (p_move rfl) ?_
    refine od_pu rfl rfl (p_nilCheck rfl) ?_
    refine od_pu rfl rfl (p_fieldAddr rfl fa_189_2 rfl) ?_
    refine od_pu rfl rfl (p_load_bx1 rfl (i := 0) rfl Try.isAgg3 rfl) ?_
    refine od_pu rfl rfl (p_mul (c := ((wd * 2 : Nat) : Int)) rfl rfl (w64eq (by omega) (by omega))) ?_
    refine od_pu rfl rfl (p_nilCheck rfl) ?_
    refine od_pu rfl rfl (p_fieldAddr rfl fa_189_2 rfl) ?_
    refine od_step rfl rfl (ef_store_bx (i := 0) (X' := .agg [.v (.int .i64 o), .ov v1, .v (.int .i64 ((wd * 2 : Nat) : Int)), .v (.slice none 0 0)]) rfl rfl rfl (CellD.v rfl) Try.sizeOf3 rfl rfl rfl) ?_
    rintro _ _ ⟨rfl, rfl⟩
    refine OpsD.norm [.bx g2 189 (.agg [.v (.int .i64 o), .ov v1, .v (.int .i64 ((wd * 2 : Nat) : Int)), .v (.slice none 0 0)]), .sl v1 1 27 (ll.map (D.ls 2 RowD.d))] rfl ?_
    refine od_nil rfl ?_
    refine pd_block ?_
    exact pd_loop (wd * 2, p + 1) ⟨sk rfl, sk rfl, sk rfl, trivial⟩ HSub.rfl' ⟨by rw [Nat.pow_succ, ← hp], by omega⟩ (by have := Nat.two_pow_pos p; omega)
  · replace hc3 := of_decide_eq_false hc3
    refine jd_exit rfl ?_
    refine pd_seq_exit ?_
    refine pd_loop_exit ?_
    refine pd_block_exit ?_
    refine pd_seq ?_
    refine jd_seq [true, true, true, false] [true, true, true, true] rfl rfl rfl ?_
    refine jd_region rfl ?_
    refine od_pu rfl rfl (p_move rfl) ?_
    refine od_pu rfl rfl (p_move rfl) ?_
    refine od_pu rfl rfl (p_nilCheck rfl) ?_
    refine od_pu rfl rfl (p_fieldAddr rfl fa_189_2 rfl) ?_
    refine od_pu rfl rfl (p_load_bx1 rfl (i := 0) rfl Try.isAgg3 rfl) ?_
    refine od_pu rfl rfl (p_mul (c := ((2 * wd : Nat) : Int)) rfl rfl (w64eq (by omega) (by omega))) ?_
    refine od_step rfl rfl (ef_makeSlice_m (f := dN) (c := 0) (n := 2 * wd) rfl rfl Try.runUnderlying25 inf_3 Try.zeroValue3 rfl ⟨rfl, trivial⟩ (Cv.rfl') (by omega) (by omega) (by omega) (by omega)) ?_
    rintro _ _ ⟨g4, rfl, rfl⟩
    refine od_pu rfl rfl (p_nilCheck rfl) ?_
    refine od_pu rfl rfl (p_fieldAddr rfl fa_189_3 rfl) ?_
    refine od_step rfl rfl (ef_store_bx (i := 1) (X' := .agg [.v (.int .i64 o), .ov v1, .v (.int .i64 ((wd : Nat) : Int)), .ov (.slice (some ⟨g4, 0, none⟩) (2 * wd) (2 * wd))]) rfl rfl rfl (CellD.o) Try.sizeOf25 rfl rfl rfl) ?_
    rintro _ _ ⟨rfl, rfl⟩
    refine OpsD.norm [.sl (.slice (some ⟨g4, 0, none⟩) (2 * wd) (2 * wd)) 1 3 ((List.replicate (2 * wd) 0).map dN), .bx g2 189 (.agg [.v (.int .i64 o), .ov v1, .v (.int .i64 ((wd : Nat) : Int)), .ov (.slice (some ⟨g4, 0, none⟩) (2 * wd) (2 * wd))]), .sl v1 1 27 (ll.map (D.ls 2 RowD.d))] rfl ?_
    refine od_nil rfl ?_
    refine pd_seq ?_
    refine JD.keep [4, 5] [(4, .v (.pointer none)), (5, .v (.pointer (some ⟨g2, 0, none⟩)))] rfl ?_
    refine jd_seq [true, true, true, true, false] [true, true, true, true, true] rfl rfl rfl ?_
    refine jd_seq [true, true, true, true, false, false] [true, true, true, true, false, true] rfl rfl rfl ?_
    refine jd_region rfl ?_
    refine od_pu rfl rfl (p_move rfl) ?_
    refine od_pu rfl rfl (p_nilCheck rfl) ?_
    refine od_pu rfl rfl (p_fieldAddr rfl fa_189_2 rfl) ?_
    refine od_pu rfl rfl (p_load_bx1 rfl (i := 1) rfl Try.isAgg3 rfl) ?_
    refine od_pu rfl rfl (p_move rfl) ?_
    refine od_nil rfl ?_
    refine pd_seq ?_
    refine jd_block [true, true, true, true, false, true, false] rfl rfl ?_
    have hwp := Nat.two_pow_pos p
    refine JD.subH (HSub.perm (perm_front (i := 2) rfl)) ?_
    refine JD.norm [.sl v1 1 27 (ll.map (D.ls 2 RowD.d)), .sl (.slice (some ⟨g4, 0, none⟩) (2 * wd) (2 * wd)) 1 3 ((List.replicate (2 * wd) 0).map dN), .bx g2 189 (.agg [.v (.int .i64 o), .ov v1, .v (.int .i64 ((wd : Nat) : Int)), .ov (.slice (some ⟨g4, 0, none⟩) (2 * wd) (2 * wd))])] rfl ?_
    refine JD.subH (HSub.perm (perm_front (i := 2) rfl)) ?_
    refine JD.norm [.bx g2 189 (.agg [.v (.int .i64 o), .ov v1, .v (.int .i64 ((wd : Nat) : Int)), .ov (.slice (some ⟨g4, 0, none⟩) (2 * wd) (2 * wd))]), .sl v1 1 27 (ll.map (D.ls 2 RowD.d)), .sl (.slice (some ⟨g4, 0, none⟩) (2 * wd) (2 * wd)) 1 3 ((List.replicate (2 * wd) 0).map dN)] rfl ?_
    refine jd_loop (fun (g : Nat × List Nat) => [(4, .v (.pointer none)), (5, .v (.pointer (some ⟨g2, 0, none⟩))), (39, .v (.int .i64 ((wd : Nat) : Int))), (40, .v (.int .i64 ((g.1 : Nat) : Int)))]) (fun (g : Nat × List Nat) => [.bx g2 189 (.agg [.v (.int .i64 o), .ov v1, .v (.int .i64 ((wd : Nat) : Int)), .ov (.slice (some ⟨g4, 0, none⟩) (2 * wd) (2 * wd))]), .sl v1 1 27 (ll.map (D.ls 2 RowD.d)), .sl (.slice (some ⟨g4, 0, none⟩) (2 * wd) (2 * wd)) 1 3 (g.2.map dN)]) (fun (g : Nat × List Nat) => ((g.2).length = 2 * wd) ∧ (g.1 ≤ wd) ∧ (∀ j, j < g.1 → (g.2)[wd + j]? = some j)) (fun (g : Nat × List Nat) => wd - g.1) [true, true, true, true, false, true, false, false] (0, (List.replicate (2 * wd) 0)) rfl rfl ⟨sk rfl, sk rfl, sk rfl, sk rfl, trivial⟩ HSub.rfl' ⟨by rw [List.length_replicate], by omega, fun j hj => absurd hj (Nat.not_lt_zero j)⟩ ?_
    rintro ⟨k, c⟩ ⟨hc, hk, hs⟩
    replace hc : (c).length = 2 * wd := hc
    replace hk : k ≤ wd := hk
    replace hs : ∀ j, j < k → (c)[wd + j]? = some j := hs
    refine JD.keep [4, 5, 39, 40] [(4, .v (.pointer none)), (5, .v (.pointer (some ⟨g2, 0, none⟩))), (39, .v (.int .i64 ((wd : Nat) : Int))), (40, .v (.int .i64 ((k : Nat) : Int)))] rfl ?_
    refine JD.norm [.bx g2 189 (.agg [.v (.int .i64 o), .ov v1, .v (.int .i64 ((wd : Nat) : Int)), .ov (.slice (some ⟨g4, 0, none⟩) (2 * wd) (2 * wd))]), .sl v1 1 27 (ll.map (D.ls 2 RowD.d)), .sl (.slice (some ⟨g4, 0, none⟩) (2 * wd) (2 * wd)) 1 3 (c.map dN)] rfl ?_
    refine jd_seq [true, true, true, true, false, true, false, false, false] [true, true, true, true, false, true, false, false, true] rfl rfl rfl ?_
    refine jd_region rfl ?_
    refine od_pu rfl rfl (p_lss rfl rfl rfl) ?_
    refine od_nil rfl ?_
    refine pd_seq ?_
    refine jd_seq [true, true, true, true, false, true, false, false, true, false] [true, true, true, true, false, true, false, false, true, true] rfl rfl rfl ?_
    refine jd_cond [true, true, true, true, false, true, false, false, true, false, false] [true, true, true, true, false, true, false, false, true, false, true] rfl rfl rfl rfl (fun hc5 => ?_) (fun hc5 => ?_)
    · replace hc5 := of_decide_eq_true hc5
      refine jd_skip rfl ?_
      refine pd_seq ?_
      refine jd_seq [true, true, true, true, false, true, false, false, true, true, false] [true, true, true, true, false, true, false, false, true, true, true] rfl rfl rfl ?_
      refine jd_block [true, true, true, true, false, true, false, false, true, true, false, false] rfl rfl ?_
      refine jd_seq [true, true, true, true, false, true, false, false, true, true, false, false, false] [true, true, true, true, false, true, false, false, true, true, false, false, true] rfl rfl rfl ?_
      refine jd_region rfl ?_
      refine od_pu rfl rfl (p_move rfl) ?_
      refine od_pu rfl rfl (p_assign rfl) ?_
      refine od_nil rfl ?_
      refine pd_seq ?_
      refine JD.keep [4, 5, 6, 39, 40, 41, 42] [(4, .v (.pointer none)), (5, .v (.pointer (some ⟨g2, 0, none⟩))), (6, .v (.int .i64 ((k : Nat) : Int))), (39, .v (.int .i64 ((wd : Nat) : Int))), (40, .v (.int .i64 ((k : Nat) : Int))), (41, .v (.bool (decide (((k : Nat) : Int) < ((wd : Nat) : Int))))), (42, .v (.int .i64 ((k : Nat) : Int)))] rfl ?_
      refine JD.norm [.bx g2 189 (.agg [.v (.int .i64 o), .ov v1, .v (.int .i64 ((wd : Nat) : Int)), .ov (.slice (some ⟨g4, 0, none⟩) (2 * wd) (2 * wd))]), .sl v1 1 27 (ll.map (D.ls 2 RowD.d)), .sl (.slice (some ⟨g4, 0, none⟩) (2 * wd) (2 * wd)) 1 3 (c.map dN)] rfl ?_
      refine jd_draw 11 [(43, .v (.pointer (some ⟨g2, 0, none⟩)), none), (44, .v (.pointer (some ⟨g2, 0, none⟩)), none), (45, .v (.pointer (some ⟨g2, 3, none⟩)), none), (46, .ov (.slice (some ⟨g4, 0, none⟩) (2 * wd) (2 * wd)), none), (47, .v (.pointer (some ⟨g2, 0, none⟩)), none), (48, .v (.pointer (some ⟨g2, 0, none⟩)), none), (49, .v (.pointer (some ⟨g2, 2, none⟩)), none), (50, .v (.int .i64 ((wd : Nat) : Int)), none), (51, .v (.int .i64 ((k : Nat) : Int)), none), (52, .v (.int .i64 ((wd + k : Nat) : Int)), none), (53, .v (.int .i64 ((k : Nat) : Int)), none)] [.bx g2 189 (.agg [.v (.int .i64 o), .ov v1, .v (.int .i64 ((wd : Nat) : Int)), .ov (.slice (some ⟨g4, 0, none⟩) (2 * wd) (2 * wd))]), .sl v1 1 27 (ll.map (D.ls 2 RowD.d)), .sl (.slice (some ⟨g4, 0, none⟩) (2 * wd) (2 * wd)) 1 3 (c.map dN)] (Hn := [.bx g2 189 (.agg [.v (.int .i64 o), .ov v1, .v (.int .i64 ((wd : Nat) : Int)), .ov (.slice (some ⟨g4, 0, none⟩) (2 * wd) (2 * wd))]), .sl v1 1 27 (ll.map (D.ls 2 RowD.d)), .sl (.slice (some ⟨g4, 0, none⟩) (2 * wd) (2 * wd)) 1 3 (c.map dN)]) mixed rfl rfl rfl rfl HSub.rfl' rfl ⟨sa_p rfl rfl rfl (p_move rfl), sa_p rfl rfl rfl (p_nilCheck rfl), sa_p rfl rfl rfl (p_fieldAddr rfl fa_189_3 rfl), sa_p rfl rfl rfl (p_load_bx1 rfl (i := 0) rfl Try.isAgg25 rfl), sa_p rfl rfl rfl (p_move rfl), sa_p rfl rfl rfl (p_nilCheck rfl), sa_p rfl rfl rfl (p_fieldAddr rfl fa_189_2 rfl), sa_p rfl rfl rfl (p_load_bx1 rfl (i := 0) rfl Try.isAgg3 rfl), sa_p rfl rfl rfl (p_move rfl), sa_p rfl rfl rfl (p_add (c := ((wd + k : Nat) : Int)) rfl rfl (w64eq (by omega) (by omega))), sa_p rfl rfl rfl (p_move rfl), trivial⟩ ?_
      refine OpsD.keep [4, 5, 6, 39, 40, 41, 42, 43, 44, 45, 46, 47, 48, 49, 50, 51, 52, 53] [(4, .v (.pointer none)), (5, .v (.pointer (some ⟨g2, 0, none⟩))), (6, .v (.int .i64 ((k : Nat) : Int))), (39, .v (.int .i64 ((wd : Nat) : Int))), (40, .v (.int .i64 ((k : Nat) : Int))), (41, .v (.bool (decide (((k : Nat) : Int) < ((wd : Nat) : Int))))), (42, .v (.int .i64 ((k : Nat) : Int))), (43, .v (.pointer (some ⟨g2, 0, none⟩))), (44, .v (.pointer (some ⟨g2, 0, none⟩))), (45, .v (.pointer (some ⟨g2, 3, none⟩))), (46, .ov (.slice (some ⟨g4, 0, none⟩) (2 * wd) (2 * wd))), (47, .v (.pointer (some ⟨g2, 0, none⟩))), (48, .v (.pointer (some ⟨g2, 0, none⟩))), (49, .v (.pointer (some ⟨g2, 2, none⟩))), (50, .v (.int .i64 ((wd : Nat) : Int))), (51, .v (.int .i64 ((k : Nat) : Int))), (52, .v (.int .i64 ((wd + k : Nat) : Int))), (53, .v (.int .i64 ((k : Nat) : Int)))] rfl ?_
      obtain ⟨x1, hx1⟩ := get_some c (wd + k) (by omega)
      refine od_pu rfl rfl (p_indexAddr_sl (k := wd + k) (j := 2) rfl rfl rfl Try.runUnderlying25 Try.sizeOf3 (by first | rfl | omega) (get_map hx1)) ?_
      refine od_step rfl rfl (ef_store_m (f := dN) (k := wd + k) (z := 1) (o := 0) (i := 2) (a' := k) rfl rfl hx1 rfl (CellD.v rfl) Try.sizeOf3 rfl rfl rfl) ?_
      rintro _ _ ⟨rfl, rfl⟩
      refine OpsD.norm [.bx g2 189 (.agg [.v (.int .i64 o), .ov v1, .v (.int .i64 ((wd : Nat) : Int)), .ov (.slice (some ⟨g4, 0, none⟩) (2 * wd) (2 * wd))]), .sl v1 1 27 (ll.map (D.ls 2 RowD.d)), .sl (.slice (some ⟨g4, 0, none⟩) (2 * wd) (2 * wd)) 1 3 ((c.set (wd + k) k).map dN)] rfl ?_
      refine od_nil rfl ?_
      refine pd_block ?_
      refine pd_seq ?_
      refine jd_region rfl ?_
      refine od_pu rfl rfl (p_add (c := ((k + 1 : Nat) : Int)) rfl rfl (w64eq (by omega) (by omega))) ?_
      refine od_pu rfl rfl (p_move rfl) ?_
      refine od_nil rfl ?_
      exact pd_loop (k + 1, (c.set (wd + k) k)) ⟨sk rfl, sk rfl, sk rfl, sk rfl, trivial⟩ HSub.rfl' ⟨by rw [List.length_set]; exact hc, by omega, set_step hs (by omega)⟩ (by omega)
    · replace hc5 := of_decide_eq_false hc5
      refine jd_exit rfl ?_
      refine pd_seq_exit ?_
      refine pd_loop_exit ?_
      refine pd_block_exit ?_
      refine pd_seq ?_
      refine jd_seq [true, true, true, true, true, false] [true, true, true, true, true, true] rfl rfl rfl ?_
      refine jd_seq [true, true, true, true, true, false, false] [true, true, true, true, true, false, true] rfl rfl rfl ?_
      refine jd_region rfl ?_
      refine od_pu rfl rfl (p_move rfl) ?_
      refine od_pu rfl rfl (p_nilCheck rfl) ?_
      refine od_pu rfl rfl (p_fieldAddr rfl fa_189_2 rfl) ?_
      refine od_pu rfl rfl (p_load_bx1 rfl (i := 0) rfl Try.isAgg3 rfl) ?_
      refine od_pu rfl rfl (p_sub (c := (((wd : Nat) : Int) - 1)) rfl rfl (w64eq (by omega) (by omega))) ?_
      refine od_pu rfl rfl (p_assign rfl) ?_
      refine od_nil rfl ?_
      refine pd_seq ?_
      refine jd_block [true, true, true, true, true, false, true, false] rfl rfl ?_
      refine jd_loop (fun (g : Nat × List Nat) => [(4, .v (.pointer none)), (5, .v (.pointer (some ⟨g2, 0, none⟩))), (7, .v (.int .i64 ((g.1 : Nat) : Int)))]) (fun (g : Nat × List Nat) => [.bx g2 189 (.agg [.v (.int .i64 o), .ov v1, .v (.int .i64 ((wd : Nat) : Int)), .ov (.slice (some ⟨g4, 0, none⟩) (2 * wd) (2 * wd))]), .sl v1 1 27 (ll.map (D.ls 2 RowD.d)), .sl (.slice (some ⟨g4, 0, none⟩) (2 * wd) (2 * wd)) 1 3 (g.2.map dN)]) (fun (g : Nat × List Nat) => ((g.2).length = 2 * wd) ∧ (g.1 < wd) ∧ (Making o ll wd g.2 g.1)) (fun (g : Nat × List Nat) => g.1) [true, true, true, true, true, false, true, false, false] (wd - 1, c) rfl rfl ⟨sk rfl, sk rfl, sc rfl ((Cv.eq (congrArg dI (by omega)))), trivial⟩ HSub.rfl' ⟨hc, by omega, Making.first (fun j hj => hs j (by omega))⟩ ?_
      rintro ⟨a, c2⟩ ⟨hc2, ha, hmk⟩
      replace hc2 : (c2).length = 2 * wd := hc2
      replace ha : a < wd := ha
      replace hmk : Making o ll wd c2 a := hmk
      refine JD.keep [4, 5, 7] [(4, .v (.pointer none)), (5, .v (.pointer (some ⟨g2, 0, none⟩))), (7, .v (.int .i64 ((a : Nat) : Int)))] rfl ?_
      refine JD.norm [.bx g2 189 (.agg [.v (.int .i64 o), .ov v1, .v (.int .i64 ((wd : Nat) : Int)), .ov (.slice (some ⟨g4, 0, none⟩) (2 * wd) (2 * wd))]), .sl v1 1 27 (ll.map (D.ls 2 RowD.d)), .sl (.slice (some ⟨g4, 0, none⟩) (2 * wd) (2 * wd)) 1 3 (c2.map dN)] rfl ?_
      refine jd_seq [true, true, true, true, true, false, true, false, false, false] [true, true, true, true, true, false, true, false, false, true] rfl rfl rfl ?_
      refine jd_seq [true, true, true, true, true, false, true, false, false, false, false] [true, true, true, true, true, false, true, false, false, false, true] rfl rfl rfl ?_
      refine jd_region rfl ?_
      refine od_pu rfl rfl (p_move rfl) ?_
      refine od_pu rfl rfl (p_gtr rfl rfl rfl) ?_
      refine od_nil rfl ?_
      refine pd_seq ?_
      refine jd_cond [true, true, true, true, true, false, true, false, false, false, true, false] [true, true, true, true, true, false, true, false, false, false, true, true] rfl rfl rfl rfl (fun hc6 => ?_) (fun hc6 => ?_)
      · replace hc6 := of_decide_eq_true hc6
        refine jd_skip rfl ?_
        refine pd_seq ?_
        refine jd_seq [true, true, true, true, true, false, true, false, false, true, false] [true, true, true, true, true, false, true, false, false, true, true] rfl rfl rfl ?_
        refine jd_block [true, true, true, true, true, false, true, false, false, true, false, false] rfl rfl ?_
        refine JD.keep [4, 5, 7, 61, 62] [(4, .v (.pointer none)), (5, .v (.pointer (some ⟨g2, 0, none⟩))), (7, .v (.int .i64 ((a : Nat) : Int))), (61, .v (.int .i64 ((a : Nat) : Int))), (62, .v (.bool (decide ((0 : Int) < ((a : Nat) : Int)))))] rfl ?_
        refine JD.norm [.bx g2 189 (.agg [.v (.int .i64 o), .ov v1, .v (.int .i64 ((wd : Nat) : Int)), .ov (.slice (some ⟨g4, 0, none⟩) (2 * wd) (2 * wd))]), .sl v1 1 27 (ll.map (D.ls 2 RowD.d)), .sl (.slice (some ⟨g4, 0, none⟩) (2 * wd) (2 * wd)) 1 3 (c2.map dN)] rfl ?_
        obtain ⟨x2, hx2⟩ := get_some c2 (2 * a) (by omega)
        obtain ⟨x3, hx3⟩ := get_some c2 ((2 * a) + 1) (by omega)
        refine jd_draw 24 [(65, .v (.pointer (some ⟨g2, 0, none⟩)), none), (66, .v (.pointer (some ⟨g2, 0, none⟩)), none), (67, .v (.pointer (some ⟨g2, 3, none⟩)), none), (68, .ov (.slice (some ⟨g4, 0, none⟩) (2 * wd) (2 * wd)), none), (69, .v (.int .i64 ((a : Nat) : Int)), none), (70, .v (.pointer (some ⟨g2, 0, none⟩)), none), (71, .v (.pointer (some ⟨g2, 0, none⟩)), none), (72, .v (.pointer (some ⟨g2, 0, none⟩)), none), (73, .v (.pointer (some ⟨g2, 3, none⟩)), none), (74, .ov (.slice (some ⟨g4, 0, none⟩) (2 * wd) (2 * wd)), none), (75, .v (.int .i64 ((a : Nat) : Int)), none), (76, .v (.int .i64 ((2 * a : Nat) : Int)), none), (77, .v (.pointer (some ⟨bl (.slice (some ⟨g4, 0, none⟩) (2 * wd) (2 * wd)), (2 * a) * 1 + 0, none⟩)), none), (78, .v (.int .i64 ((x2 : Nat) : Int)), none), (79, .v (.pointer (some ⟨g2, 0, none⟩)), none), (80, .v (.pointer (some ⟨g2, 0, none⟩)), none), (81, .v (.pointer (some ⟨g2, 3, none⟩)), none), (82, .ov (.slice (some ⟨g4, 0, none⟩) (2 * wd) (2 * wd)), none), (83, .v (.int .i64 ((a : Nat) : Int)), none), (84, .v (.int .i64 ((2 * a : Nat) : Int)), none), (85, .v (.int .i64 (((2 * a) + 1 : Nat) : Int)), none), (86, .v (.pointer (some ⟨bl (.slice (some ⟨g4, 0, none⟩) (2 * wd) (2 * wd)), ((2 * a) + 1) * 1 + 0, none⟩)), none), (87, .v (.int .i64 ((x3 : Nat) : Int)), none), (88, .v (.int .i64 ((firstN o ll x2 x3 : Nat) : Int)), none)] [.bx g2 189 (.agg [.v (.int .i64 o), .ov v1, .v (.int .i64 ((wd : Nat) : Int)), .ov (.slice (some ⟨g4, 0, none⟩) (2 * wd) (2 * wd))]), .sl v1 1 27 (ll.map (D.ls 2 RowD.d)), .sl (.slice (some ⟨g4, 0, none⟩) (2 * wd) (2 * wd)) 1 3 (c2.map dN)] (Hn := [.bx g2 189 (.agg [.v (.int .i64 o), .ov v1, .v (.int .i64 ((wd : Nat) : Int)), .ov (.slice (some ⟨g4, 0, none⟩) (2 * wd) (2 * wd))]), .sl v1 1 27 (ll.map (D.ls 2 RowD.d)), .sl (.slice (some ⟨g4, 0, none⟩) (2 * wd) (2 * wd)) 1 3 (c2.map dN)]) mixed rfl rfl rfl rfl HSub.rfl' rfl ⟨sa_p rfl rfl rfl (p_move rfl), sa_p rfl rfl rfl (p_nilCheck rfl), sa_p rfl rfl rfl (p_fieldAddr rfl fa_189_3 rfl), sa_p rfl rfl rfl (p_load_bx1 rfl (i := 0) rfl Try.isAgg25 rfl), sa_p rfl rfl rfl (p_move rfl), sa_p rfl rfl rfl (p_move rfl), sa_p rfl rfl rfl (p_move rfl), sa_p rfl rfl rfl (p_nilCheck rfl), sa_p rfl rfl rfl (p_fieldAddr rfl fa_189_3 rfl), sa_p rfl rfl rfl (p_load_bx1 rfl (i := 0) rfl Try.isAgg25 rfl), sa_p rfl rfl rfl (p_move rfl), sa_p rfl rfl rfl (p_mul (c := ((2 * a : Nat) : Int)) rfl rfl (w64eq (by omega) (by omega))), sa_p rfl rfl rfl (p_indexAddr_sl (k := 2 * a) (j := 2) rfl rfl rfl Try.runUnderlying25 Try.sizeOf3 (by first | rfl | omega) (get_map hx2)), sa_p rfl rfl rfl (p_load_sl1 rfl (i := 2) rfl (get_map hx2) Try.isAgg3 rfl), sa_p rfl rfl rfl (p_move rfl), sa_p rfl rfl rfl (p_nilCheck rfl), sa_p rfl rfl rfl (p_fieldAddr rfl fa_189_3 rfl), sa_p rfl rfl rfl (p_load_bx1 rfl (i := 0) rfl Try.isAgg25 rfl), sa_p rfl rfl rfl (p_move rfl), sa_p rfl rfl rfl (p_mul (c := ((2 * a : Nat) : Int)) rfl rfl (w64eq (by omega) (by omega))), sa_p rfl rfl rfl (p_add (c := (((2 * a) + 1 : Nat) : Int)) rfl rfl (w64eq (by omega) (by omega))), sa_p rfl rfl rfl (p_indexAddr_sl (k := (2 * a) + 1) (j := 2) rfl rfl rfl Try.runUnderlying25 Try.sizeOf3 (by first | rfl | omega) (get_map hx3)), sa_p rfl rfl rfl (p_load_sl1 rfl (i := 2) rfl (get_map hx3) Try.isAgg3 rfl), sa_q rfl rfl rfl (qu_lend [.bx g2 189 (.agg [.v (.int .i64 o), .ov v1, .v (.int .i64 ((wd : Nat) : Int)), .ov (.slice (some ⟨g4, 0, none⟩) (2 * wd) (2 * wd))]), .sl v1 1 27 (ll.map (D.ls 2 RowD.d)), .sl (.slice (some ⟨g4, 0, none⟩) (2 * wd) (2 * wd)) 1 3 (c2.map dN)] rfl (.cons (ArgC.boxC (j := 0) rfl (ArgC.agg (.cons ArgC.id (.cons (ArgC.own (j := 1) rfl rfl) (.cons ArgC.id (.cons (ArgC.own (j := 2) rfl rfl) .nil)))))) (.cons ArgC.id (.cons ArgC.id .nil))) (lend_cons (j := 0) rfl (lend_cons (j := 1) rfl (lend_cons (j := 2) rfl lend_nil))) Try.call146 (first_c (TreeD.mk o ll wd c2) x2 x3) (fun _ _ h => h.1) rfl), trivial⟩ ?_
        refine OpsD.keep [4, 5, 7, 61, 62, 65, 66, 67, 68, 69, 70, 71, 72, 73, 74, 75, 76, 77, 78, 79, 80, 81, 82, 83, 84, 85, 86, 87, 88] [(4, .v (.pointer none)), (5, .v (.pointer (some ⟨g2, 0, none⟩))), (7, .v (.int .i64 ((a : Nat) : Int))), (61, .v (.int .i64 ((a : Nat) : Int))), (62, .v (.bool (decide ((0 : Int) < ((a : Nat) : Int))))), (65, .v (.pointer (some ⟨g2, 0, none⟩))), (66, .v (.pointer (some ⟨g2, 0, none⟩))), (67, .v (.pointer (some ⟨g2, 3, none⟩))), (68, .ov (.slice (some ⟨g4, 0, none⟩) (2 * wd) (2 * wd))), (69, .v (.int .i64 ((a : Nat) : Int))), (70, .v (.pointer (some ⟨g2, 0, none⟩))), (71, .v (.pointer (some ⟨g2, 0, none⟩))), (72, .v (.pointer (some ⟨g2, 0, none⟩))), (73, .v (.pointer (some ⟨g2, 3, none⟩))), (74, .ov (.slice (some ⟨g4, 0, none⟩) (2 * wd) (2 * wd))), (75, .v (.int .i64 ((a : Nat) : Int))), (76, .v (.int .i64 ((2 * a : Nat) : Int))), (77, .v (.pointer (some ⟨bl (.slice (some ⟨g4, 0, none⟩) (2 * wd) (2 * wd)), (2 * a) * 1 + 0, none⟩))), (78, .v (.int .i64 ((x2 : Nat) : Int))), (79, .v (.pointer (some ⟨g2, 0, none⟩))), (80, .v (.pointer (some ⟨g2, 0, none⟩))), (81, .v (.pointer (some ⟨g2, 3, none⟩))), (82, .ov (.slice (some ⟨g4, 0, none⟩) (2 * wd) (2 * wd))), (83, .v (.int .i64 ((a : Nat) : Int))), (84, .v (.int .i64 ((2 * a : Nat) : Int))), (85, .v (.int .i64 (((2 * a) + 1 : Nat) : Int))), (86, .v (.pointer (some ⟨bl (.slice (some ⟨g4, 0, none⟩) (2 * wd) (2 * wd)), ((2 * a) + 1) * 1 + 0, none⟩))), (87, .v (.int .i64 ((x3 : Nat) : Int))), (88, .v (.int .i64 ((firstN o ll x2 x3 : Nat) : Int)))] rfl ?_
        obtain ⟨x4, hx4⟩ := get_some c2 a (by omega)
        refine od_pu rfl rfl (p_indexAddr_sl (k := a) (j := 2) rfl rfl rfl Try.runUnderlying25 Try.sizeOf3 (by first | rfl | omega) (get_map hx4)) ?_
        refine od_step rfl rfl (ef_store_m (f := dN) (k := a) (z := 1) (o := 0) (i := 2) (a' := firstN o ll x2 x3) rfl rfl hx4 rfl (CellD.v rfl) Try.sizeOf3 rfl rfl rfl) ?_
        rintro _ _ ⟨rfl, rfl⟩
        refine OpsD.norm [.bx g2 189 (.agg [.v (.int .i64 o), .ov v1, .v (.int .i64 ((wd : Nat) : Int)), .ov (.slice (some ⟨g4, 0, none⟩) (2 * wd) (2 * wd))]), .sl v1 1 27 (ll.map (D.ls 2 RowD.d)), .sl (.slice (some ⟨g4, 0, none⟩) (2 * wd) (2 * wd)) 1 3 ((c2.set a (firstN o ll x2 x3)).map dN)] rfl ?_
        refine od_nil rfl ?_
        refine pd_block ?_
        refine pd_seq ?_
        refine jd_region rfl ?_
        refine od_pu rfl rfl (p_move rfl) ?_
        refine od_pu rfl rfl (p_sub (c := (((a : Nat) : Int) - 1)) rfl rfl (w64eq (by omega) (by omega))) ?_
        refine od_pu rfl rfl (p_assign rfl) ?_
        refine od_nil rfl ?_
        exact pd_loop (a - 1, (c2.set a (firstN o ll x2 x3))) ⟨sk rfl, sk rfl, sc rfl (Cv.eq (congrArg dI (by omega))), trivial⟩ HSub.rfl' ⟨by rw [List.length_set]; exact hc2, by omega, hmk.next hp (by omega) (by omega) hc2 hx2 hx3⟩ (by omega)
      · replace hc6 := of_decide_eq_false hc6
        refine jd_exit rfl ?_
        refine pd_seq_exit ?_
        refine pd_loop_exit ?_
        refine pd_block_exit ?_
        refine pd_seq ?_
        refine jd_seq [true, true, true, true, true, true, false] [true, true, true, true, true, true, true] rfl rfl rfl ?_
        refine jd_region rfl ?_
        refine od_pu rfl rfl (p_move rfl) ?_
        refine od_pu rfl rfl (p_assign rfl) ?_
        refine od_nil rfl ?_
        refine pd_seq ?_
        refine jd_ret rfl ?_
        obtain rfl : a = 0 := by omega
        exact pd_retH Try.results106 (.cons (ro_tmp rfl) .nil) rfl (HSub.fst 3 rfl) ⟨_, _, _, wd, c2, p, rfl, rfl, hp, hw, by omega, hc2, hmk.last⟩

theorem perm_5 {a b c d e : Hp} : [a, b, c, d, e].Perm [c, d, e, b, a] := (perm_front (i := 2) rfl).trans (.cons _ ((perm_front (i := 2) rfl).trans (.cons _ ((perm_front (i := 2) rfl).trans (.cons _ (List.Perm.swap _ _ _))))))

set_option maxHeartbeats 4000000 in
set_option maxRecDepth 100000 in
theorem all_c (o : Int) (ll : LLs) (nl : ll.length ≤ 1000000000) (nt : total ll ≤ 1000000000) :
    CD Try.prog 45 [] [.v (.int .i64 o), .sh 1 (ll.map (D.ls 2 RowD.d))] (fun r H' => ∃ ov hv rs hs, r = .tup [.ov ov, .ov hv] ∧ H' = [.sl ov 2 34 (rs.map RowD.d), .sl hv 1 3 (hs.map dN)] ∧ Run o ll rs hs) := by
  refine cd_of_JD Try.func45 rfl (N := 33) rfl rfl (fun C => ?_)
  refine JD.keep [0, 1] [(0, .v (.int .i64 o)), (1, .sh 1 (ll.map (D.ls 2 RowD.d)))] rfl ?_
  refine JD.bd 1 rfl (fun bd1 => ?_)
  have nl1 := bd_len bd1
  refine jd_seq [false] [true] rfl rfl rfl ?_
  refine jd_region rfl ?_
  refine od_pu rfl rfl (p_assign rfl) ?_
  refine od_pu rfl rfl (p_assign rfl) ?_
  refine od_nil rfl ?_
  refine pd_seq ?_
  refine jd_seq [true, false] [true, true] rfl rfl rfl ?_
  refine jd_region rfl ?_
  refine od_pu rfl rfl (p_move rfl) ?_
  refine od_pu rfl rfl (p_move rfl) ?_
  refine od_step rfl rfl (ef_call [] [] [] rfl rfl (.cons ArgC.id (.cons ArgC.id .nil)) lend_nil Try.call106 (grow_c o ll (by omega)) (.inl rfl)) ?_
  rintro _ _ ⟨_, ⟨t, lv, bv, wd, bs, p, rfl, rfl, hp, hwd, hlw, hb, hg⟩, rfl⟩
  refine OpsD.norm [.bx t 189 (.agg [.v (.int .i64 o), .ov lv, .v (.int .i64 ((wd : Nat) : Int)), .ov bv]), .sl lv 1 27 (ll.map (D.ls 2 RowD.d)), .sl bv 1 3 (bs.map dN)] rfl ?_
  refine od_pu rfl rfl (p_assign rfl) ?_
  refine od_nil rfl ?_
  refine pd_seq ?_
  refine jd_seq [true, true, false] [true, true, true] rfl rfl rfl ?_
  refine jd_region rfl ?_
  refine od_pu rfl rfl (p_assign rfl) ?_
  refine od_nil rfl ?_
  refine pd_seq ?_
  refine jd_seq [true, true, true, false] [true, true, true, true] rfl rfl rfl ?_
  refine jd_region rfl ?_
  refine od_pu rfl rfl (p_assign rfl) ?_
  refine od_nil rfl ?_
  refine pd_seq ?_
  refine jd_block [true, true, true, true, false] rfl rfl ?_
  refine JD.subH (HSub.nil 2 34) ?_
  refine JD.subH (HSub.nil 1 3) ?_
  refine JD.subH (HSub.perm (perm_5)) ?_
  refine JD.norm [.bx t 189 (.agg [.v (.int .i64 o), .ov lv, .v (.int .i64 ((wd : Nat) : Int)), .ov bv]), .sl lv 1 27 (ll.map (D.ls 2 RowD.d)), .sl bv 1 3 (bs.map dN), .sl (.slice none 0 0) 2 34 ([].map RowD.d), .sl (.slice none 0 0) 1 3 ([].map dN)] rfl ?_
  refine jd_loop (fun (g : Value × Value × List RowD × List Nat × LLs × List Nat) => [(6, .v (.pointer (some ⟨t, 0, none⟩))), (7, .ov g.1), (8, .ov g.2.1)]) (fun (g : Value × Value × List RowD × List Nat × LLs × List Nat) => [.bx t 189 (.agg [.v (.int .i64 o), .ov lv, .v (.int .i64 ((wd : Nat) : Int)), .ov bv]), .sl lv 1 27 (g.2.2.2.2.1.map (D.ls 2 RowD.d)), .sl bv 1 3 (g.2.2.2.2.2.map dN), .sl g.1 2 34 (g.2.2.1.map RowD.d), .sl g.2.1 1 3 (g.2.2.2.1.map dN)]) (fun (g : Value × Value × List RowD × List Nat × LLs × List Nat) => (RunTo o ll g.2.2.2.2.1 g.2.2.1 g.2.2.2.1) ∧ ((g.2.2.2.2.2).length = 2 * wd) ∧ (AllGood o g.2.2.2.2.1 wd g.2.2.2.2.2)) (fun (g : Value × Value × List RowD × List Nat × LLs × List Nat) => total g.2.2.2.2.1) [true, true, true, true, false, false] (.slice none 0 0, .slice none 0 0, [], [], ll, bs) rfl rfl ⟨sk rfl, sc rfl (Cv.ov rfl), sc rfl (Cv.ov rfl), trivial⟩ HSub.rfl' ⟨RunTo.zero, hb, hg⟩ ?_
  rintro ⟨ov, hv, rs, hs, l1, b1⟩ ⟨hrun, hb, hg⟩
  replace hrun : RunTo o ll l1 rs hs := hrun
  replace hb : (b1).length = 2 * wd := hb
  replace hg : AllGood o l1 wd b1 := hg
  refine JD.keep [6, 7, 8] [(6, .v (.pointer (some ⟨t, 0, none⟩))), (7, .ov ov), (8, .ov hv)] rfl ?_
  refine JD.norm [.bx t 189 (.agg [.v (.int .i64 o), .ov lv, .v (.int .i64 ((wd : Nat) : Int)), .ov bv]), .sl lv 1 27 (l1.map (D.ls 2 RowD.d)), .sl bv 1 3 (b1.map dN), .sl ov 2 34 (rs.map RowD.d), .sl hv 1 3 (hs.map dN)] rfl ?_
  obtain ⟨m, hm, hmw, hwin⟩ := hg.win hp (by rw [hrun.length.2.2]; omega)
  have hlen := hrun.length
  rcases hh : hd l1 m with _ | x
  · skip
    refine jd_block [true, true, true, true, false, false, false] rfl rfl ?_
    refine jd_seq [true, true, true, true, false, false, false, false] [true, true, true, true, false, false, false, true] rfl rfl rfl ?_
    refine jd_region rfl ?_
    refine od_pu rfl rfl (p_move rfl) ?_
    refine od_step rfl rfl (ef_call [.bx t 189 (.agg [.v (.int .i64 o), .ov lv, .v (.int .i64 ((wd : Nat) : Int)), .ov bv]), .sl lv 1 27 (l1.map (D.ls 2 RowD.d)), .sl bv 1 3 (b1.map dN)] [.sl ov 2 34 (rs.map RowD.d), .sl hv 1 3 (hs.map dN)] [] rfl rfl (.cons ArgC.id .nil) lend_nil Try.call107 (next_none t lv bv o l1 wd b1 _ hp hwd hb m hg hm hmw hh) (.inl rfl)) ?_
    rintro _ _ ⟨_, ⟨rfl, rfl⟩, rfl⟩
    refine OpsD.norm [.bx t 189 (.agg [.v (.int .i64 o), .ov lv, .v (.int .i64 ((wd : Nat) : Int)), .ov bv]), .sl lv 1 27 (l1.map (D.ls 2 RowD.d)), .sl bv 1 3 (b1.map dN), .sl ov 2 34 (rs.map RowD.d), .sl hv 1 3 (hs.map dN)] rfl ?_
    refine od_pu rfl rfl (p_move rfl) ?_
    refine od_pu rfl rfl (p_extract rfl rfl) ?_
    refine od_pu rfl rfl (p_extract rfl rfl) ?_
    refine od_pu rfl rfl (p_extract rfl rfl) ?_
    refine od_step rfl rfl (ef_alloc (zv := (.agg #[(.slice none 0 0), (.int .i64 0)])) Try.zeroValue34 ⟨rfl, rfl, trivial⟩ (Cv.vagg (by decide))) ?_
    rintro _ _ ⟨g1, rfl, rfl⟩
    refine od_step rfl rfl (ef_store_bx (i := 0) (X' := .agg [.v (.slice none 0 0), .v (.int .i64 0)]) rfl rfl rfl (CellD.agg) Try.sizeOf34 rfl rfl rfl) ?_
    rintro _ _ ⟨rfl, rfl⟩
    refine OpsD.norm [.bx g1 34 (.agg [.v (.slice none 0 0), .v (.int .i64 0)]), .bx t 189 (.agg [.v (.int .i64 o), .ov lv, .v (.int .i64 ((wd : Nat) : Int)), .ov bv]), .sl lv 1 27 (l1.map (D.ls 2 RowD.d)), .sl bv 1 3 (b1.map dN), .sl ov 2 34 (rs.map RowD.d), .sl hv 1 3 (hs.map dN)] rfl ?_
    refine od_pu rfl rfl (p_assign rfl) ?_
    refine od_pu rfl rfl (p_assign rfl) ?_
    refine od_nil rfl ?_
    refine pd_seq ?_
    refine jd_seq [true, true, true, true, false, false, false, true, false] [true, true, true, true, false, false, false, true, true] rfl rfl rfl ?_
    refine jd_seq [true, true, true, true, false, false, false, true, false, false] [true, true, true, true, false, false, false, true, false, true] rfl rfl rfl ?_
    refine jd_region rfl ?_
    refine od_pu rfl rfl (p_move rfl) ?_
    refine od_pu rfl rfl (p_not (q := false) rfl) ?_
    refine od_nil rfl ?_
    refine pd_seq ?_
    refine jd_cond_t [true, true, true, true, false, false, false, true, false, true, false] rfl rfl rfl ?_
    refine jd_seq [true, true, true, true, false, false, false, true, false, true, false, false] [true, true, true, true, false, false, false, true, false, true, false, true] rfl rfl rfl ?_
    refine jd_region rfl ?_
    refine od_pu rfl rfl (p_move rfl) ?_
    refine od_pu rfl rfl (p_move rfl) ?_
    refine od_pu rfl rfl (p_assign rfl) ?_
    refine od_pu rfl rfl (p_assign rfl) ?_
    refine od_nil rfl ?_
    refine pd_seq ?_
    refine jd_ret rfl ?_
    refine pd_seq_ret ?_
    refine pd_block_ret ?_
    refine pd_loop_ret ?_
    refine pd_block_ret ?_
    refine PD.subH (HSub.perm (perm_front (i := 5) rfl)) ?_
    refine PD.norm [.sl hv 1 3 (hs.map dN), .bx g1 34 (.agg [.v (.slice none 0 0), .v (.int .i64 0)]), .bx t 189 (.agg [.v (.int .i64 o), .ov lv, .v (.int .i64 ((wd : Nat) : Int)), .ov bv]), .sl lv 1 27 (l1.map (D.ls 2 RowD.d)), .sl bv 1 3 (b1.map dN), .sl ov 2 34 (rs.map RowD.d)] rfl ?_
    refine PD.subH (HSub.perm (perm_front (i := 5) rfl)) ?_
    refine PD.norm [.sl ov 2 34 (rs.map RowD.d), .sl hv 1 3 (hs.map dN), .bx g1 34 (.agg [.v (.slice none 0 0), .v (.int .i64 0)]), .bx t 189 (.agg [.v (.int .i64 o), .ov lv, .v (.int .i64 ((wd : Nat) : Int)), .ov bv]), .sl lv 1 27 (l1.map (D.ls 2 RowD.d)), .sl bv 1 3 (b1.map dN)] rfl ?_
    refine PD.subH (HSub.fst 2 rfl) ?_
    exact pd_ret Try.results45 (.cons (ro_tmp rfl) (.cons (ro_tmp rfl) .nil)) rfl ⟨_, _, rs, hs, rfl, rfl, hrun.run (fun j => by rcases e : hd l1 j with _ | y; rfl; obtain ⟨x, hx, _⟩ := hwin j y e; rw [hh] at hx; cases hx)⟩
  · skip
    have htp := total_pop hh
    refine jd_block [true, true, true, true, false, false, false] rfl rfl ?_
    refine jd_seq [true, true, true, true, false, false, false, false] [true, true, true, true, false, false, false, true] rfl rfl rfl ?_
    refine jd_region rfl ?_
    refine od_pu rfl rfl (p_move rfl) ?_
    refine od_step rfl rfl (ef_call [.bx t 189 (.agg [.v (.int .i64 o), .ov lv, .v (.int .i64 ((wd : Nat) : Int)), .ov bv]), .sl lv 1 27 (l1.map (D.ls 2 RowD.d)), .sl bv 1 3 (b1.map dN)] [.sl ov 2 34 (rs.map RowD.d), .sl hv 1 3 (hs.map dN)] [] rfl rfl (.cons ArgC.id .nil) lend_nil Try.call107 (next_some t lv bv o l1 wd b1 _ hp hwd hb m hg hm hmw x hh) (.inl rfl)) ?_
    rintro _ _ ⟨_, ⟨bs2, rfl, rfl, hbbs2, hgbs2⟩, rfl⟩
    refine OpsD.norm [.bx t 189 (.agg [.v (.int .i64 o), .ov lv, .v (.int .i64 ((wd : Nat) : Int)), .ov bv]), .sl lv 1 27 ((pop l1 m).map (D.ls 2 RowD.d)), .sl bv 1 3 (bs2.map dN), .sl ov 2 34 (rs.map RowD.d), .sl hv 1 3 (hs.map dN)] rfl ?_
    refine od_pu rfl rfl (p_move rfl) ?_
    refine od_pu rfl rfl (p_extract rfl rfl) ?_
    refine od_pu rfl rfl (p_extract rfl rfl) ?_
    refine od_pu rfl rfl (p_extract rfl rfl) ?_
    refine od_step rfl rfl (ef_alloc (zv := (.agg #[(.slice none 0 0), (.int .i64 0)])) Try.zeroValue34 ⟨rfl, rfl, trivial⟩ (Cv.vagg (by decide))) ?_
    rintro _ _ ⟨g3, rfl, rfl⟩
    refine od_step rfl rfl (ef_store_bx (i := 0) (X' := RowD.d x) rfl rfl rfl (CellD.agg) Try.sizeOf34 rfl rfl rfl) ?_
    rintro _ _ ⟨rfl, rfl⟩
    refine OpsD.norm [.bx g3 34 (RowD.d x), .bx t 189 (.agg [.v (.int .i64 o), .ov lv, .v (.int .i64 ((wd : Nat) : Int)), .ov bv]), .sl lv 1 27 ((pop l1 m).map (D.ls 2 RowD.d)), .sl bv 1 3 (bs2.map dN), .sl ov 2 34 (rs.map RowD.d), .sl hv 1 3 (hs.map dN)] rfl ?_
    refine od_pu rfl rfl (p_assign rfl) ?_
    refine od_pu rfl rfl (p_assign rfl) ?_
    refine od_nil rfl ?_
    refine pd_seq ?_
    refine jd_seq [true, true, true, true, false, false, false, true, false] [true, true, true, true, false, false, false, true, true] rfl rfl rfl ?_
    refine jd_seq [true, true, true, true, false, false, false, true, false, false] [true, true, true, true, false, false, false, true, false, true] rfl rfl rfl ?_
    refine jd_region rfl ?_
    refine od_pu rfl rfl (p_move rfl) ?_
    refine od_pu rfl rfl (p_not (q := true) rfl) ?_
    refine od_nil rfl ?_
    refine pd_seq ?_
    refine jd_cond_f [true, true, true, true, false, false, false, true, false, true, true] rfl rfl rfl ?_
    refine jd_skip rfl ?_
    refine pd_seq ?_
    refine jd_region rfl ?_
    refine od_pu rfl rfl (p_move rfl) ?_
    refine od_pu rfl rfl (p_load_bx (d := RowD.d x) rfl (i := 0) rfl Try.isAgg34 Try.sizeOf34 rfl rfl) ?_
    refine od_step rfl rfl (ef_buildSlice [.tmp 26] rfl rfl (.cons CellD.agg .nil) rfl Try.runUnderlying27 Try.sizeOf34 Try.zeroValue34 rfl rfl rfl rfl) ?_
    rintro _ _ ⟨g4, rfl, rfl⟩
    refine od_step rfl rfl (ef_append_m (f := RowD.d) (l := rs) (l' := [x]) (i := 5) rfl rfl rfl (SrcD.own (j := 0) rfl rfl) und_27 infz_34 rfl rfl (by unfold maxLen; (try simp only [List.length_append, List.length_cons, List.length_nil, List.length_map, List.length_take, List.length_drop, List.length_set, List.length_replicate]); omega) (by (try simp only [List.length_append, List.length_cons, List.length_nil, List.length_map, List.length_take, List.length_drop, List.length_set, List.length_replicate]); omega)) ?_
    rintro _ _ ⟨v5, rfl, rfl⟩
    refine OpsD.norm [.sl (.slice (some ⟨g4, 0, none⟩) 1 1) 2 34 ([RowD.d x]), .bx g3 34 (RowD.d x), .bx t 189 (.agg [.v (.int .i64 o), .ov lv, .v (.int .i64 ((wd : Nat) : Int)), .ov bv]), .sl lv 1 27 ((pop l1 m).map (D.ls 2 RowD.d)), .sl bv 1 3 (bs2.map dN), .sl v5 2 34 ((rs ++ [x]).map RowD.d), .sl hv 1 3 (hs.map dN)] rfl ?_
    refine od_pu rfl rfl (p_move rfl) ?_
    refine od_pu rfl rfl (p_move rfl) ?_
    refine od_step rfl rfl (ef_buildSlice [.tmp 30] rfl rfl (.cons (CellD.v rfl) .nil) rfl Try.runUnderlying25 Try.sizeOf3 Try.zeroValue3 rfl rfl rfl rfl) ?_
    rintro _ _ ⟨g6, rfl, rfl⟩
    refine od_step rfl rfl (ef_append_m (f := dN) (l := hs) (l' := [m]) (i := 7) rfl rfl rfl (SrcD.own (j := 0) rfl rfl) und_25 infz_3 rfl rfl (by unfold maxLen; (try simp only [List.length_append, List.length_cons, List.length_nil, List.length_map, List.length_take, List.length_drop, List.length_set, List.length_replicate]); omega) (by (try simp only [List.length_append, List.length_cons, List.length_nil, List.length_map, List.length_take, List.length_drop, List.length_set, List.length_replicate]); omega)) ?_
    rintro _ _ ⟨v7, rfl, rfl⟩
    refine OpsD.norm [.sl (.slice (some ⟨g6, 0, none⟩) 1 1) 1 3 ([.v (.int .i64 ((m : Nat) : Int))]), .sl (.slice (some ⟨g4, 0, none⟩) 1 1) 2 34 ([RowD.d x]), .bx g3 34 (RowD.d x), .bx t 189 (.agg [.v (.int .i64 o), .ov lv, .v (.int .i64 ((wd : Nat) : Int)), .ov bv]), .sl lv 1 27 ((pop l1 m).map (D.ls 2 RowD.d)), .sl bv 1 3 (bs2.map dN), .sl v5 2 34 ((rs ++ [x]).map RowD.d), .sl v7 1 3 ((hs ++ [m]).map dN)] rfl ?_
    refine od_pu rfl rfl (p_assign rfl) ?_
    refine od_pu rfl rfl (p_assign rfl) ?_
    refine od_nil rfl ?_
    refine pd_block ?_
    exact pd_loop (v5, v7, (rs ++ [x]), (hs ++ [m]), (pop l1 m), bs2) ⟨sk rfl, sk rfl, sk rfl, trivial⟩ (HSub.lst 3 rfl) ⟨hrun.snoc hh hwin, hbbs2, hgbs2⟩ (by show total (pop l1 m) < total l1; omega)
end Lp
