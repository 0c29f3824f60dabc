/- Walks, printed by a program of mine (wip/tools/vc.py): each theorem says what a function of the translation hands back. -/
import Derived.Test.YtjhkajkickngmaaW2
import Derived.Test.YtjhkajkickngmaaMTree
set_option linter.unusedSimpArgs false
set_option linter.unusedVariables false
namespace Lp
open Go Go.RowKit Go.Proofs

theorem fa_189_0 (b o : Nat) : ∀ w, (Instr.fieldAt 189 (.pointer (some ⟨b, o, none⟩)) 0).run Try.prog w = .ok (.pointer (some ⟨b, o, none⟩)) w := fun _ => by kernel_rfl
theorem fa_189_1 (b o : Nat) : ∀ w, (Instr.fieldAt 189 (.pointer (some ⟨b, o, none⟩)) 1).run Try.prog w = .ok (.pointer (some ⟨b, o + 1, none⟩)) w := fun _ => by kernel_rfl
theorem fa_189_2 (b o : Nat) : ∀ w, (Instr.fieldAt 189 (.pointer (some ⟨b, o, none⟩)) 2).run Try.prog w = .ok (.pointer (some ⟨b, o + 2, none⟩)) w := fun _ => by kernel_rfl
theorem fa_189_3 (b o : Nat) : ∀ w, (Instr.fieldAt 189 (.pointer (some ⟨b, o, none⟩)) 3).run Try.prog w = .ok (.pointer (some ⟨b, o + 3, none⟩)) w := fun _ => by kernel_rfl
theorem fa_192_0 (b o : Nat) : ∀ w, (Instr.fieldAt 192 (.pointer (some ⟨b, o, none⟩)) 0).run Try.prog w = .ok (.pointer (some ⟨b, o, none⟩)) w := fun _ => by kernel_rfl
theorem inf_27 : ∃ i, Try.prog.info? 27 = some i ∧ i.bytes = 24 ∧ i.size = 1 := inf_of (by kernel_rfl)
theorem inf_3 : ∃ i, Try.prog.info? 3 = some i ∧ i.bytes = 8 ∧ i.size = 1 := inf_of (by kernel_rfl)
theorem inf_34 : ∃ i, Try.prog.info? 34 = some i ∧ i.bytes = 32 ∧ i.size = 2 := inf_of (by kernel_rfl)
theorem infz_27 : ∃ i, Try.prog.info? 27 = some i ∧ i.zero = some (.slice none 0 0) ∧ i.size = 1 ∧ i.bytes = 24 := infz_of (by kernel_rfl)
theorem infz_3 : ∃ i, Try.prog.info? 3 = some i ∧ i.zero = some (.int .i64 0) ∧ i.size = 1 ∧ i.bytes = 8 := infz_of (by kernel_rfl)
theorem infz_34 : ∃ i, Try.prog.info? 34 = some i ∧ i.zero = some (.agg #[.slice none 0 0, .int .i64 0]) ∧ i.size = 2 ∧ i.bytes = 32 := infz_of (by kernel_rfl)
theorem und_22 : Try.prog.underlying 22 = some (.slice 27) := by kernel_rfl
theorem und_25 : Try.prog.underlying 25 = some (.slice 3) := by kernel_rfl
theorem und_27 : Try.prog.underlying 27 = some (.slice 34) := by kernel_rfl

set_option maxHeartbeats 2000000 in
set_option maxRecDepth 100000 in
theorem leaf_none (base top t : Nat) (o : Int) (lv : Value) (ll : List LR) (wd : Nat) (bv : Value) (bs : List Nat) (lo hi : Nat) (k : Nat) (w : World) (hT : Tree w base top t o lv ll wd bv bs) (hR : Rws w lo hi ll) (hS : Small 1000000000 (lls ll)) (nl : ll.length ≤ 1000000000) (hH : hi ≤ w.heap.size) (hh : hd (lls ll) k = none) :
    Calls Try.prog 147 #[.pointer (some ⟨t, 0, none⟩), .int .i64 ((k : Nat) : Int)] w (Ret fun res w' => Ext w w' ∧ res = .iface 214 (.agg #[])) := by
  refine calls_of_J Try.func147 rfl (N := 36) rfl rfl ?_
  have E0 : Ext w w := Ext.rfl'
  rcases hd_none hh with hk | ⟨x1, hx1, he⟩
  · skip
    refine jp_seq [false] [true] rfl rfl rfl ?_
    refine j_region rfl ?_
    refine ops_val rfl rfl (fun _ hk => e_assign hk rfl ⟨rfl, rfl⟩) ?_
    refine ops_end rfl ?_
    refine post_seq ?_
    refine jp_seq [true, false] [true, true] rfl rfl rfl ?_
    refine jp_seq [true, false, false] [true, false, true] rfl rfl rfl ?_
    refine j_region rfl ?_
    refine ops_val rfl rfl (fun _ hk => e_move hk rfl ⟨rfl, rfl⟩) ?_
    refine ops_val rfl rfl (fun _ hk => e_move hk rfl ⟨rfl, rfl⟩) ?_
    refine ops_val rfl rfl (fun _ hk => e_nilCheck hk rfl ⟨rfl, rfl⟩) ?_
    refine ops_val rfl rfl (fun _ hk => e_fieldAddr hk rfl (fa_189_1 _ _) ⟨rfl, rfl⟩) ?_
    refine ops_val rfl rfl (fun _ hk => e_load1 hk rfl Try.isAgg22 (hT.at_.cell 1 rfl) ⟨rfl, rfl⟩) ?_
    refine ops_val rfl rfl (fun _ hk => e_len hk rfl Try.runUnderlying22 hT.lsl.len ⟨rfl, rfl⟩) ?_
    refine ops_val rfl rfl (fun _ hk => e_geq hk rfl rfl (decide_eq_true (by omega)) ⟨rfl, rfl⟩) ?_
    refine ops_val rfl rfl (fun _ hk => e_move hk rfl ⟨rfl, rfl⟩) ?_
    refine ops_skip rfl rfl rfl rfl rfl ?_
    refine ops_skip rfl rfl rfl rfl rfl ?_
    refine ops_skip rfl rfl rfl rfl rfl ?_
    refine ops_skip rfl rfl rfl rfl rfl ?_
    refine ops_skip rfl rfl rfl rfl rfl ?_
    refine ops_skip rfl rfl rfl rfl rfl ?_
    refine ops_skip rfl rfl rfl rfl rfl ?_
    refine ops_skip rfl rfl rfl rfl rfl ?_
    refine ops_skip rfl rfl rfl rfl rfl ?_
    refine ops_val rfl rfl (fun _ hk => e_pick_t hk rfl rfl ⟨rfl, rfl⟩) ?_
    refine ops_end rfl ?_
    refine post_seq ?_
    refine J.sub [(0, .pointer (some ⟨t, 0, none⟩)), (1, .int .i64 ((k : Nat) : Int)), (4, .nilIface), (22, .bool true)] ⟨rfl, rfl, rfl, rfl, trivial⟩ ?_
    refine jp_cond_t [true, false, true, false] rfl rfl rfl ?_
    refine jp_seq [true, false, true, false, false] [true, false, true, false, true] rfl rfl rfl ?_
    refine j_region rfl ?_
    refine ops_val rfl rfl (fun _ hk => e_build2 [] [] (.agg #[]) hk rfl rfl (fun _ => by kernel_rfl) ⟨rfl, rfl⟩) ?_
    refine ops_val rfl rfl (fun _ hk => e_mkIface hk rfl (fun _ => by kernel_rfl) ⟨rfl, rfl⟩) ?_
    refine ops_val rfl rfl (fun _ hk => e_assign hk rfl ⟨rfl, rfl⟩) ?_
    refine ops_end rfl ?_
    refine post_seq ?_
    refine jp_ret rfl ?_
    refine post_seq_ret ?_
    refine post_ret [.iface 214 (.agg #[])] (.iface 214 (.agg #[])) Try.results147 ⟨rfl, trivial⟩ rfl ?_
    exact ⟨E0, rfl⟩
  · have hlt := get_lt hx1
    refine jp_seq [false] [true] rfl rfl rfl ?_
    refine j_region rfl ?_
    refine ops_val rfl rfl (fun _ hk => e_assign hk rfl ⟨rfl, rfl⟩) ?_
    refine ops_end rfl ?_
    refine post_seq ?_
    refine jp_seq [true, false] [true, true] rfl rfl rfl ?_
    refine jp_seq [true, false, false] [true, false, true] rfl rfl rfl ?_
    refine j_region rfl ?_
    refine ops_val rfl rfl (fun _ hk => e_move hk rfl ⟨rfl, rfl⟩) ?_
    refine ops_val rfl rfl (fun _ hk => e_move hk rfl ⟨rfl, rfl⟩) ?_
    refine ops_val rfl rfl (fun _ hk => e_nilCheck hk rfl ⟨rfl, rfl⟩) ?_
    refine ops_val rfl rfl (fun _ hk => e_fieldAddr hk rfl (fa_189_1 _ _) ⟨rfl, rfl⟩) ?_
    refine ops_val rfl rfl (fun _ hk => e_load1 hk rfl Try.isAgg22 (hT.at_.cell 1 rfl) ⟨rfl, rfl⟩) ?_
    refine ops_val rfl rfl (fun _ hk => e_len hk rfl Try.runUnderlying22 hT.lsl.len ⟨rfl, rfl⟩) ?_
    refine ops_val rfl rfl (fun _ hk => e_geq hk rfl rfl (decide_eq_false (by omega)) ⟨rfl, rfl⟩) ?_
    refine ops_val rfl rfl (fun _ hk => e_move hk rfl ⟨rfl, rfl⟩) ?_
    refine ops_run rfl rfl rfl rfl rfl (fun _ hk => e_move hk rfl ⟨rfl, rfl⟩) ?_
    refine ops_run rfl rfl rfl rfl rfl (fun _ hk => e_nilCheck hk rfl ⟨rfl, rfl⟩) ?_
    refine ops_run rfl rfl rfl rfl rfl (fun _ hk => e_fieldAddr hk rfl (fa_189_1 _ _) ⟨rfl, rfl⟩) ?_
    refine ops_run rfl rfl rfl rfl rfl (fun _ hk => e_load1 hk rfl Try.isAgg22 (hT.at_.cell 1 rfl) ⟨rfl, rfl⟩) ?_
    refine ops_run rfl rfl rfl rfl rfl (fun _ hk => e_move hk rfl ⟨rfl, rfl⟩) ?_
    have A3 := hT.lsl.at_ hx1
    have qA3 := hT.lsl.block (by omega)
    have hr_x1 := hR x1 (mem_get hx1)
    have nr_x1 := hS.row hx1
    have nl_x1 : ∀ r ∈ x1.rs, r.ls.length ≤ 1000000000 := fun r hr => (hS _ (List.mem_of_getElem? (lls_get hx1))).2 r hr
    refine ops_run rfl rfl rfl rfl rfl (fun _ hk => e_indexAddr (k := k) hk rfl rfl Try.runUnderlying22 Try.sizeOf27 (hT.lsl.has (by omega)) (by omega) ⟨rfl, rfl⟩) ?_
    refine ops_run rfl rfl rfl rfl rfl (fun _ hk => e_load1 hk rfl Try.isAgg27 (A3.cell 0 rfl) ⟨rfl, rfl⟩) ?_
    refine ops_run rfl rfl rfl rfl rfl (fun _ hk => e_len hk rfl Try.runUnderlying27 hr_x1.sl.len ⟨rfl, rfl⟩) ?_
    refine ops_run rfl rfl rfl rfl rfl (fun _ hk => e_eql hk rfl rfl (decide_eq_true (by rw [he]; rfl)) ⟨rfl, rfl⟩) ?_
    refine ops_val rfl rfl (fun _ hk => e_pick_f hk rfl rfl ⟨rfl, rfl⟩) ?_
    refine ops_end rfl ?_
    refine post_seq ?_
    refine J.sub [(0, .pointer (some ⟨t, 0, none⟩)), (1, .int .i64 ((k : Nat) : Int)), (4, .nilIface), (22, .bool true)] ⟨rfl, rfl, rfl, rfl, trivial⟩ ?_
    refine jp_cond_t [true, false, true, false] rfl rfl rfl ?_
    refine jp_seq [true, false, true, false, false] [true, false, true, false, true] rfl rfl rfl ?_
    refine j_region rfl ?_
    refine ops_val rfl rfl (fun _ hk => e_build2 [] [] (.agg #[]) hk rfl rfl (fun _ => by kernel_rfl) ⟨rfl, rfl⟩) ?_
    refine ops_val rfl rfl (fun _ hk => e_mkIface hk rfl (fun _ => by kernel_rfl) ⟨rfl, rfl⟩) ?_
    refine ops_val rfl rfl (fun _ hk => e_assign hk rfl ⟨rfl, rfl⟩) ?_
    refine ops_end rfl ?_
    refine post_seq ?_
    refine jp_ret rfl ?_
    refine post_seq_ret ?_
    refine post_ret [.iface 214 (.agg #[])] (.iface 214 (.agg #[])) Try.results147 ⟨rfl, trivial⟩ rfl ?_
    exact ⟨E0, rfl⟩

set_option maxHeartbeats 2000000 in
set_option maxRecDepth 100000 in
theorem leaf_some (base top t : Nat) (o : Int) (lv : Value) (ll : List LR) (wd : Nat) (bv : Value) (bs : List Nat) (lo hi : Nat) (k : Nat) (r : RowD) (w : World) (hT : Tree w base top t o lv ll wd bv bs) (hR : Rws w lo hi ll) (hS : Small 1000000000 (lls ll)) (nl : ll.length ≤ 1000000000) (hH : hi ≤ w.heap.size) (hh : hd (lls ll) k = some r) :
    Calls Try.prog 147 #[.pointer (some ⟨t, 0, none⟩), .int .i64 ((k : Nat) : Int)] w (Ret fun res w' => Ext w w' ∧ res = .iface 192 (.agg #[r.lv, .int .i64 r.v])) := by
  refine calls_of_J Try.func147 rfl (N := 36) rfl rfl ?_
  have E0 : Ext w w := Ext.rfl'
  obtain ⟨x1, rest, hx1, he⟩ := hd_some hh
  have hlt := get_lt hx1
  have hr : x1.rs[0]? = some r := by rw [he]; rfl
  have hn0 : x1.rs.length = rest.length + 1 := by rw [he]; rfl
  · skip
    refine jp_seq [false] [true] rfl rfl rfl ?_
    refine j_region rfl ?_
    refine ops_val rfl rfl (fun _ hk => e_assign hk rfl ⟨rfl, rfl⟩) ?_
    refine ops_end rfl ?_
    refine post_seq ?_
    refine jp_seq [true, false] [true, true] rfl rfl rfl ?_
    refine jp_seq [true, false, false] [true, false, true] rfl rfl rfl ?_
    refine j_region rfl ?_
    refine ops_val rfl rfl (fun _ hk => e_move hk rfl ⟨rfl, rfl⟩) ?_
    refine ops_val rfl rfl (fun _ hk => e_move hk rfl ⟨rfl, rfl⟩) ?_
    refine ops_val rfl rfl (fun _ hk => e_nilCheck hk rfl ⟨rfl, rfl⟩) ?_
    refine ops_val rfl rfl (fun _ hk => e_fieldAddr hk rfl (fa_189_1 _ _) ⟨rfl, rfl⟩) ?_
    refine ops_val rfl rfl (fun _ hk => e_load1 hk rfl Try.isAgg22 (hT.at_.cell 1 rfl) ⟨rfl, rfl⟩) ?_
    refine ops_val rfl rfl (fun _ hk => e_len hk rfl Try.runUnderlying22 hT.lsl.len ⟨rfl, rfl⟩) ?_
    refine ops_val rfl rfl (fun _ hk => e_geq hk rfl rfl (decide_eq_false (by omega)) ⟨rfl, rfl⟩) ?_
    refine ops_val rfl rfl (fun _ hk => e_move hk rfl ⟨rfl, rfl⟩) ?_
    refine ops_run rfl rfl rfl rfl rfl (fun _ hk => e_move hk rfl ⟨rfl, rfl⟩) ?_
    refine ops_run rfl rfl rfl rfl rfl (fun _ hk => e_nilCheck hk rfl ⟨rfl, rfl⟩) ?_
    refine ops_run rfl rfl rfl rfl rfl (fun _ hk => e_fieldAddr hk rfl (fa_189_1 _ _) ⟨rfl, rfl⟩) ?_
    refine ops_run rfl rfl rfl rfl rfl (fun _ hk => e_load1 hk rfl Try.isAgg22 (hT.at_.cell 1 rfl) ⟨rfl, rfl⟩) ?_
    refine ops_run rfl rfl rfl rfl rfl (fun _ hk => e_move hk rfl ⟨rfl, rfl⟩) ?_
    have A2 := hT.lsl.at_ hx1
    have qA2 := hT.lsl.block (by omega)
    have hr_x1 := hR x1 (mem_get hx1)
    have nr_x1 := hS.row hx1
    have nl_x1 : ∀ r ∈ x1.rs, r.ls.length ≤ 1000000000 := fun r hr => (hS _ (List.mem_of_getElem? (lls_get hx1))).2 r hr
    refine ops_run rfl rfl rfl rfl rfl (fun _ hk => e_indexAddr (k := k) hk rfl rfl Try.runUnderlying22 Try.sizeOf27 (hT.lsl.has (by omega)) (by omega) ⟨rfl, rfl⟩) ?_
    refine ops_run rfl rfl rfl rfl rfl (fun _ hk => e_load1 hk rfl Try.isAgg27 (A2.cell 0 rfl) ⟨rfl, rfl⟩) ?_
    refine ops_run rfl rfl rfl rfl rfl (fun _ hk => e_len hk rfl Try.runUnderlying27 hr_x1.sl.len ⟨rfl, rfl⟩) ?_
    refine ops_run rfl rfl rfl rfl rfl (fun _ hk => e_eql hk rfl rfl (decide_eq_false (by rw [he]; simp; omega)) ⟨rfl, rfl⟩) ?_
    refine ops_val rfl rfl (fun _ hk => e_pick_f hk rfl rfl ⟨rfl, rfl⟩) ?_
    refine ops_end rfl ?_
    refine post_seq ?_
    refine J.sub [(0, .pointer (some ⟨t, 0, none⟩)), (1, .int .i64 ((k : Nat) : Int)), (4, .nilIface), (22, .bool false)] ⟨rfl, rfl, rfl, rfl, trivial⟩ ?_
    refine jp_cond_f [true, false, true, true] rfl rfl rfl ?_
    refine jp_skip rfl ?_
    refine post_seq ?_
    refine jp_seq [true, true, false] [true, true, true] rfl rfl rfl ?_
    refine j_region rfl ?_
    refine ops_val rfl rfl (fun _ hk => e_move hk rfl ⟨rfl, rfl⟩) ?_
    refine ops_val rfl rfl (fun _ hk => e_nilCheck hk rfl ⟨rfl, rfl⟩) ?_
    refine ops_val rfl rfl (fun _ hk => e_fieldAddr hk rfl (fa_189_1 _ _) ⟨rfl, rfl⟩) ?_
    refine ops_val rfl rfl (fun _ hk => e_load1 hk rfl Try.isAgg22 (hT.at_.cell 1 rfl) ⟨rfl, rfl⟩) ?_
    refine ops_val rfl rfl (fun _ hk => e_move hk rfl ⟨rfl, rfl⟩) ?_
    have A3 := hT.lsl.at_ hx1
    have qA3 := hT.lsl.block (by omega)
    have hr_x1 := hR x1 (mem_get hx1)
    have nr_x1 := hS.row hx1
    have nl_x1 : ∀ r ∈ x1.rs, r.ls.length ≤ 1000000000 := fun r hr => (hS _ (List.mem_of_getElem? (lls_get hx1))).2 r hr
    refine ops_val rfl rfl (fun _ hk => e_indexAddr (k := k) hk rfl rfl Try.runUnderlying22 Try.sizeOf27 (hT.lsl.has (by omega)) (by omega) ⟨rfl, rfl⟩) ?_
    refine ops_val rfl rfl (fun _ hk => e_load1 hk rfl Try.isAgg27 (A3.cell 0 rfl) ⟨rfl, rfl⟩) ?_
    have A4 := hr_x1.sl.at_ hr
    have qA4 := hr_x1.sl.block (by omega)
    have hl_r := hr_x1.lab r (mem_get hr)
    refine ops_val rfl rfl (fun _ hk => e_indexAddr (k := 0) hk rfl rfl Try.runUnderlying27 Try.sizeOf34 (hr_x1.sl.has (by omega)) (by omega) ⟨rfl, rfl⟩) ?_
    refine ops_val rfl rfl (fun _ hk => e_loadA (cs := [r.lv, .int .i64 (r.v)]) hk rfl Try.isAgg34 Try.sizeOf34 A4 ⟨rfl, rfl⟩) ?_
    refine ops_val rfl rfl (fun _ hk => e_build2 [0] [.tmp 33] (.agg #[r.lv, .int .i64 (r.v)]) hk rfl rfl (fun _ => by kernel_rfl) ⟨rfl, rfl⟩) ?_
    refine ops_val rfl rfl (fun _ hk => e_mkIface hk rfl (fun _ => by kernel_rfl) ⟨rfl, rfl⟩) ?_
    refine ops_val rfl rfl (fun _ hk => e_assign hk rfl ⟨rfl, rfl⟩) ?_
    refine ops_end rfl ?_
    refine post_seq ?_
    refine J.sub [(4, .iface 192 (.agg #[r.lv, .int .i64 (r.v)]))] ⟨rfl, trivial⟩ ?_
    refine jp_ret rfl ?_
    refine post_ret [.iface 192 (.agg #[r.lv, .int .i64 (r.v)])] (.iface 192 (.agg #[r.lv, .int .i64 (r.v)])) Try.results147 ⟨rfl, trivial⟩ rfl ?_
    exact ⟨E0, rfl⟩

set_option maxHeartbeats 2000000 in
set_option maxRecDepth 100000 in
theorem first_spec (base top t : Nat) (o : Int) (lv : Value) (ll : List LR) (wd : Nat) (bv : Value) (bs : List Nat) (lo hi : Nat) (a b : Nat) (w : World) (hT : Tree w base top t o lv ll wd bv bs) (hR : Rws w lo hi ll) (hS : Small 1000000000 (lls ll)) (nl : ll.length ≤ 1000000000) (hH : hi ≤ w.heap.size) :
    Calls Try.prog 146 #[.pointer (some ⟨t, 0, none⟩), .int .i64 ((a : Nat) : Int), .int .i64 ((b : Nat) : Int)] w (Ret fun res w' => Ext w w' ∧ res = .int .i64 ((firstN o (lls ll) a b : Nat) : Int)) := by
  refine calls_of_J Try.func146 rfl (N := 43) rfl rfl ?_
  have E0 : Ext w w := Ext.rfl'
  have htop := hT.top_
  rcases ha : hd (lls ll) a with _ | x <;> rcases hb : hd (lls ll) b with _ | y
  · skip
    refine jp_seq [false] [true] rfl rfl rfl ?_
    refine j_region rfl ?_
    refine ops_val rfl rfl (fun _ hk => e_assign hk rfl ⟨rfl, rfl⟩) ?_
    refine ops_end rfl ?_
    refine post_seq ?_
    refine jp_seq [true, false] [true, true] rfl rfl rfl ?_
    refine j_region rfl ?_
    refine ops_val rfl rfl (fun _ hk => e_move hk rfl ⟨rfl, rfl⟩) ?_
    refine ops_val rfl rfl (fun _ hk => e_move hk rfl ⟨rfl, rfl⟩) ?_
    refine ops_rel _ rfl rfl (fun _ hk => e_call hk rfl Try.call147 (leaf_none _ _ _ _ _ _ _ _ _ _ _ a _ hT hR hS (by omega) (by omega) ha) (fun _ _ h => h)) ?_
    rintro _ w1 ⟨E2, rfl⟩
    have zE2 := E2.size
    replace E0 := E0.trans E2
    replace hT := hT.ext E2
    replace hR := hR.ext E2
    refine ops_val rfl rfl (fun _ hk => e_assert (v := .tuple #[.agg #[.slice none 0 0, .int .i64 0], .bool false]) hk rfl (fun _ => by kernel_rfl) ⟨rfl, rfl⟩) ?_
    refine ops_val rfl rfl (fun _ hk => e_move hk rfl ⟨rfl, rfl⟩) ?_
    refine ops_val rfl rfl (fun _ hk => e_extract hk rfl rfl ⟨rfl, rfl⟩) ?_
    refine ops_val rfl rfl (fun _ hk => e_extract hk rfl rfl ⟨rfl, rfl⟩) ?_
    refine ops_rel (fun r_ w' => ∃ g, r_ = .pointer (some ⟨g, 0, none⟩) ∧ New w1 w' g 192 [.slice none 0 0, .int .i64 0]) rfl rfl (fun _ hk => e_alloc Try.zeroValue192 (fun g w' n => ⟨g, rfl, n⟩)) ?_
    rintro _ w4 ⟨g3, rfl, N5⟩
    have EN5 := N5.ext
    have nN5 := N5.num
    have sN5 := N5.size
    have zEN5 := EN5.size
    replace E0 := E0.trans EN5
    replace hT := hT.ext EN5
    replace hR := hR.ext EN5
    have b6 := N5.box
    have b6a := b6.at_
    refine ops_rel (fun _ w' => Box w' g3 192 [.slice none 0 0, .int .i64 0] ∧ Upd g3 (g3 + 1) w4 w' ∧ w'.heap.size = w4.heap.size) rfl rfl (fun _ hk => e_store hk rfl rfl Try.sizeOf192 b6 (Nat.le_of_ble_eq_true rfl) ⟨rfl, rfl, trivial⟩ (fun w' h1 h2 h3 => ⟨h1, h2, h3⟩)) ?_
    rintro _ w7 ⟨b10, U8, z9⟩
    have zU8 := U8.size
    replace E0 := Ext.then_ E0 U8 (by omega)
    replace hT := hT.upd U8 (by omega)
    replace hR := hR.upd U8 (by omega)
    have b10a := b10.at_
    refine ops_val rfl rfl (fun _ hk => e_assign hk rfl ⟨rfl, rfl⟩) ?_
    refine ops_end rfl ?_
    refine post_seq ?_
    refine J.sub [(0, .pointer (some ⟨t, 0, none⟩)), (1, .int .i64 ((a : Nat) : Int)), (2, .int .i64 ((b : Nat) : Int)), (6, .int .i64 0), (7, .pointer (some ⟨g3, 0, none⟩)), (8, .bool false)] ⟨rfl, rfl, rfl, rfl, rfl, rfl, trivial⟩ ?_
    refine jp_seq [true, true, false] [true, true, true] rfl rfl rfl ?_
    refine j_region rfl ?_
    refine ops_val rfl rfl (fun _ hk => e_move hk rfl ⟨rfl, rfl⟩) ?_
    refine ops_val rfl rfl (fun _ hk => e_move hk rfl ⟨rfl, rfl⟩) ?_
    refine ops_rel _ rfl rfl (fun _ hk => e_call hk rfl Try.call147 (leaf_none _ _ _ _ _ _ _ _ _ _ _ b _ hT hR hS (by omega) (by omega) hb) (fun _ _ h => h)) ?_
    rintro _ w11 ⟨E12, rfl⟩
    have zE12 := E12.size
    replace E0 := E0.trans E12
    replace hT := hT.ext E12
    replace hR := hR.ext E12
    replace b10 := b10.ext E12
    replace b10a := b10a.ext E12
    refine ops_val rfl rfl (fun _ hk => e_assert (v := .tuple #[.agg #[.slice none 0 0, .int .i64 0], .bool false]) hk rfl (fun _ => by kernel_rfl) ⟨rfl, rfl⟩) ?_
    refine ops_val rfl rfl (fun _ hk => e_move hk rfl ⟨rfl, rfl⟩) ?_
    refine ops_val rfl rfl (fun _ hk => e_extract hk rfl rfl ⟨rfl, rfl⟩) ?_
    refine ops_val rfl rfl (fun _ hk => e_extract hk rfl rfl ⟨rfl, rfl⟩) ?_
    refine ops_rel (fun r_ w' => ∃ g, r_ = .pointer (some ⟨g, 0, none⟩) ∧ New w11 w' g 192 [.slice none 0 0, .int .i64 0]) rfl rfl (fun _ hk => e_alloc Try.zeroValue192 (fun g w' n => ⟨g, rfl, n⟩)) ?_
    rintro _ w14 ⟨g13, rfl, N15⟩
    have EN15 := N15.ext
    have nN15 := N15.num
    have sN15 := N15.size
    have zEN15 := EN15.size
    replace E0 := E0.trans EN15
    replace hT := hT.ext EN15
    replace hR := hR.ext EN15
    replace b10 := b10.ext EN15
    replace b10a := b10a.ext EN15
    have b16 := N15.box
    have b16a := b16.at_
    refine ops_rel (fun _ w' => Box w' g13 192 [.slice none 0 0, .int .i64 0] ∧ Upd g13 (g13 + 1) w14 w' ∧ w'.heap.size = w14.heap.size) rfl rfl (fun _ hk => e_store hk rfl rfl Try.sizeOf192 b16 (Nat.le_of_ble_eq_true rfl) ⟨rfl, rfl, trivial⟩ (fun w' h1 h2 h3 => ⟨h1, h2, h3⟩)) ?_
    rintro _ w17 ⟨b20, U18, z19⟩
    have zU18 := U18.size
    replace E0 := Ext.then_ E0 U18 (by omega)
    replace hT := hT.upd U18 (by omega)
    replace hR := hR.upd U18 (by omega)
    replace b10 := b10.upd U18 (by omega)
    replace b10a := b10a.upd U18 (by omega)
    have b20a := b20.at_
    refine ops_val rfl rfl (fun _ hk => e_assign hk rfl ⟨rfl, rfl⟩) ?_
    refine ops_end rfl ?_
    refine post_seq ?_
    refine J.sub [(0, .pointer (some ⟨t, 0, none⟩)), (1, .int .i64 ((a : Nat) : Int)), (2, .int .i64 ((b : Nat) : Int)), (6, .int .i64 0), (7, .pointer (some ⟨g3, 0, none⟩)), (8, .bool false), (9, .pointer (some ⟨g13, 0, none⟩)), (10, .bool false)] ⟨rfl, rfl, rfl, rfl, rfl, rfl, rfl, rfl, trivial⟩ ?_
    refine jp_seq [true, true, true, false] [true, true, true, true] rfl rfl rfl ?_
    refine jp_seq [true, true, true, false, false] [true, true, true, false, true] rfl rfl rfl ?_
    refine J.sub [(0, .pointer (some ⟨t, 0, none⟩)), (1, .int .i64 ((a : Nat) : Int)), (2, .int .i64 ((b : Nat) : Int)), (6, .int .i64 0), (7, .pointer (some ⟨g3, 0, none⟩)), (8, .bool false), (9, .pointer (some ⟨g13, 0, none⟩)), (10, .bool false)] ⟨rfl, rfl, rfl, rfl, rfl, rfl, rfl, rfl, trivial⟩ ?_
    refine wp_draw 16 mixed rfl rfl ?_
    refine dr_val rfl rfl (fun ρ_ w_ E_ hk _ => e_move hk rfl ⟨Ext.rfl', rfl⟩) ?_
    refine dr_val rfl rfl (fun ρ_ w_ E_ hk _ => e_move hk rfl ⟨Ext.rfl', rfl⟩) ?_
    refine dr_skip rfl rfl rfl rfl (fun _ => rfl) ?_
    refine dr_skip rfl rfl rfl rfl (fun _ => rfl) ?_
    refine dr_skip rfl rfl rfl rfl (fun _ => rfl) ?_
    refine dr_skipu rfl rfl rfl rfl (fun _ => rfl) ?_
    refine dr_skipu rfl rfl rfl rfl (fun _ => rfl) ?_
    refine dr_skipu rfl rfl rfl rfl (fun _ => rfl) ?_
    refine dr_skipu rfl rfl rfl rfl (fun _ => rfl) ?_
    refine dr_skipu rfl rfl rfl rfl (fun _ => rfl) ?_
    refine dr_skipu rfl rfl rfl rfl (fun _ => rfl) ?_
    refine dr_skipu rfl rfl rfl rfl (fun _ => rfl) ?_
    refine dr_skipu rfl rfl rfl rfl (fun _ => rfl) ?_
    refine dr_skipu rfl rfl rfl rfl (fun _ => rfl) ?_
    refine dr_skip rfl rfl rfl rfl (fun _ => rfl) ?_
    refine dr_val rfl rfl (fun ρ_ w_ E_ hk _ => e_pick_f hk rfl rfl ⟨Ext.rfl', rfl⟩) ?_
    refine dr_end rfl (fun w21 E22 => ?_)
    have zE22 := E22.size
    replace E0 := E0.trans E22
    replace hT := hT.ext E22
    replace hR := hR.ext E22
    replace b10 := b10.ext E22
    replace b10a := b10a.ext E22
    replace b20 := b20.ext E22
    replace b20a := b20a.ext E22
    refine Ops.sub [(0, .pointer (some ⟨t, 0, none⟩)), (1, .int .i64 ((a : Nat) : Int)), (2, .int .i64 ((b : Nat) : Int)), (6, .int .i64 0), (7, .pointer (some ⟨g3, 0, none⟩)), (8, .bool false), (9, .pointer (some ⟨g13, 0, none⟩)), (10, .bool false), (25, .bool false), (26, .bool false), (27, undef), (28, undef), (29, undef), (30, undef), (31, undef), (32, undef), (33, undef), (34, undef), (35, undef), (36, undef), (37, undef), (38, undef), (39, undef), (40, .bool false)] ⟨rfl, rfl, rfl, rfl, rfl, rfl, rfl, rfl, rfl, rfl, rfl, rfl, rfl, rfl, rfl, rfl, rfl, rfl, rfl, rfl, rfl, rfl, rfl, rfl, trivial⟩ ?_
    refine ops_end rfl ?_
    refine post_seq ?_
    refine J.sub [(1, .int .i64 ((a : Nat) : Int)), (2, .int .i64 ((b : Nat) : Int)), (6, .int .i64 0), (40, .bool false)] ⟨rfl, rfl, rfl, rfl, trivial⟩ ?_
    refine jp_cond_f [true, true, true, false, true, true] rfl rfl rfl ?_
    refine jp_skip rfl ?_
    refine post_seq ?_
    refine jp_seq [true, true, true, true, false] [true, true, true, true, true] rfl rfl rfl ?_
    refine j_region rfl ?_
    refine ops_val rfl rfl (fun _ hk => e_move hk rfl ⟨rfl, rfl⟩) ?_
    refine ops_val rfl rfl (fun _ hk => e_assign hk rfl ⟨rfl, rfl⟩) ?_
    refine ops_end rfl ?_
    refine post_seq ?_
    refine jp_ret rfl ?_
    refine post_ret [.int .i64 ((a : Nat) : Int)] (.int .i64 ((a : Nat) : Int)) Try.results146 ⟨rfl, trivial⟩ rfl ?_
    exact ⟨E0, by simp [firstN, ha, hb]⟩
  · skip
    have hly := hR.lab hb
    have nly := hS.hd hb
    refine jp_seq [false] [true] rfl rfl rfl ?_
    refine j_region rfl ?_
    refine ops_val rfl rfl (fun _ hk => e_assign hk rfl ⟨rfl, rfl⟩) ?_
    refine ops_end rfl ?_
    refine post_seq ?_
    refine jp_seq [true, false] [true, true] rfl rfl rfl ?_
    refine j_region rfl ?_
    refine ops_val rfl rfl (fun _ hk => e_move hk rfl ⟨rfl, rfl⟩) ?_
    refine ops_val rfl rfl (fun _ hk => e_move hk rfl ⟨rfl, rfl⟩) ?_
    refine ops_rel _ rfl rfl (fun _ hk => e_call hk rfl Try.call147 (leaf_none _ _ _ _ _ _ _ _ _ _ _ a _ hT hR hS (by omega) (by omega) ha) (fun _ _ h => h)) ?_
    rintro _ w23 ⟨E24, rfl⟩
    have zE24 := E24.size
    replace E0 := E0.trans E24
    replace hT := hT.ext E24
    replace hR := hR.ext E24
    replace hly := hly.ext E24
    refine ops_val rfl rfl (fun _ hk => e_assert (v := .tuple #[.agg #[.slice none 0 0, .int .i64 0], .bool false]) hk rfl (fun _ => by kernel_rfl) ⟨rfl, rfl⟩) ?_
    refine ops_val rfl rfl (fun _ hk => e_move hk rfl ⟨rfl, rfl⟩) ?_
    refine ops_val rfl rfl (fun _ hk => e_extract hk rfl rfl ⟨rfl, rfl⟩) ?_
    refine ops_val rfl rfl (fun _ hk => e_extract hk rfl rfl ⟨rfl, rfl⟩) ?_
    refine ops_rel (fun r_ w' => ∃ g, r_ = .pointer (some ⟨g, 0, none⟩) ∧ New w23 w' g 192 [.slice none 0 0, .int .i64 0]) rfl rfl (fun _ hk => e_alloc Try.zeroValue192 (fun g w' n => ⟨g, rfl, n⟩)) ?_
    rintro _ w26 ⟨g25, rfl, N27⟩
    have EN27 := N27.ext
    have nN27 := N27.num
    have sN27 := N27.size
    have zEN27 := EN27.size
    replace E0 := E0.trans EN27
    replace hT := hT.ext EN27
    replace hR := hR.ext EN27
    replace hly := hly.ext EN27
    have b28 := N27.box
    have b28a := b28.at_
    refine ops_rel (fun _ w' => Box w' g25 192 [.slice none 0 0, .int .i64 0] ∧ Upd g25 (g25 + 1) w26 w' ∧ w'.heap.size = w26.heap.size) rfl rfl (fun _ hk => e_store hk rfl rfl Try.sizeOf192 b28 (Nat.le_of_ble_eq_true rfl) ⟨rfl, rfl, trivial⟩ (fun w' h1 h2 h3 => ⟨h1, h2, h3⟩)) ?_
    rintro _ w29 ⟨b32, U30, z31⟩
    have zU30 := U30.size
    replace E0 := Ext.then_ E0 U30 (by omega)
    replace hT := hT.upd U30 (by omega)
    replace hR := hR.upd U30 (by omega)
    replace hly := hly.upd U30 (by omega)
    have b32a := b32.at_
    refine ops_val rfl rfl (fun _ hk => e_assign hk rfl ⟨rfl, rfl⟩) ?_
    refine ops_end rfl ?_
    refine post_seq ?_
    refine J.sub [(0, .pointer (some ⟨t, 0, none⟩)), (1, .int .i64 ((a : Nat) : Int)), (2, .int .i64 ((b : Nat) : Int)), (6, .int .i64 0), (7, .pointer (some ⟨g25, 0, none⟩)), (8, .bool false)] ⟨rfl, rfl, rfl, rfl, rfl, rfl, trivial⟩ ?_
    refine jp_seq [true, true, false] [true, true, true] rfl rfl rfl ?_
    refine j_region rfl ?_
    refine ops_val rfl rfl (fun _ hk => e_move hk rfl ⟨rfl, rfl⟩) ?_
    refine ops_val rfl rfl (fun _ hk => e_move hk rfl ⟨rfl, rfl⟩) ?_
    refine ops_rel _ rfl rfl (fun _ hk => e_call hk rfl Try.call147 (leaf_some _ _ _ _ _ _ _ _ _ _ _ b y _ hT hR hS (by omega) (by omega) hb) (fun _ _ h => h)) ?_
    rintro _ w33 ⟨E34, rfl⟩
    have zE34 := E34.size
    replace E0 := E0.trans E34
    replace hT := hT.ext E34
    replace hR := hR.ext E34
    replace hly := hly.ext E34
    replace b32 := b32.ext E34
    replace b32a := b32a.ext E34
    refine ops_val rfl rfl (fun _ hk => e_assert (v := .tuple #[.agg #[y.lv, .int .i64 (y.v)], .bool true]) hk rfl (fun _ => by kernel_rfl) ⟨rfl, rfl⟩) ?_
    refine ops_val rfl rfl (fun _ hk => e_move hk rfl ⟨rfl, rfl⟩) ?_
    refine ops_val rfl rfl (fun _ hk => e_extract hk rfl rfl ⟨rfl, rfl⟩) ?_
    refine ops_val rfl rfl (fun _ hk => e_extract hk rfl rfl ⟨rfl, rfl⟩) ?_
    refine ops_rel (fun r_ w' => ∃ g, r_ = .pointer (some ⟨g, 0, none⟩) ∧ New w33 w' g 192 [.slice none 0 0, .int .i64 0]) rfl rfl (fun _ hk => e_alloc Try.zeroValue192 (fun g w' n => ⟨g, rfl, n⟩)) ?_
    rintro _ w36 ⟨g35, rfl, N37⟩
    have EN37 := N37.ext
    have nN37 := N37.num
    have sN37 := N37.size
    have zEN37 := EN37.size
    replace E0 := E0.trans EN37
    replace hT := hT.ext EN37
    replace hR := hR.ext EN37
    replace hly := hly.ext EN37
    replace b32 := b32.ext EN37
    replace b32a := b32a.ext EN37
    have b38 := N37.box
    have b38a := b38.at_
    refine ops_rel (fun _ w' => Box w' g35 192 [y.lv, .int .i64 (y.v)] ∧ Upd g35 (g35 + 1) w36 w' ∧ w'.heap.size = w36.heap.size) rfl rfl (fun _ hk => e_store hk rfl rfl Try.sizeOf192 b38 (Nat.le_of_ble_eq_true rfl) ⟨hly.one, rfl, trivial⟩ (fun w' h1 h2 h3 => ⟨h1, h2, h3⟩)) ?_
    rintro _ w39 ⟨b42, U40, z41⟩
    have zU40 := U40.size
    replace E0 := Ext.then_ E0 U40 (by omega)
    replace hT := hT.upd U40 (by omega)
    replace hR := hR.upd U40 (by omega)
    replace hly := hly.upd U40 (by omega)
    replace b32 := b32.upd U40 (by omega)
    replace b32a := b32a.upd U40 (by omega)
    have b42a := b42.at_
    refine ops_val rfl rfl (fun _ hk => e_assign hk rfl ⟨rfl, rfl⟩) ?_
    refine ops_end rfl ?_
    refine post_seq ?_
    refine J.sub [(0, .pointer (some ⟨t, 0, none⟩)), (1, .int .i64 ((a : Nat) : Int)), (2, .int .i64 ((b : Nat) : Int)), (6, .int .i64 0), (7, .pointer (some ⟨g25, 0, none⟩)), (8, .bool false), (9, .pointer (some ⟨g35, 0, none⟩)), (10, .bool true)] ⟨rfl, rfl, rfl, rfl, rfl, rfl, rfl, rfl, trivial⟩ ?_
    refine jp_seq [true, true, true, false] [true, true, true, true] rfl rfl rfl ?_
    refine jp_seq [true, true, true, false, false] [true, true, true, false, true] rfl rfl rfl ?_
    refine J.sub [(0, .pointer (some ⟨t, 0, none⟩)), (1, .int .i64 ((a : Nat) : Int)), (2, .int .i64 ((b : Nat) : Int)), (6, .int .i64 0), (7, .pointer (some ⟨g25, 0, none⟩)), (8, .bool false), (9, .pointer (some ⟨g35, 0, none⟩)), (10, .bool true)] ⟨rfl, rfl, rfl, rfl, rfl, rfl, rfl, rfl, trivial⟩ ?_
    refine wp_draw 16 mixed rfl rfl ?_
    refine dr_val rfl rfl (fun ρ_ w_ E_ hk _ => e_move hk rfl ⟨Ext.rfl', rfl⟩) ?_
    refine dr_val rfl rfl (fun ρ_ w_ E_ hk _ => e_move hk rfl ⟨Ext.rfl', rfl⟩) ?_
    refine dr_run rfl rfl rfl rfl (fun _ => rfl) (fun ρ_ w_ E_ hk _ => e_move hk rfl ⟨Ext.rfl', rfl⟩) ?_
    refine dr_run rfl rfl rfl rfl (fun _ => rfl) (fun ρ_ w_ E_ hk _ => e_not hk rfl ⟨Ext.rfl', rfl⟩) ?_
    refine dr_run rfl rfl rfl rfl (fun _ => rfl) (fun ρ_ w_ E_ hk _ => e_move hk rfl ⟨Ext.rfl', rfl⟩) ?_
    refine dr_skip rfl rfl rfl rfl (fun _ => rfl) ?_
    refine dr_skip rfl rfl rfl rfl (fun _ => rfl) ?_
    refine dr_skip rfl rfl rfl rfl (fun _ => rfl) ?_
    refine dr_skip rfl rfl rfl rfl (fun _ => rfl) ?_
    refine dr_skip rfl rfl rfl rfl (fun _ => rfl) ?_
    refine dr_skip rfl rfl rfl rfl (fun _ => rfl) ?_
    refine dr_skip rfl rfl rfl rfl (fun _ => rfl) ?_
    refine dr_skip rfl rfl rfl rfl (fun _ => rfl) ?_
    refine dr_skip rfl rfl rfl rfl (fun _ => rfl) ?_
    refine dr_run rfl rfl rfl rfl (fun _ => rfl) (fun ρ_ w_ E_ hk _ => e_pick_t hk rfl rfl ⟨Ext.rfl', rfl⟩) ?_
    refine dr_val rfl rfl (fun ρ_ w_ E_ hk _ => e_pick_t hk rfl rfl ⟨Ext.rfl', rfl⟩) ?_
    refine dr_end rfl (fun w43 E44 => ?_)
    have zE44 := E44.size
    replace E0 := E0.trans E44
    replace hT := hT.ext E44
    replace hR := hR.ext E44
    replace hly := hly.ext E44
    replace b32 := b32.ext E44
    replace b32a := b32a.ext E44
    replace b42 := b42.ext E44
    replace b42a := b42a.ext E44
    refine Ops.sub [(0, .pointer (some ⟨t, 0, none⟩)), (1, .int .i64 ((a : Nat) : Int)), (2, .int .i64 ((b : Nat) : Int)), (6, .int .i64 0), (7, .pointer (some ⟨g25, 0, none⟩)), (8, .bool false), (9, .pointer (some ⟨g35, 0, none⟩)), (10, .bool true), (25, .bool true), (26, .bool true), (27, .bool false), (28, .bool true), (29, .bool true), (30, undef), (31, undef), (32, undef), (33, undef), (34, undef), (35, undef), (36, undef), (37, undef), (38, undef), (39, .bool true), (40, .bool true)] ⟨rfl, rfl, rfl, rfl, rfl, rfl, rfl, rfl, rfl, rfl, rfl, rfl, rfl, rfl, rfl, rfl, rfl, rfl, rfl, rfl, rfl, rfl, rfl, rfl, trivial⟩ ?_
    refine ops_end rfl ?_
    refine post_seq ?_
    refine J.sub [(1, .int .i64 ((a : Nat) : Int)), (2, .int .i64 ((b : Nat) : Int)), (6, .int .i64 0), (40, .bool true)] ⟨rfl, rfl, rfl, rfl, trivial⟩ ?_
    refine jp_cond_t [true, true, true, false, true, false] rfl rfl rfl ?_
    refine jp_seq [true, true, true, false, true, false, false] [true, true, true, false, true, false, true] rfl rfl rfl ?_
    refine j_region rfl ?_
    refine ops_val rfl rfl (fun _ hk => e_move hk rfl ⟨rfl, rfl⟩) ?_
    refine ops_val rfl rfl (fun _ hk => e_assign hk rfl ⟨rfl, rfl⟩) ?_
    refine ops_end rfl ?_
    refine post_seq ?_
    refine jp_ret rfl ?_
    refine post_seq_ret ?_
    refine post_ret [.int .i64 ((b : Nat) : Int)] (.int .i64 ((b : Nat) : Int)) Try.results146 ⟨rfl, trivial⟩ rfl ?_
    exact ⟨E0, by simp [firstN, ha, hb]⟩
  · skip
    have hlx := hR.lab ha
    have nlx := hS.hd ha
    refine jp_seq [false] [true] rfl rfl rfl ?_
    refine j_region rfl ?_
    refine ops_val rfl rfl (fun _ hk => e_assign hk rfl ⟨rfl, rfl⟩) ?_
    refine ops_end rfl ?_
    refine post_seq ?_
    refine jp_seq [true, false] [true, true] rfl rfl rfl ?_
    refine j_region rfl ?_
    refine ops_val rfl rfl (fun _ hk => e_move hk rfl ⟨rfl, rfl⟩) ?_
    refine ops_val rfl rfl (fun _ hk => e_move hk rfl ⟨rfl, rfl⟩) ?_
    refine ops_rel _ rfl rfl (fun _ hk => e_call hk rfl Try.call147 (leaf_some _ _ _ _ _ _ _ _ _ _ _ a x _ hT hR hS (by omega) (by omega) ha) (fun _ _ h => h)) ?_
    rintro _ w45 ⟨E46, rfl⟩
    have zE46 := E46.size
    replace E0 := E0.trans E46
    replace hT := hT.ext E46
    replace hR := hR.ext E46
    replace hlx := hlx.ext E46
    refine ops_val rfl rfl (fun _ hk => e_assert (v := .tuple #[.agg #[x.lv, .int .i64 (x.v)], .bool true]) hk rfl (fun _ => by kernel_rfl) ⟨rfl, rfl⟩) ?_
    refine ops_val rfl rfl (fun _ hk => e_move hk rfl ⟨rfl, rfl⟩) ?_
    refine ops_val rfl rfl (fun _ hk => e_extract hk rfl rfl ⟨rfl, rfl⟩) ?_
    refine ops_val rfl rfl (fun _ hk => e_extract hk rfl rfl ⟨rfl, rfl⟩) ?_
    refine ops_rel (fun r_ w' => ∃ g, r_ = .pointer (some ⟨g, 0, none⟩) ∧ New w45 w' g 192 [.slice none 0 0, .int .i64 0]) rfl rfl (fun _ hk => e_alloc Try.zeroValue192 (fun g w' n => ⟨g, rfl, n⟩)) ?_
    rintro _ w48 ⟨g47, rfl, N49⟩
    have EN49 := N49.ext
    have nN49 := N49.num
    have sN49 := N49.size
    have zEN49 := EN49.size
    replace E0 := E0.trans EN49
    replace hT := hT.ext EN49
    replace hR := hR.ext EN49
    replace hlx := hlx.ext EN49
    have b50 := N49.box
    have b50a := b50.at_
    refine ops_rel (fun _ w' => Box w' g47 192 [x.lv, .int .i64 (x.v)] ∧ Upd g47 (g47 + 1) w48 w' ∧ w'.heap.size = w48.heap.size) rfl rfl (fun _ hk => e_store hk rfl rfl Try.sizeOf192 b50 (Nat.le_of_ble_eq_true rfl) ⟨hlx.one, rfl, trivial⟩ (fun w' h1 h2 h3 => ⟨h1, h2, h3⟩)) ?_
    rintro _ w51 ⟨b54, U52, z53⟩
    have zU52 := U52.size
    replace E0 := Ext.then_ E0 U52 (by omega)
    replace hT := hT.upd U52 (by omega)
    replace hR := hR.upd U52 (by omega)
    replace hlx := hlx.upd U52 (by omega)
    have b54a := b54.at_
    refine ops_val rfl rfl (fun _ hk => e_assign hk rfl ⟨rfl, rfl⟩) ?_
    refine ops_end rfl ?_
    refine post_seq ?_
    refine J.sub [(0, .pointer (some ⟨t, 0, none⟩)), (1, .int .i64 ((a : Nat) : Int)), (2, .int .i64 ((b : Nat) : Int)), (6, .int .i64 0), (7, .pointer (some ⟨g47, 0, none⟩)), (8, .bool true)] ⟨rfl, rfl, rfl, rfl, rfl, rfl, trivial⟩ ?_
    refine jp_seq [true, true, false] [true, true, true] rfl rfl rfl ?_
    refine j_region rfl ?_
    refine ops_val rfl rfl (fun _ hk => e_move hk rfl ⟨rfl, rfl⟩) ?_
    refine ops_val rfl rfl (fun _ hk => e_move hk rfl ⟨rfl, rfl⟩) ?_
    refine ops_rel _ rfl rfl (fun _ hk => e_call hk rfl Try.call147 (leaf_none _ _ _ _ _ _ _ _ _ _ _ b _ hT hR hS (by omega) (by omega) hb) (fun _ _ h => h)) ?_
    rintro _ w55 ⟨E56, rfl⟩
    have zE56 := E56.size
    replace E0 := E0.trans E56
    replace hT := hT.ext E56
    replace hR := hR.ext E56
    replace hlx := hlx.ext E56
    replace b54 := b54.ext E56
    replace b54a := b54a.ext E56
    refine ops_val rfl rfl (fun _ hk => e_assert (v := .tuple #[.agg #[.slice none 0 0, .int .i64 0], .bool false]) hk rfl (fun _ => by kernel_rfl) ⟨rfl, rfl⟩) ?_
    refine ops_val rfl rfl (fun _ hk => e_move hk rfl ⟨rfl, rfl⟩) ?_
    refine ops_val rfl rfl (fun _ hk => e_extract hk rfl rfl ⟨rfl, rfl⟩) ?_
    refine ops_val rfl rfl (fun _ hk => e_extract hk rfl rfl ⟨rfl, rfl⟩) ?_
    refine ops_rel (fun r_ w' => ∃ g, r_ = .pointer (some ⟨g, 0, none⟩) ∧ New w55 w' g 192 [.slice none 0 0, .int .i64 0]) rfl rfl (fun _ hk => e_alloc Try.zeroValue192 (fun g w' n => ⟨g, rfl, n⟩)) ?_
    rintro _ w58 ⟨g57, rfl, N59⟩
    have EN59 := N59.ext
    have nN59 := N59.num
    have sN59 := N59.size
    have zEN59 := EN59.size
    replace E0 := E0.trans EN59
    replace hT := hT.ext EN59
    replace hR := hR.ext EN59
    replace hlx := hlx.ext EN59
    replace b54 := b54.ext EN59
    replace b54a := b54a.ext EN59
    have b60 := N59.box
    have b60a := b60.at_
    refine ops_rel (fun _ w' => Box w' g57 192 [.slice none 0 0, .int .i64 0] ∧ Upd g57 (g57 + 1) w58 w' ∧ w'.heap.size = w58.heap.size) rfl rfl (fun _ hk => e_store hk rfl rfl Try.sizeOf192 b60 (Nat.le_of_ble_eq_true rfl) ⟨rfl, rfl, trivial⟩ (fun w' h1 h2 h3 => ⟨h1, h2, h3⟩)) ?_
    rintro _ w61 ⟨b64, U62, z63⟩
    have zU62 := U62.size
    replace E0 := Ext.then_ E0 U62 (by omega)
    replace hT := hT.upd U62 (by omega)
    replace hR := hR.upd U62 (by omega)
    replace hlx := hlx.upd U62 (by omega)
    replace b54 := b54.upd U62 (by omega)
    replace b54a := b54a.upd U62 (by omega)
    have b64a := b64.at_
    refine ops_val rfl rfl (fun _ hk => e_assign hk rfl ⟨rfl, rfl⟩) ?_
    refine ops_end rfl ?_
    refine post_seq ?_
    refine J.sub [(0, .pointer (some ⟨t, 0, none⟩)), (1, .int .i64 ((a : Nat) : Int)), (2, .int .i64 ((b : Nat) : Int)), (6, .int .i64 0), (7, .pointer (some ⟨g47, 0, none⟩)), (8, .bool true), (9, .pointer (some ⟨g57, 0, none⟩)), (10, .bool false)] ⟨rfl, rfl, rfl, rfl, rfl, rfl, rfl, rfl, trivial⟩ ?_
    refine jp_seq [true, true, true, false] [true, true, true, true] rfl rfl rfl ?_
    refine jp_seq [true, true, true, false, false] [true, true, true, false, true] rfl rfl rfl ?_
    refine J.sub [(0, .pointer (some ⟨t, 0, none⟩)), (1, .int .i64 ((a : Nat) : Int)), (2, .int .i64 ((b : Nat) : Int)), (6, .int .i64 0), (7, .pointer (some ⟨g47, 0, none⟩)), (8, .bool true), (9, .pointer (some ⟨g57, 0, none⟩)), (10, .bool false)] ⟨rfl, rfl, rfl, rfl, rfl, rfl, rfl, rfl, trivial⟩ ?_
    refine wp_draw 16 mixed rfl rfl ?_
    refine dr_val rfl rfl (fun ρ_ w_ E_ hk _ => e_move hk rfl ⟨Ext.rfl', rfl⟩) ?_
    refine dr_val rfl rfl (fun ρ_ w_ E_ hk _ => e_move hk rfl ⟨Ext.rfl', rfl⟩) ?_
    refine dr_skip rfl rfl rfl rfl (fun _ => rfl) ?_
    refine dr_skip rfl rfl rfl rfl (fun _ => rfl) ?_
    refine dr_skip rfl rfl rfl rfl (fun _ => rfl) ?_
    refine dr_skipu rfl rfl rfl rfl (fun _ => rfl) ?_
    refine dr_skipu rfl rfl rfl rfl (fun _ => rfl) ?_
    refine dr_skipu rfl rfl rfl rfl (fun _ => rfl) ?_
    refine dr_skipu rfl rfl rfl rfl (fun _ => rfl) ?_
    refine dr_skipu rfl rfl rfl rfl (fun _ => rfl) ?_
    refine dr_skipu rfl rfl rfl rfl (fun _ => rfl) ?_
    refine dr_skipu rfl rfl rfl rfl (fun _ => rfl) ?_
    refine dr_skipu rfl rfl rfl rfl (fun _ => rfl) ?_
    refine dr_skipu rfl rfl rfl rfl (fun _ => rfl) ?_
    refine dr_skip rfl rfl rfl rfl (fun _ => rfl) ?_
    refine dr_val rfl rfl (fun ρ_ w_ E_ hk _ => e_pick_f hk rfl rfl ⟨Ext.rfl', rfl⟩) ?_
    refine dr_end rfl (fun w65 E66 => ?_)
    have zE66 := E66.size
    replace E0 := E0.trans E66
    replace hT := hT.ext E66
    replace hR := hR.ext E66
    replace hlx := hlx.ext E66
    replace b54 := b54.ext E66
    replace b54a := b54a.ext E66
    replace b64 := b64.ext E66
    replace b64a := b64a.ext E66
    refine Ops.sub [(0, .pointer (some ⟨t, 0, none⟩)), (1, .int .i64 ((a : Nat) : Int)), (2, .int .i64 ((b : Nat) : Int)), (6, .int .i64 0), (7, .pointer (some ⟨g47, 0, none⟩)), (8, .bool true), (9, .pointer (some ⟨g57, 0, none⟩)), (10, .bool false), (25, .bool false), (26, .bool false), (27, undef), (28, undef), (29, undef), (30, undef), (31, undef), (32, undef), (33, undef), (34, undef), (35, undef), (36, undef), (37, undef), (38, undef), (39, undef), (40, .bool false)] ⟨rfl, rfl, rfl, rfl, rfl, rfl, rfl, rfl, rfl, rfl, rfl, rfl, rfl, rfl, rfl, rfl, rfl, rfl, rfl, rfl, rfl, rfl, rfl, rfl, trivial⟩ ?_
    refine ops_end rfl ?_
    refine post_seq ?_
    refine J.sub [(1, .int .i64 ((a : Nat) : Int)), (2, .int .i64 ((b : Nat) : Int)), (6, .int .i64 0), (40, .bool false)] ⟨rfl, rfl, rfl, rfl, trivial⟩ ?_
    refine jp_cond_f [true, true, true, false, true, true] rfl rfl rfl ?_
    refine jp_skip rfl ?_
    refine post_seq ?_
    refine jp_seq [true, true, true, true, false] [true, true, true, true, true] rfl rfl rfl ?_
    refine j_region rfl ?_
    refine ops_val rfl rfl (fun _ hk => e_move hk rfl ⟨rfl, rfl⟩) ?_
    refine ops_val rfl rfl (fun _ hk => e_assign hk rfl ⟨rfl, rfl⟩) ?_
    refine ops_end rfl ?_
    refine post_seq ?_
    refine jp_ret rfl ?_
    refine post_ret [.int .i64 ((a : Nat) : Int)] (.int .i64 ((a : Nat) : Int)) Try.results146 ⟨rfl, trivial⟩ rfl ?_
    exact ⟨E0, by simp [firstN, ha, hb]⟩
  · skip
    have hlx := hR.lab ha
    have nlx := hS.hd ha
    have hly := hR.lab hb
    have nly := hS.hd hb
    refine jp_seq [false] [true] rfl rfl rfl ?_
    refine j_region rfl ?_
    refine ops_val rfl rfl (fun _ hk => e_assign hk rfl ⟨rfl, rfl⟩) ?_
    refine ops_end rfl ?_
    refine post_seq ?_
    refine jp_seq [true, false] [true, true] rfl rfl rfl ?_
    refine j_region rfl ?_
    refine ops_val rfl rfl (fun _ hk => e_move hk rfl ⟨rfl, rfl⟩) ?_
    refine ops_val rfl rfl (fun _ hk => e_move hk rfl ⟨rfl, rfl⟩) ?_
    refine ops_rel _ rfl rfl (fun _ hk => e_call hk rfl Try.call147 (leaf_some _ _ _ _ _ _ _ _ _ _ _ a x _ hT hR hS (by omega) (by omega) ha) (fun _ _ h => h)) ?_
    rintro _ w67 ⟨E68, rfl⟩
    have zE68 := E68.size
    replace E0 := E0.trans E68
    replace hT := hT.ext E68
    replace hR := hR.ext E68
    replace hlx := hlx.ext E68
    replace hly := hly.ext E68
    refine ops_val rfl rfl (fun _ hk => e_assert (v := .tuple #[.agg #[x.lv, .int .i64 (x.v)], .bool true]) hk rfl (fun _ => by kernel_rfl) ⟨rfl, rfl⟩) ?_
    refine ops_val rfl rfl (fun _ hk => e_move hk rfl ⟨rfl, rfl⟩) ?_
    refine ops_val rfl rfl (fun _ hk => e_extract hk rfl rfl ⟨rfl, rfl⟩) ?_
    refine ops_val rfl rfl (fun _ hk => e_extract hk rfl rfl ⟨rfl, rfl⟩) ?_
    refine ops_rel (fun r_ w' => ∃ g, r_ = .pointer (some ⟨g, 0, none⟩) ∧ New w67 w' g 192 [.slice none 0 0, .int .i64 0]) rfl rfl (fun _ hk => e_alloc Try.zeroValue192 (fun g w' n => ⟨g, rfl, n⟩)) ?_
    rintro _ w70 ⟨g69, rfl, N71⟩
    have EN71 := N71.ext
    have nN71 := N71.num
    have sN71 := N71.size
    have zEN71 := EN71.size
    replace E0 := E0.trans EN71
    replace hT := hT.ext EN71
    replace hR := hR.ext EN71
    replace hlx := hlx.ext EN71
    replace hly := hly.ext EN71
    have b72 := N71.box
    have b72a := b72.at_
    refine ops_rel (fun _ w' => Box w' g69 192 [x.lv, .int .i64 (x.v)] ∧ Upd g69 (g69 + 1) w70 w' ∧ w'.heap.size = w70.heap.size) rfl rfl (fun _ hk => e_store hk rfl rfl Try.sizeOf192 b72 (Nat.le_of_ble_eq_true rfl) ⟨hlx.one, rfl, trivial⟩ (fun w' h1 h2 h3 => ⟨h1, h2, h3⟩)) ?_
    rintro _ w73 ⟨b76, U74, z75⟩
    have zU74 := U74.size
    replace E0 := Ext.then_ E0 U74 (by omega)
    replace hT := hT.upd U74 (by omega)
    replace hR := hR.upd U74 (by omega)
    replace hlx := hlx.upd U74 (by omega)
    replace hly := hly.upd U74 (by omega)
    have b76a := b76.at_
    refine ops_val rfl rfl (fun _ hk => e_assign hk rfl ⟨rfl, rfl⟩) ?_
    refine ops_end rfl ?_
    refine post_seq ?_
    refine J.sub [(0, .pointer (some ⟨t, 0, none⟩)), (1, .int .i64 ((a : Nat) : Int)), (2, .int .i64 ((b : Nat) : Int)), (6, .int .i64 0), (7, .pointer (some ⟨g69, 0, none⟩)), (8, .bool true)] ⟨rfl, rfl, rfl, rfl, rfl, rfl, trivial⟩ ?_
    refine jp_seq [true, true, false] [true, true, true] rfl rfl rfl ?_
    refine j_region rfl ?_
    refine ops_val rfl rfl (fun _ hk => e_move hk rfl ⟨rfl, rfl⟩) ?_
    refine ops_val rfl rfl (fun _ hk => e_move hk rfl ⟨rfl, rfl⟩) ?_
    refine ops_rel _ rfl rfl (fun _ hk => e_call hk rfl Try.call147 (leaf_some _ _ _ _ _ _ _ _ _ _ _ b y _ hT hR hS (by omega) (by omega) hb) (fun _ _ h => h)) ?_
    rintro _ w77 ⟨E78, rfl⟩
    have zE78 := E78.size
    replace E0 := E0.trans E78
    replace hT := hT.ext E78
    replace hR := hR.ext E78
    replace hlx := hlx.ext E78
    replace hly := hly.ext E78
    replace b76 := b76.ext E78
    replace b76a := b76a.ext E78
    refine ops_val rfl rfl (fun _ hk => e_assert (v := .tuple #[.agg #[y.lv, .int .i64 (y.v)], .bool true]) hk rfl (fun _ => by kernel_rfl) ⟨rfl, rfl⟩) ?_
    refine ops_val rfl rfl (fun _ hk => e_move hk rfl ⟨rfl, rfl⟩) ?_
    refine ops_val rfl rfl (fun _ hk => e_extract hk rfl rfl ⟨rfl, rfl⟩) ?_
    refine ops_val rfl rfl (fun _ hk => e_extract hk rfl rfl ⟨rfl, rfl⟩) ?_
    refine ops_rel (fun r_ w' => ∃ g, r_ = .pointer (some ⟨g, 0, none⟩) ∧ New w77 w' g 192 [.slice none 0 0, .int .i64 0]) rfl rfl (fun _ hk => e_alloc Try.zeroValue192 (fun g w' n => ⟨g, rfl, n⟩)) ?_
    rintro _ w80 ⟨g79, rfl, N81⟩
    have EN81 := N81.ext
    have nN81 := N81.num
    have sN81 := N81.size
    have zEN81 := EN81.size
    replace E0 := E0.trans EN81
    replace hT := hT.ext EN81
    replace hR := hR.ext EN81
    replace hlx := hlx.ext EN81
    replace hly := hly.ext EN81
    replace b76 := b76.ext EN81
    replace b76a := b76a.ext EN81
    have b82 := N81.box
    have b82a := b82.at_
    refine ops_rel (fun _ w' => Box w' g79 192 [y.lv, .int .i64 (y.v)] ∧ Upd g79 (g79 + 1) w80 w' ∧ w'.heap.size = w80.heap.size) rfl rfl (fun _ hk => e_store hk rfl rfl Try.sizeOf192 b82 (Nat.le_of_ble_eq_true rfl) ⟨hly.one, rfl, trivial⟩ (fun w' h1 h2 h3 => ⟨h1, h2, h3⟩)) ?_
    rintro _ w83 ⟨b86, U84, z85⟩
    have zU84 := U84.size
    replace E0 := Ext.then_ E0 U84 (by omega)
    replace hT := hT.upd U84 (by omega)
    replace hR := hR.upd U84 (by omega)
    replace hlx := hlx.upd U84 (by omega)
    replace hly := hly.upd U84 (by omega)
    replace b76 := b76.upd U84 (by omega)
    replace b76a := b76a.upd U84 (by omega)
    have b86a := b86.at_
    refine ops_val rfl rfl (fun _ hk => e_assign hk rfl ⟨rfl, rfl⟩) ?_
    refine ops_end rfl ?_
    refine post_seq ?_
    refine J.sub [(0, .pointer (some ⟨t, 0, none⟩)), (1, .int .i64 ((a : Nat) : Int)), (2, .int .i64 ((b : Nat) : Int)), (6, .int .i64 0), (7, .pointer (some ⟨g69, 0, none⟩)), (8, .bool true), (9, .pointer (some ⟨g79, 0, none⟩)), (10, .bool true)] ⟨rfl, rfl, rfl, rfl, rfl, rfl, rfl, rfl, trivial⟩ ?_
    refine jp_seq [true, true, true, false] [true, true, true, true] rfl rfl rfl ?_
    refine jp_seq [true, true, true, false, false] [true, true, true, false, true] rfl rfl rfl ?_
    refine J.sub [(0, .pointer (some ⟨t, 0, none⟩)), (1, .int .i64 ((a : Nat) : Int)), (2, .int .i64 ((b : Nat) : Int)), (6, .int .i64 0), (7, .pointer (some ⟨g69, 0, none⟩)), (8, .bool true), (9, .pointer (some ⟨g79, 0, none⟩)), (10, .bool true)] ⟨rfl, rfl, rfl, rfl, rfl, rfl, rfl, rfl, trivial⟩ ?_
    refine j_sum 40 (less o y x) (fun _ hQ89 => ?_) (fun w87 E88 => ?_)
    · skip
      refine J.sub [(0, .pointer (some ⟨t, 0, none⟩)), (1, .int .i64 ((a : Nat) : Int)), (2, .int .i64 ((b : Nat) : Int)), (6, .int .i64 0), (7, .pointer (some ⟨g69, 0, none⟩)), (8, .bool true), (9, .pointer (some ⟨g79, 0, none⟩)), (10, .bool true)] ⟨rfl, rfl, rfl, rfl, rfl, rfl, rfl, rfl, trivial⟩ ?_
      refine wp_draw 16 mixed rfl rfl ?_
      refine dr_val rfl rfl (fun ρ_ w_ E_ hk _ => e_move hk rfl ⟨Ext.rfl', rfl⟩) ?_
      refine dr_val rfl rfl (fun ρ_ w_ E_ hk _ => e_move hk rfl ⟨Ext.rfl', rfl⟩) ?_
      refine dr_run rfl rfl rfl rfl (fun _ => rfl) (fun ρ_ w_ E_ hk _ => e_move hk rfl ⟨Ext.rfl', rfl⟩) ?_
      refine dr_run rfl rfl rfl rfl (fun _ => rfl) (fun ρ_ w_ E_ hk _ => e_not hk rfl ⟨Ext.rfl', rfl⟩) ?_
      refine dr_run rfl rfl rfl rfl (fun _ => rfl) (fun ρ_ w_ E_ hk _ => e_move hk rfl ⟨Ext.rfl', rfl⟩) ?_
      refine dr_run rfl rfl rfl rfl (fun _ => rfl) (fun ρ_ w_ E_ hk _ => e_move hk rfl ⟨Ext.rfl', rfl⟩) ?_
      refine dr_run rfl rfl rfl rfl (fun _ => rfl) (fun ρ_ w_ E_ hk _ => e_nilCheck hk rfl ⟨Ext.rfl', rfl⟩) ?_
      refine dr_run rfl rfl rfl rfl (fun _ => rfl) (fun ρ_ w_ E_ hk _ => e_fieldAddr hk rfl (fa_189_0 _ _) ⟨Ext.rfl', rfl⟩) ?_
      refine dr_run rfl rfl rfl rfl (fun _ => rfl) (fun ρ_ w_ E_ hk _ => e_load1 hk rfl Try.isAgg3 ((hT.ext E_).at_.cell 0 rfl) ⟨Ext.rfl', rfl⟩) ?_
      refine dr_run rfl rfl rfl rfl (fun _ => rfl) (fun ρ_ w_ E_ hk _ => e_fieldAddr hk rfl (fa_192_0 _ _) ⟨Ext.rfl', rfl⟩) ?_
      refine dr_run rfl rfl rfl rfl (fun _ => rfl) (fun ρ_ w_ E_ hk _ => e_loadA (cs := [y.lv, .int .i64 (y.v)]) hk rfl Try.isAgg34 Try.sizeOf34 (b86a.ext E_) ⟨Ext.rfl', rfl⟩) ?_
      refine dr_run rfl rfl rfl rfl (fun _ => rfl) (fun ρ_ w_ E_ hk _ => e_fieldAddr hk rfl (fa_192_0 _ _) ⟨Ext.rfl', rfl⟩) ?_
      refine dr_run rfl rfl rfl rfl (fun _ => rfl) (fun ρ_ w_ E_ hk _ => e_loadA (cs := [x.lv, .int .i64 (x.v)]) hk rfl Try.isAgg34 Try.sizeOf34 (b76a.ext E_) ⟨Ext.rfl', rfl⟩) ?_
      refine dr_run rfl rfl rfl rfl (fun _ => rfl) (fun ρ_ w_ E_ hk _ => e_call hk rfl Try.call49 (Less_spec o y x _ _ _ _ _ (hly.ext E_) (hlx.ext E_) (by first | omega | exact Nat.zero_le _) (by first | omega | exact Nat.zero_le _)) (fun _ _ h => h)) ?_
      refine dr_run rfl rfl rfl rfl (fun _ => rfl) (fun ρ_ w_ E_ hk _ => e_pick_f hk rfl rfl ⟨Ext.rfl', rfl⟩) ?_
      refine dr_val rfl rfl (fun ρ_ w_ E_ hk _ => e_pick_t hk rfl rfl ⟨Ext.rfl', rfl⟩) ?_
      refine dr_end rfl (fun w90 E91 => ?_)
      have zE91 := E91.size
      replace E0 := E0.trans E91
      replace hT := hT.ext E91
      replace hR := hR.ext E91
      replace hlx := hlx.ext E91
      replace hly := hly.ext E91
      replace b76 := b76.ext E91
      replace b76a := b76a.ext E91
      replace b86 := b86.ext E91
      replace b86a := b86a.ext E91
      refine Ops.sub [(0, .pointer (some ⟨t, 0, none⟩)), (1, .int .i64 ((a : Nat) : Int)), (2, .int .i64 ((b : Nat) : Int)), (6, .int .i64 0), (7, .pointer (some ⟨g69, 0, none⟩)), (8, .bool true), (9, .pointer (some ⟨g79, 0, none⟩)), (10, .bool true), (25, .bool true), (26, .bool true), (27, .bool true), (28, .bool false), (29, .bool false), (30, .pointer (some ⟨t, 0, none⟩)), (31, .pointer (some ⟨t, 0, none⟩)), (32, .pointer (some ⟨t, 0, none⟩)), (33, .int .i64 o), (34, .pointer (some ⟨g79, 0, none⟩)), (35, .agg #[y.lv, .int .i64 (y.v)]), (36, .pointer (some ⟨g69, 0, none⟩)), (37, .agg #[x.lv, .int .i64 (x.v)]), (38, .bool (less o y x)), (39, .bool (less o y x)), (40, .bool (less o y x))] ⟨rfl, rfl, rfl, rfl, rfl, rfl, rfl, rfl, rfl, rfl, rfl, rfl, rfl, rfl, rfl, rfl, rfl, rfl, rfl, rfl, rfl, rfl, rfl, rfl, trivial⟩ ?_
      refine ops_end rfl ?_
      exact Post.sub ((40, .bool (less o y x)) :: [(0, .pointer (some ⟨t, 0, none⟩)), (1, .int .i64 ((a : Nat) : Int)), (2, .int .i64 ((b : Nat) : Int)), (6, .int .i64 0), (7, .pointer (some ⟨g69, 0, none⟩)), (8, .bool true), (9, .pointer (some ⟨g79, 0, none⟩)), (10, .bool true)]) ⟨(congrArg (fun b => some (Value.bool b)) (by simp [])), rfl, rfl, rfl, rfl, rfl, rfl, rfl, rfl, trivial⟩ (hQ89 _ E91)
    · skip
      have zE88 := E88.size
      replace E0 := E0.trans E88
      replace hT := hT.ext E88
      replace hR := hR.ext E88
      replace hlx := hlx.ext E88
      replace hly := hly.ext E88
      replace b76 := b76.ext E88
      replace b76a := b76a.ext E88
      replace b86 := b86.ext E88
      replace b86a := b86a.ext E88
      refine post_seq ?_
      refine jp_cond [true, true, true, false, true, false] [true, true, true, false, true, true] rfl rfl rfl rfl (fun hc92 => ?_) (fun hc92 => ?_)
      · skip
        refine jp_seq [true, true, true, false, true, false, false] [true, true, true, false, true, false, true] rfl rfl rfl ?_
        refine j_region rfl ?_
        refine ops_val rfl rfl (fun _ hk => e_move hk rfl ⟨rfl, rfl⟩) ?_
        refine ops_val rfl rfl (fun _ hk => e_assign hk rfl ⟨rfl, rfl⟩) ?_
        refine ops_end rfl ?_
        refine post_seq ?_
        refine J.sub [(1, .int .i64 ((a : Nat) : Int)), (6, .int .i64 ((b : Nat) : Int))] ⟨rfl, rfl, trivial⟩ ?_
        refine jp_ret rfl ?_
        refine post_seq_ret ?_
        refine post_ret [.int .i64 ((b : Nat) : Int)] (.int .i64 ((b : Nat) : Int)) Try.results146 ⟨rfl, trivial⟩ rfl ?_
        exact ⟨E0, by simp [firstN, ha, hb, hc92]⟩
      · skip
        refine jp_skip rfl ?_
        refine post_seq ?_
        refine J.sub [(1, .int .i64 ((a : Nat) : Int)), (6, .int .i64 0)] ⟨rfl, rfl, trivial⟩ ?_
        refine jp_seq [true, true, true, true, false] [true, true, true, true, true] rfl rfl rfl ?_
        refine j_region rfl ?_
        refine ops_val rfl rfl (fun _ hk => e_move hk rfl ⟨rfl, rfl⟩) ?_
        refine ops_val rfl rfl (fun _ hk => e_assign hk rfl ⟨rfl, rfl⟩) ?_
        refine ops_end rfl ?_
        refine post_seq ?_
        refine jp_ret rfl ?_
        refine post_ret [.int .i64 ((a : Nat) : Int)] (.int .i64 ((a : Nat) : Int)) Try.results146 ⟨rfl, trivial⟩ rfl ?_
        exact ⟨E0, by simp [firstN, ha, hb, hc92]⟩

set_option maxHeartbeats 2000000 in
set_option maxRecDepth 100000 in
theorem play_spec (base top t : Nat) (o : Int) (lv : Value) (ll : List LR) (wd : Nat) (bv : Value) (bs : List Nat) (lo hi : Nat) (w : World) (hT : Tree w base top t o lv ll wd bv bs) (hR : Rws w lo hi ll) (hS : Small 1000000000 (lls ll)) (nl : ll.length ≤ 1000000000) (hH : hi ≤ w.heap.size) (p k : Nat) (hp : wd = 2 ^ p) (hwd : wd ≤ 2000000000) (hB : hi ≤ base) (hb : bs.length = 2 * wd) (hk : k < wd) (hpl : Playing o (lls ll) wd bs ((wd + k) / 2)) :
    Calls Try.prog 148 #[.pointer (some ⟨t, 0, none⟩), .int .i64 ((k : Nat) : Int)] w (Ret fun res w' => Upd base top w w' ∧ ∃ bs', Tree w' base top t o lv ll wd bv bs' ∧ bs'.length = 2 * wd ∧ AllGood o (lls ll) wd bs') := by
  refine calls_of_J Try.func148 rfl (N := 41) rfl rfl ?_
  have htop := hT.top_
  have E0 : Upd base top w w := Upd.refl _ _ _
  refine jp_seq [false] [true] rfl rfl rfl ?_
  refine j_region rfl ?_
  refine ops_val rfl rfl (fun _ hk => e_move hk rfl ⟨rfl, rfl⟩) ?_
  refine ops_val rfl rfl (fun _ hk => e_nilCheck hk rfl ⟨rfl, rfl⟩) ?_
  refine ops_val rfl rfl (fun _ hk => e_fieldAddr hk rfl (fa_189_2 _ _) ⟨rfl, rfl⟩) ?_
  refine ops_val rfl rfl (fun _ hk => e_load1 hk rfl Try.isAgg3 (hT.at_.cell 2 rfl) ⟨rfl, rfl⟩) ?_
  refine ops_val rfl rfl (fun _ hk => e_move hk rfl ⟨rfl, rfl⟩) ?_
  refine ops_val rfl rfl (fun _ hk => e_add hk rfl rfl (w64eq (c := ((wd + k : Nat) : Int)) (by omega) (by omega)) ⟨rfl, rfl⟩) ?_
  refine ops_val rfl rfl (fun _ hk => e_quo hk rfl rfl (by omega) (w64eq (c := (((wd + k) / 2 : Nat) : Int)) (by rw [Int.tdiv_eq_ediv_of_nonneg (by omega)]; omega) (by omega)) ⟨rfl, rfl⟩) ?_
  refine ops_val rfl rfl (fun _ hk => e_assign hk rfl ⟨rfl, rfl⟩) ?_
  refine ops_end rfl ?_
  refine post_seq ?_
  refine J.sub [(0, .pointer (some ⟨t, 0, none⟩)), (4, .int .i64 (((wd + k) / 2 : Nat) : Int))] ⟨rfl, rfl, trivial⟩ ?_
  refine jp_block [true, false] rfl rfl ?_
  refine jp_loop (fun (g : Nat × List Nat) => [(0, .pointer (some ⟨t, 0, none⟩)), (4, .int .i64 ((g.1 : Nat) : Int))]) (fun (g : Nat × List Nat) (wl : World) => (Upd base top w wl) ∧ (Tree wl base top t o lv ll wd bv g.2) ∧ (Playing o (lls ll) wd g.2 g.1) ∧ (g.1 < wd) ∧ ((g.2).length = 2 * wd)) (fun (g : Nat × List Nat) => g.1) [true, false, false] ((((wd + k) / 2), bs)) rfl rfl ⟨rfl, rfl, trivial⟩ ⟨Upd.refl _ _ _, hT, hpl, by omega, hb⟩ ?_
  rintro ⟨a, c⟩ w2 ⟨E1, hT, hpl, ha, hc⟩
  replace hT : Tree w2 base top t o lv ll wd bv c := hT
  replace hpl : Playing o (lls ll) wd c a := hpl
  replace ha : a < wd := ha
  replace hc : (c).length = 2 * wd := hc
  have zE1 := E1.size
  replace E0 := Upd.then_ E0 E1 (by omega)
  replace hR := hR.upd E1 (by omega)
  refine J.sub [(0, .pointer (some ⟨t, 0, none⟩)), (4, .int .i64 ((a : Nat) : Int))] ⟨rfl, rfl, trivial⟩ ?_
  refine jp_seq [true, false, false, false] [true, false, false, true] rfl rfl rfl ?_
  refine jp_seq [true, false, false, false, false] [true, false, false, false, true] rfl rfl rfl ?_
  refine j_region rfl ?_
  refine ops_val rfl rfl (fun _ hk => e_move hk rfl ⟨rfl, rfl⟩) ?_
  refine ops_val rfl rfl (fun _ hk => e_gtr hk rfl rfl rfl ⟨rfl, rfl⟩) ?_
  refine ops_end rfl ?_
  refine post_seq ?_
  refine jp_cond [true, false, false, false, true, false] [true, false, false, false, true, true] rfl rfl rfl rfl (fun hc3 => ?_) (fun hc3 => ?_)
  · replace hc3 := of_decide_eq_true hc3
    refine jp_skip rfl ?_
    refine post_seq ?_
    refine jp_seq [true, false, false, true, false] [true, false, false, true, true] rfl rfl rfl ?_
    refine jp_block [true, false, false, true, false, false] rfl rfl ?_
    refine J.sub [(0, .pointer (some ⟨t, 0, none⟩)), (4, .int .i64 ((a : Nat) : Int)), (12, .int .i64 ((a : Nat) : Int)), (13, .bool (decide (0 < ((a : Nat) : Int))))] ⟨rfl, rfl, rfl, rfl, trivial⟩ ?_
    refine wp_draw 24 mixed rfl rfl ?_
    refine dr_val rfl rfl (fun ρ_ w_ E_ hk _ => e_move hk rfl ⟨Ext.rfl', rfl⟩) ?_
    refine dr_val rfl rfl (fun ρ_ w_ E_ hk _ => e_nilCheck hk rfl ⟨Ext.rfl', rfl⟩) ?_
    refine dr_val rfl rfl (fun ρ_ w_ E_ hk _ => e_fieldAddr hk rfl (fa_189_3 _ _) ⟨Ext.rfl', rfl⟩) ?_
    refine dr_val rfl rfl (fun ρ_ w_ E_ hk _ => e_load1 hk rfl Try.isAgg25 ((hT.ext E_).at_.cell 3 rfl) ⟨Ext.rfl', rfl⟩) ?_
    refine dr_val rfl rfl (fun ρ_ w_ E_ hk _ => e_move hk rfl ⟨Ext.rfl', rfl⟩) ?_
    refine dr_val rfl rfl (fun ρ_ w_ E_ hk _ => e_move hk rfl ⟨Ext.rfl', rfl⟩) ?_
    refine dr_val rfl rfl (fun ρ_ w_ E_ hk _ => e_move hk rfl ⟨Ext.rfl', rfl⟩) ?_
    refine dr_val rfl rfl (fun ρ_ w_ E_ hk _ => e_nilCheck hk rfl ⟨Ext.rfl', rfl⟩) ?_
    refine dr_val rfl rfl (fun ρ_ w_ E_ hk _ => e_fieldAddr hk rfl (fa_189_3 _ _) ⟨Ext.rfl', rfl⟩) ?_
    refine dr_val rfl rfl (fun ρ_ w_ E_ hk _ => e_load1 hk rfl Try.isAgg25 ((hT.ext E_).at_.cell 3 rfl) ⟨Ext.rfl', rfl⟩) ?_
    refine dr_val rfl rfl (fun ρ_ w_ E_ hk _ => e_move hk rfl ⟨Ext.rfl', rfl⟩) ?_
    refine dr_val rfl rfl (fun ρ_ w_ E_ hk _ => e_mul hk rfl rfl (w64eq (c := ((2 * a : Nat) : Int)) (by omega) (by omega)) ⟨Ext.rfl', rfl⟩) ?_
    obtain ⟨x1, hx1⟩ := get_some c (2 * a) (by omega)
    have A4 := hT.bsl.at_ hx1
    have qA4 := hT.bsl.block (by omega)
    refine dr_val rfl rfl (fun ρ_ w_ E_ hk _ => e_indexAddr (k := 2 * a) hk rfl rfl Try.runUnderlying25 Try.sizeOf3 (hT.bsl.has (by omega)) (by omega) ⟨Ext.rfl', rfl⟩) ?_
    refine dr_val rfl rfl (fun ρ_ w_ E_ hk _ => e_load1 hk rfl Try.isAgg3 ((A4.ext E_).cell 0 rfl) ⟨Ext.rfl', rfl⟩) ?_
    refine dr_val rfl rfl (fun ρ_ w_ E_ hk _ => e_move hk rfl ⟨Ext.rfl', rfl⟩) ?_
    refine dr_val rfl rfl (fun ρ_ w_ E_ hk _ => e_nilCheck hk rfl ⟨Ext.rfl', rfl⟩) ?_
    refine dr_val rfl rfl (fun ρ_ w_ E_ hk _ => e_fieldAddr hk rfl (fa_189_3 _ _) ⟨Ext.rfl', rfl⟩) ?_
    refine dr_val rfl rfl (fun ρ_ w_ E_ hk _ => e_load1 hk rfl Try.isAgg25 ((hT.ext E_).at_.cell 3 rfl) ⟨Ext.rfl', rfl⟩) ?_
    refine dr_val rfl rfl (fun ρ_ w_ E_ hk _ => e_move hk rfl ⟨Ext.rfl', rfl⟩) ?_
    refine dr_val rfl rfl (fun ρ_ w_ E_ hk _ => e_mul hk rfl rfl (w64eq (c := ((2 * a : Nat) : Int)) (by omega) (by omega)) ⟨Ext.rfl', rfl⟩) ?_
    refine dr_val rfl rfl (fun ρ_ w_ E_ hk _ => e_add hk rfl rfl (w64eq (c := (((2 * a) + 1 : Nat) : Int)) (by omega) (by omega)) ⟨Ext.rfl', rfl⟩) ?_
    obtain ⟨x2, hx2⟩ := get_some c ((2 * a) + 1) (by omega)
    have A5 := hT.bsl.at_ hx2
    have qA5 := hT.bsl.block (by omega)
    refine dr_val rfl rfl (fun ρ_ w_ E_ hk _ => e_indexAddr (k := (2 * a) + 1) hk rfl rfl Try.runUnderlying25 Try.sizeOf3 (hT.bsl.has (by omega)) (by omega) ⟨Ext.rfl', rfl⟩) ?_
    refine dr_val rfl rfl (fun ρ_ w_ E_ hk _ => e_load1 hk rfl Try.isAgg3 ((A5.ext E_).cell 0 rfl) ⟨Ext.rfl', rfl⟩) ?_
    refine dr_val rfl rfl (fun ρ_ w_ E_ hk _ => e_call hk rfl Try.call146 (first_spec _ _ _ _ _ _ _ _ _ _ _ x1 x2 _ (hT.ext E_) (hR.ext E_) hS (by omega) (Nat.le_trans (by omega : hi ≤ w2.heap.size) E_.size)) (fun _ _ h => h)) ?_
    refine dr_end rfl (fun w6 E7 => ?_)
    have zE7 := E7.size
    replace E0 := E0.trans (Upd.of_ext _ _ E7)
    replace hR := hR.ext E7
    replace hT := hT.ext E7
    replace E1 := E1.trans (Upd.of_ext _ _ E7)
    replace A4 := A4.ext E7
    replace A5 := A5.ext E7
    refine Ops.sub [(0, .pointer (some ⟨t, 0, none⟩)), (4, .int .i64 ((a : Nat) : Int)), (12, .int .i64 ((a : Nat) : Int)), (13, .bool (decide (0 < ((a : Nat) : Int)))), (16, .pointer (some ⟨t, 0, none⟩)), (17, .pointer (some ⟨t, 0, none⟩)), (18, .pointer (some ⟨t, 3, none⟩)), (19, bv), (20, .int .i64 ((a : Nat) : Int)), (21, .pointer (some ⟨t, 0, none⟩)), (22, .pointer (some ⟨t, 0, none⟩)), (23, .pointer (some ⟨t, 0, none⟩)), (24, .pointer (some ⟨t, 3, none⟩)), (25, bv), (26, .int .i64 ((a : Nat) : Int)), (27, .int .i64 ((2 * a : Nat) : Int)), (28, .pointer (some ⟨bl bv, of_ bv + (2 * a) * 1, none⟩)), (29, .int .i64 ((x1 : Nat) : Int)), (30, .pointer (some ⟨t, 0, none⟩)), (31, .pointer (some ⟨t, 0, none⟩)), (32, .pointer (some ⟨t, 3, none⟩)), (33, bv), (34, .int .i64 ((a : Nat) : Int)), (35, .int .i64 ((2 * a : Nat) : Int)), (36, .int .i64 (((2 * a) + 1 : Nat) : Int)), (37, .pointer (some ⟨bl bv, of_ bv + ((2 * a) + 1) * 1, none⟩)), (38, .int .i64 ((x2 : Nat) : Int)), (39, .int .i64 (((firstN o (lls ll) x1 x2) : Nat) : Int))] ⟨rfl, rfl, rfl, rfl, rfl, rfl, rfl, rfl, rfl, rfl, rfl, rfl, rfl, rfl, rfl, rfl, rfl, rfl, rfl, rfl, rfl, rfl, rfl, rfl, rfl, rfl, rfl, rfl, trivial⟩ ?_
    obtain ⟨x3, hx3⟩ := get_some c (a) (by omega)
    have A8 := hT.bsl.at_ hx3
    have qA8 := hT.bsl.block (by omega)
    refine ops_val rfl rfl (fun _ hk => e_indexAddr (k := a) hk rfl rfl Try.runUnderlying25 Try.sizeOf3 (hT.bsl.has (by omega)) (by omega) ⟨rfl, rfl⟩) ?_
    refine ops_rel (fun _ w' => Tree w' base top t o lv ll wd bv ((c.set a ((firstN o (lls ll) x1 x2)))) ∧ Upd base top w6 w' ∧ w'.heap.size = w6.heap.size) rfl rfl (fun _ hk => e_setBest hk rfl rfl Try.sizeOf3 hT (by omega) (fun w_ h1 h2 h3 => ⟨h1, h2, h3⟩)) ?_
    rintro _ w9 ⟨hnU10, U10, szU10⟩
    have zU10 := U10.size
    replace E0 := Upd.then_ E0 U10 (by omega)
    replace hR := hR.upd U10 (by omega)
    replace E1 := Upd.then_ E1 U10 (by omega)
    replace hT := hnU10
    refine ops_end rfl ?_
    refine post_block ?_
    refine post_seq ?_
    refine j_region rfl ?_
    refine ops_val rfl rfl (fun _ hk => e_move hk rfl ⟨rfl, rfl⟩) ?_
    refine ops_val rfl rfl (fun _ hk => e_quo hk rfl rfl (by omega) (w64eq (c := ((a / 2 : Nat) : Int)) (by rw [Int.tdiv_eq_ediv_of_nonneg (by omega)]; omega) (by omega)) ⟨rfl, rfl⟩) ?_
    refine ops_val rfl rfl (fun _ hk => e_assign hk rfl ⟨rfl, rfl⟩) ?_
    refine ops_end rfl ?_
    exact post_loop ((a / 2, (c.set a ((firstN o (lls ll) x1 x2))))) ⟨rfl, rfl, trivial⟩ ⟨E1, hT, hpl.next hp (by omega) (by omega) hc hx1 hx2, by omega, by rw [List.length_set]; exact hc⟩ (by omega)
  · replace hc3 := of_decide_eq_false hc3
    refine jp_exit rfl ?_
    refine post_seq_exit ?_
    refine post_loop_exit ?_
    refine post_block_exit ?_
    refine post_end [] _ Try.results148 trivial rfl ?_
    obtain rfl : a = 0 := by omega
    exact ⟨E0, c, hT, hc, hpl.last⟩

set_option maxHeartbeats 2000000 in
set_option maxRecDepth 100000 in
theorem next_none (base top t : Nat) (o : Int) (lv : Value) (ll : List LR) (wd : Nat) (bv : Value) (bs : List Nat) (lo hi : Nat) (w : World) (hT : Tree w base top t o lv ll wd bv bs) (hR : Rws w lo hi ll) (hS : Small 1000000000 (lls ll)) (nl : ll.length ≤ 1000000000) (hH : hi ≤ w.heap.size) (p m : Nat) (hp : wd = 2 ^ p) (hwd : wd ≤ 2000000000) (hB : hi ≤ base) (hb : bs.length = 2 * wd) (hg : AllGood o (lls ll) wd bs) (hm : bs[1]? = some m) (hmw : m < wd) (hh : hd (lls ll) m = none) :
    Calls Try.prog 107 #[.pointer (some ⟨t, 0, none⟩)] w (Ret fun res w' => Ext w w' ∧ res = .tuple #[.agg #[.slice none 0 0, .int .i64 0], .int .i64 0, .bool false]) := by
  refine calls_of_J Try.func107 rfl (N := 44) rfl rfl ?_
  have E0 : Ext w w := Ext.rfl'
  have htop := hT.top_
  · skip
    refine jp_seq [false] [true] rfl rfl rfl ?_
    refine j_region rfl ?_
    refine ops_rel (fun r_ w' => ∃ g, r_ = .pointer (some ⟨g, 0, none⟩) ∧ New w w' g 34 [.slice none 0 0, .int .i64 0]) rfl rfl (fun _ hk => e_alloc Try.zeroValue34 (fun g w' n => ⟨g, rfl, n⟩)) ?_
    rintro _ w2 ⟨g1, rfl, N3⟩
    have EN3 := N3.ext
    have nN3 := N3.num
    have sN3 := N3.size
    have zEN3 := EN3.size
    replace E0 := E0.trans EN3
    replace hT := hT.ext EN3
    replace hR := hR.ext EN3
    have b4 := N3.box
    have b4a := b4.at_
    refine ops_val rfl rfl (fun _ hk => e_assign hk rfl ⟨rfl, rfl⟩) ?_
    refine ops_val rfl rfl (fun _ hk => e_assign hk rfl ⟨rfl, rfl⟩) ?_
    refine ops_end rfl ?_
    refine post_seq ?_
    refine jp_seq [true, false] [true, true] rfl rfl rfl ?_
    refine j_region rfl ?_
    refine ops_val rfl rfl (fun _ hk => e_move hk rfl ⟨rfl, rfl⟩) ?_
    refine ops_val rfl rfl (fun _ hk => e_nilCheck hk rfl ⟨rfl, rfl⟩) ?_
    refine ops_val rfl rfl (fun _ hk => e_fieldAddr hk rfl (fa_189_3 _ _) ⟨rfl, rfl⟩) ?_
    refine ops_val rfl rfl (fun _ hk => e_load1 hk rfl Try.isAgg25 (hT.at_.cell 3 rfl) ⟨rfl, rfl⟩) ?_
    have A5 := hT.bsl.at_ hm
    have qA5 := hT.bsl.block (by omega)
    refine ops_val rfl rfl (fun _ hk => e_indexAddr (k := 1) hk rfl rfl Try.runUnderlying25 Try.sizeOf3 (hT.bsl.has (by omega)) (by omega) ⟨rfl, rfl⟩) ?_
    refine ops_val rfl rfl (fun _ hk => e_load1 hk rfl Try.isAgg3 (A5.cell 0 rfl) ⟨rfl, rfl⟩) ?_
    refine ops_val rfl rfl (fun _ hk => e_assign hk rfl ⟨rfl, rfl⟩) ?_
    refine ops_end rfl ?_
    refine post_seq ?_
    refine jp_seq [true, true, false] [true, true, true] rfl rfl rfl ?_
    refine j_region rfl ?_
    refine ops_val rfl rfl (fun _ hk => e_move hk rfl ⟨rfl, rfl⟩) ?_
    refine ops_val rfl rfl (fun _ hk => e_move hk rfl ⟨rfl, rfl⟩) ?_
    refine ops_rel _ rfl rfl (fun _ hk => e_call hk rfl Try.call147 (leaf_none _ _ _ _ _ _ _ _ _ _ _ m _ hT hR hS (by omega) (by omega) hh) (fun _ _ h => h)) ?_
    rintro _ w6 ⟨E7, rfl⟩
    have zE7 := E7.size
    replace E0 := E0.trans E7
    replace hT := hT.ext E7
    replace hR := hR.ext E7
    replace b4 := b4.ext E7
    replace b4a := b4a.ext E7
    refine ops_val rfl rfl (fun _ hk => e_assert (v := .tuple #[.agg #[.slice none 0 0, .int .i64 0], .bool false]) hk rfl (fun _ => by kernel_rfl) ⟨rfl, rfl⟩) ?_
    refine ops_val rfl rfl (fun _ hk => e_move hk rfl ⟨rfl, rfl⟩) ?_
    refine ops_val rfl rfl (fun _ hk => e_extract hk rfl rfl ⟨rfl, rfl⟩) ?_
    refine ops_val rfl rfl (fun _ hk => e_extract hk rfl rfl ⟨rfl, rfl⟩) ?_
    refine ops_rel (fun r_ w' => ∃ g, r_ = .pointer (some ⟨g, 0, none⟩) ∧ New w6 w' g 192 [.slice none 0 0, .int .i64 0]) rfl rfl (fun _ hk => e_alloc Try.zeroValue192 (fun g w' n => ⟨g, rfl, n⟩)) ?_
    rintro _ w9 ⟨g8, rfl, N10⟩
    have EN10 := N10.ext
    have nN10 := N10.num
    have sN10 := N10.size
    have zEN10 := EN10.size
    replace E0 := E0.trans EN10
    replace hT := hT.ext EN10
    replace hR := hR.ext EN10
    replace b4 := b4.ext EN10
    replace b4a := b4a.ext EN10
    have b11 := N10.box
    have b11a := b11.at_
    refine ops_rel (fun _ w' => Box w' g8 192 [.slice none 0 0, .int .i64 0] ∧ Upd g8 (g8 + 1) w9 w' ∧ w'.heap.size = w9.heap.size) rfl rfl (fun _ hk => e_store hk rfl rfl Try.sizeOf192 b11 (Nat.le_of_ble_eq_true rfl) ⟨rfl, rfl, trivial⟩ (fun w' h1 h2 h3 => ⟨h1, h2, h3⟩)) ?_
    rintro _ w12 ⟨b15, U13, z14⟩
    have zU13 := U13.size
    replace E0 := Ext.then_ E0 U13 (by omega)
    replace hT := hT.upd U13 (by omega)
    replace hR := hR.upd U13 (by omega)
    replace b4 := b4.upd U13 (by omega)
    replace b4a := b4a.upd U13 (by omega)
    have b15a := b15.at_
    refine ops_val rfl rfl (fun _ hk => e_assign hk rfl ⟨rfl, rfl⟩) ?_
    refine ops_end rfl ?_
    refine post_seq ?_
    refine J.sub [(0, .pointer (some ⟨t, 0, none⟩)), (2, .pointer (some ⟨g1, 0, none⟩)), (3, .int .i64 0), (4, .bool false), (5, .int .i64 ((m : Nat) : Int)), (6, .pointer (some ⟨g8, 0, none⟩)), (7, .bool false)] ⟨rfl, rfl, rfl, rfl, rfl, rfl, rfl, trivial⟩ ?_
    refine jp_seq [true, true, true, false] [true, true, true, true] rfl rfl rfl ?_
    refine jp_seq [true, true, true, false, false] [true, true, true, false, true] rfl rfl rfl ?_
    refine j_region rfl ?_
    refine ops_val rfl rfl (fun _ hk => e_move hk rfl ⟨rfl, rfl⟩) ?_
    refine ops_val rfl rfl (fun _ hk => e_not hk rfl ⟨rfl, rfl⟩) ?_
    refine ops_end rfl ?_
    refine post_seq ?_
    refine jp_cond_t [true, true, true, false, true, false] rfl rfl rfl ?_
    refine jp_seq [true, true, true, false, true, false, false] [true, true, true, false, true, false, true] rfl rfl rfl ?_
    refine j_region rfl ?_
    refine ops_val rfl rfl (fun _ hk => e_build2 [] [] (.agg #[.slice none 0 0, .int .i64 0]) hk rfl rfl (fun _ => by kernel_rfl) ⟨rfl, rfl⟩) ?_
    refine ops_rel (fun _ w' => Box w' g1 34 [.slice none 0 0, .int .i64 0] ∧ Upd g1 (g1 + 1) w12 w' ∧ w'.heap.size = w12.heap.size) rfl rfl (fun _ hk => e_store hk rfl rfl Try.sizeOf34 b4 (Nat.le_of_ble_eq_true rfl) ⟨rfl, rfl, trivial⟩ (fun w' h1 h2 h3 => ⟨h1, h2, h3⟩)) ?_
    rintro _ w16 ⟨b19, U17, z18⟩
    have zU17 := U17.size
    replace E0 := Ext.then_ E0 U17 (by omega)
    replace hT := hT.upd U17 (by omega)
    replace hR := hR.upd U17 (by omega)
    replace b15 := b15.upd U17 (by omega)
    replace b15a := b15a.upd U17 (by omega)
    have b19a := b19.at_
    refine ops_val rfl rfl (fun _ hk => e_assign hk rfl ⟨rfl, rfl⟩) ?_
    refine ops_val rfl rfl (fun _ hk => e_assign hk rfl ⟨rfl, rfl⟩) ?_
    refine ops_end rfl ?_
    refine post_seq ?_
    refine jp_ret rfl ?_
    refine post_seq_ret ?_
    refine post_ret [.agg #[.slice none 0 0, .int .i64 0], .int .i64 0, .bool false] (.tuple #[.agg #[.slice none 0 0, .int .i64 0], .int .i64 0, .bool false]) Try.results107 ⟨⟨_, _, rfl, run_loadVar_agg (cs := [.slice none 0 0, .int .i64 0]) Try.isAgg34 Try.sizeOf34 b19a⟩, rfl, rfl, trivial⟩ rfl ?_
    exact ⟨E0, rfl⟩

set_option maxHeartbeats 2000000 in
set_option maxRecDepth 100000 in
theorem next_some (base top t : Nat) (o : Int) (lv : Value) (ll : List LR) (wd : Nat) (bv : Value) (bs : List Nat) (lo hi : Nat) (w : World) (hT : Tree w base top t o lv ll wd bv bs) (hR : Rws w lo hi ll) (hS : Small 1000000000 (lls ll)) (nl : ll.length ≤ 1000000000) (hH : hi ≤ w.heap.size) (p m : Nat) (hp : wd = 2 ^ p) (hwd : wd ≤ 2000000000) (hB : hi ≤ base) (hb : bs.length = 2 * wd) (hg : AllGood o (lls ll) wd bs) (hm : bs[1]? = some m) (hmw : m < wd) (x : RowD) (hh : hd (lls ll) m = some x) :
    Calls Try.prog 107 #[.pointer (some ⟨t, 0, none⟩)] w (Ret fun res w' => Upd base top w w' ∧ res = .tuple #[.agg #[x.lv, .int .i64 x.v], .int .i64 ((m : Nat) : Int), .bool true] ∧ ∃ y bs', ll[m]? = some y ∧ Tree w' base top t o lv (ll.set m y.pop1) wd bv bs' ∧ bs'.length = 2 * wd ∧ AllGood o (lls (ll.set m y.pop1)) wd bs' ∧ Rws w' lo hi (ll.set m y.pop1) ∧ Small 1000000000 (lls (ll.set m y.pop1))) := by
  refine calls_of_J Try.func107 rfl (N := 44) rfl rfl ?_
  have E0 : Upd base top w w := Upd.refl _ _ _
  have htop := hT.top_
  obtain ⟨y, rest, hy, he⟩ := hd_some hh
  have hlt := get_lt hy
  have hn0 : y.rs.length = rest.length + 1 := by rw [he]; rfl
  · skip
    have hlx := hR.lab hh
    refine jp_seq [false] [true] rfl rfl rfl ?_
    refine j_region rfl ?_
    refine ops_rel (fun r_ w' => ∃ g, r_ = .pointer (some ⟨g, 0, none⟩) ∧ New w w' g 34 [.slice none 0 0, .int .i64 0]) rfl rfl (fun _ hk => e_alloc Try.zeroValue34 (fun g w' n => ⟨g, rfl, n⟩)) ?_
    rintro _ w2 ⟨g1, rfl, N3⟩
    have EN3 := N3.ext
    have nN3 := N3.num
    have sN3 := N3.size
    have zEN3 := EN3.size
    replace E0 := E0.trans (Upd.of_ext _ _ EN3)
    replace hT := hT.ext EN3
    replace hR := hR.ext EN3
    replace hlx := hlx.ext EN3
    have b4 := N3.box
    have b4a := b4.at_
    refine ops_val rfl rfl (fun _ hk => e_assign hk rfl ⟨rfl, rfl⟩) ?_
    refine ops_val rfl rfl (fun _ hk => e_assign hk rfl ⟨rfl, rfl⟩) ?_
    refine ops_end rfl ?_
    refine post_seq ?_
    refine jp_seq [true, false] [true, true] rfl rfl rfl ?_
    refine j_region rfl ?_
    refine ops_val rfl rfl (fun _ hk => e_move hk rfl ⟨rfl, rfl⟩) ?_
    refine ops_val rfl rfl (fun _ hk => e_nilCheck hk rfl ⟨rfl, rfl⟩) ?_
    refine ops_val rfl rfl (fun _ hk => e_fieldAddr hk rfl (fa_189_3 _ _) ⟨rfl, rfl⟩) ?_
    refine ops_val rfl rfl (fun _ hk => e_load1 hk rfl Try.isAgg25 (hT.at_.cell 3 rfl) ⟨rfl, rfl⟩) ?_
    have A5 := hT.bsl.at_ hm
    have qA5 := hT.bsl.block (by omega)
    refine ops_val rfl rfl (fun _ hk => e_indexAddr (k := 1) hk rfl rfl Try.runUnderlying25 Try.sizeOf3 (hT.bsl.has (by omega)) (by omega) ⟨rfl, rfl⟩) ?_
    refine ops_val rfl rfl (fun _ hk => e_load1 hk rfl Try.isAgg3 (A5.cell 0 rfl) ⟨rfl, rfl⟩) ?_
    refine ops_val rfl rfl (fun _ hk => e_assign hk rfl ⟨rfl, rfl⟩) ?_
    refine ops_end rfl ?_
    refine post_seq ?_
    refine jp_seq [true, true, false] [true, true, true] rfl rfl rfl ?_
    refine j_region rfl ?_
    refine ops_val rfl rfl (fun _ hk => e_move hk rfl ⟨rfl, rfl⟩) ?_
    refine ops_val rfl rfl (fun _ hk => e_move hk rfl ⟨rfl, rfl⟩) ?_
    refine ops_rel _ rfl rfl (fun _ hk => e_call hk rfl Try.call147 (leaf_some _ _ _ _ _ _ _ _ _ _ _ m x _ hT hR hS (by omega) (by omega) hh) (fun _ _ h => h)) ?_
    rintro _ w6 ⟨E7, rfl⟩
    have zE7 := E7.size
    replace E0 := E0.trans (Upd.of_ext _ _ E7)
    replace hT := hT.ext E7
    replace hR := hR.ext E7
    replace hlx := hlx.ext E7
    replace b4 := b4.ext E7
    replace b4a := b4a.ext E7
    refine ops_val rfl rfl (fun _ hk => e_assert (v := .tuple #[.agg #[x.lv, .int .i64 (x.v)], .bool true]) hk rfl (fun _ => by kernel_rfl) ⟨rfl, rfl⟩) ?_
    refine ops_val rfl rfl (fun _ hk => e_move hk rfl ⟨rfl, rfl⟩) ?_
    refine ops_val rfl rfl (fun _ hk => e_extract hk rfl rfl ⟨rfl, rfl⟩) ?_
    refine ops_val rfl rfl (fun _ hk => e_extract hk rfl rfl ⟨rfl, rfl⟩) ?_
    refine ops_rel (fun r_ w' => ∃ g, r_ = .pointer (some ⟨g, 0, none⟩) ∧ New w6 w' g 192 [.slice none 0 0, .int .i64 0]) rfl rfl (fun _ hk => e_alloc Try.zeroValue192 (fun g w' n => ⟨g, rfl, n⟩)) ?_
    rintro _ w9 ⟨g8, rfl, N10⟩
    have EN10 := N10.ext
    have nN10 := N10.num
    have sN10 := N10.size
    have zEN10 := EN10.size
    replace E0 := E0.trans (Upd.of_ext _ _ EN10)
    replace hT := hT.ext EN10
    replace hR := hR.ext EN10
    replace hlx := hlx.ext EN10
    replace b4 := b4.ext EN10
    replace b4a := b4a.ext EN10
    have b11 := N10.box
    have b11a := b11.at_
    refine ops_rel (fun _ w' => Box w' g8 192 [x.lv, .int .i64 (x.v)] ∧ Upd g8 (g8 + 1) w9 w' ∧ w'.heap.size = w9.heap.size) rfl rfl (fun _ hk => e_store hk rfl rfl Try.sizeOf192 b11 (Nat.le_of_ble_eq_true rfl) ⟨hlx.one, rfl, trivial⟩ (fun w' h1 h2 h3 => ⟨h1, h2, h3⟩)) ?_
    rintro _ w12 ⟨b15, U13, z14⟩
    have zU13 := U13.size
    replace E0 := Upd.then_ E0 U13 (by omega)
    replace hT := hT.upd U13 (by omega)
    replace hR := hR.upd U13 (by omega)
    replace hlx := hlx.upd U13 (by omega)
    replace b4 := b4.upd U13 (by omega)
    replace b4a := b4a.upd U13 (by omega)
    have b15a := b15.at_
    refine ops_val rfl rfl (fun _ hk => e_assign hk rfl ⟨rfl, rfl⟩) ?_
    refine ops_end rfl ?_
    refine post_seq ?_
    refine J.sub [(0, .pointer (some ⟨t, 0, none⟩)), (2, .pointer (some ⟨g1, 0, none⟩)), (3, .int .i64 0), (4, .bool false), (5, .int .i64 ((m : Nat) : Int)), (6, .pointer (some ⟨g8, 0, none⟩)), (7, .bool true)] ⟨rfl, rfl, rfl, rfl, rfl, rfl, rfl, trivial⟩ ?_
    refine jp_seq [true, true, true, false] [true, true, true, true] rfl rfl rfl ?_
    refine jp_seq [true, true, true, false, false] [true, true, true, false, true] rfl rfl rfl ?_
    refine j_region rfl ?_
    refine ops_val rfl rfl (fun _ hk => e_move hk rfl ⟨rfl, rfl⟩) ?_
    refine ops_val rfl rfl (fun _ hk => e_not hk rfl ⟨rfl, rfl⟩) ?_
    refine ops_end rfl ?_
    refine post_seq ?_
    refine jp_cond_f [true, true, true, false, true, true] rfl rfl rfl ?_
    refine jp_skip rfl ?_
    refine post_seq ?_
    refine jp_seq [true, true, true, true, false] [true, true, true, true, true] rfl rfl rfl ?_
    refine J.sub [(0, .pointer (some ⟨t, 0, none⟩)), (2, .pointer (some ⟨g1, 0, none⟩)), (3, .int .i64 0), (4, .bool false), (5, .int .i64 ((m : Nat) : Int)), (6, .pointer (some ⟨g8, 0, none⟩)), (7, .bool true), (21, .bool true), (22, .bool false)] ⟨rfl, rfl, rfl, rfl, rfl, rfl, rfl, rfl, rfl, trivial⟩ ?_
    refine wp_draw 13 mixed rfl rfl ?_
    refine dr_val rfl rfl (fun ρ_ w_ E_ hk _ => e_move hk rfl ⟨Ext.rfl', rfl⟩) ?_
    refine dr_val rfl rfl (fun ρ_ w_ E_ hk _ => e_nilCheck hk rfl ⟨Ext.rfl', rfl⟩) ?_
    refine dr_val rfl rfl (fun ρ_ w_ E_ hk _ => e_fieldAddr hk rfl (fa_189_1 _ _) ⟨Ext.rfl', rfl⟩) ?_
    refine dr_val rfl rfl (fun ρ_ w_ E_ hk _ => e_load1 hk rfl Try.isAgg22 ((hT.ext E_).at_.cell 1 rfl) ⟨Ext.rfl', rfl⟩) ?_
    refine dr_val rfl rfl (fun ρ_ w_ E_ hk _ => e_move hk rfl ⟨Ext.rfl', rfl⟩) ?_
    refine dr_val rfl rfl (fun ρ_ w_ E_ hk _ => e_move hk rfl ⟨Ext.rfl', rfl⟩) ?_
    refine dr_val rfl rfl (fun ρ_ w_ E_ hk _ => e_nilCheck hk rfl ⟨Ext.rfl', rfl⟩) ?_
    refine dr_val rfl rfl (fun ρ_ w_ E_ hk _ => e_fieldAddr hk rfl (fa_189_1 _ _) ⟨Ext.rfl', rfl⟩) ?_
    refine dr_val rfl rfl (fun ρ_ w_ E_ hk _ => e_load1 hk rfl Try.isAgg22 ((hT.ext E_).at_.cell 1 rfl) ⟨Ext.rfl', rfl⟩) ?_
    refine dr_val rfl rfl (fun ρ_ w_ E_ hk _ => e_move hk rfl ⟨Ext.rfl', rfl⟩) ?_
    have A16 := hT.lsl.at_ hy
    have qA16 := hT.lsl.block (by omega)
    have hr_y := hR y (mem_get hy)
    have nr_y := hS.row hy
    have nl_y : ∀ r ∈ y.rs, r.ls.length ≤ 1000000000 := fun r hr => (hS _ (List.mem_of_getElem? (lls_get hy))).2 r hr
    refine dr_val rfl rfl (fun ρ_ w_ E_ hk _ => e_indexAddr (k := m) hk rfl rfl Try.runUnderlying22 Try.sizeOf27 (hT.lsl.has (by omega)) (by omega) ⟨Ext.rfl', rfl⟩) ?_
    refine dr_val rfl rfl (fun ρ_ w_ E_ hk _ => e_load1 hk rfl Try.isAgg27 ((A16.ext E_).cell 0 rfl) ⟨Ext.rfl', rfl⟩) ?_
    have hs17 := hr_y.sl.cut (1) (y.rs.length) (by omega) (by omega)
    refine dr_val rfl rfl (fun ρ_ w_ E_ hk _ => e_slice (n := y.rs.length) (a := 1) (b := y.rs.length) hk rfl rfl rfl (.inr ⟨_, rfl⟩) (.inl ⟨rfl, rfl⟩) Try.runUnderlying27 Try.sizeOf34 (hr_y.sl.capLe (by omega)) (by omega) ⟨Ext.rfl', rfl⟩) ?_
    refine dr_end rfl (fun w18 E19 => ?_)
    have zE19 := E19.size
    replace E0 := E0.trans (Upd.of_ext _ _ E19)
    replace hT := hT.ext E19
    replace hR := hR.ext E19
    replace hlx := hlx.ext E19
    replace b4 := b4.ext E19
    replace b4a := b4a.ext E19
    replace b15 := b15.ext E19
    replace b15a := b15a.ext E19
    replace A16 := A16.ext E19
    replace hr_y := hr_y.ext E19
    replace hs17 := hs17.ext E19
    refine Ops.sub [(0, .pointer (some ⟨t, 0, none⟩)), (2, .pointer (some ⟨g1, 0, none⟩)), (3, .int .i64 0), (4, .bool false), (5, .int .i64 ((m : Nat) : Int)), (6, .pointer (some ⟨g8, 0, none⟩)), (7, .bool true), (21, .bool true), (22, .bool false), (24, .pointer (some ⟨t, 0, none⟩)), (25, .pointer (some ⟨t, 0, none⟩)), (26, .pointer (some ⟨t, 1, none⟩)), (27, lv), (28, .int .i64 ((m : Nat) : Int)), (29, .pointer (some ⟨t, 0, none⟩)), (30, .pointer (some ⟨t, 0, none⟩)), (31, .pointer (some ⟨t, 1, none⟩)), (32, lv), (33, .int .i64 ((m : Nat) : Int)), (34, .pointer (some ⟨bl lv, of_ lv + (m) * 1, none⟩)), (35, y.sv), (36, cut 2 y.sv 1 y.rs.length)] ⟨rfl, rfl, rfl, rfl, rfl, rfl, rfl, rfl, rfl, rfl, rfl, rfl, rfl, rfl, rfl, rfl, rfl, rfl, rfl, rfl, rfl, rfl, trivial⟩ ?_
    have A20 := hT.lsl.at_ hy
    have qA20 := hT.lsl.block (by omega)
    have hr_y := hR y (mem_get hy)
    have nr_y := hS.row hy
    have nl_y : ∀ r ∈ y.rs, r.ls.length ≤ 1000000000 := fun r hr => (hS _ (List.mem_of_getElem? (lls_get hy))).2 r hr
    refine ops_val rfl rfl (fun _ hk => e_indexAddr (k := m) hk rfl rfl Try.runUnderlying22 Try.sizeOf27 (hT.lsl.has (by omega)) (by omega) ⟨rfl, rfl⟩) ?_
    refine ops_rel (fun _ w' => Tree w' base top t o lv ((ll.set m y.pop1)) wd bv bs ∧ Upd base top w18 w' ∧ w'.heap.size = w18.heap.size) rfl rfl (fun _ hk => e_setList (d := y.pop1) hk rfl rfl Try.sizeOf27 hs17.one hT (by omega) (fun w_ h1 h2 h3 => ⟨h1, h2, h3⟩)) ?_
    rintro _ w21 ⟨hnU22, U22, szU22⟩
    have zU22 := U22.size
    replace E0 := Upd.then_ E0 U22 (by omega)
    replace hR := hR.upd U22 (by omega)
    replace hlx := hlx.upd U22 (by omega)
    replace b4 := b4.upd U22 (by omega)
    replace b4a := b4a.upd U22 (by omega)
    replace b15 := b15.upd U22 (by omega)
    replace b15a := b15a.upd U22 (by omega)
    replace hs17 := hs17.upd U22 (by omega)
    replace hr_y := hr_y.upd U22 (by omega)
    replace hT := hnU22
    replace hR := hR.set hy (by omega)
    replace hS : Small 1000000000 (lls (ll.set m y.pop1)) := by rw [lls_pop hy]; exact hS.pop m
    refine ops_end rfl ?_
    refine post_seq ?_
    refine J.sub [(0, .pointer (some ⟨t, 0, none⟩)), (2, .pointer (some ⟨g1, 0, none⟩)), (3, .int .i64 0), (4, .bool false), (5, .int .i64 ((m : Nat) : Int)), (6, .pointer (some ⟨g8, 0, none⟩))] ⟨rfl, rfl, rfl, rfl, rfl, rfl, trivial⟩ ?_
    refine jp_seq [true, true, true, true, true, false] [true, true, true, true, true, true] rfl rfl rfl ?_
    refine j_region rfl ?_
    refine ops_val rfl rfl (fun _ hk => e_move hk rfl ⟨rfl, rfl⟩) ?_
    refine ops_val rfl rfl (fun _ hk => e_move hk rfl ⟨rfl, rfl⟩) ?_
    refine ops_rel _ rfl rfl (fun _ hk => e_call hk rfl Try.call148 (play_spec _ _ _ _ _ _ _ _ _ _ _ _ hT hR hS (by simp only [List.length_set]; omega) (by omega) _ m hp (by omega) (by omega) hb (by omega) (by rw [lls_pop hy]; exact Playing.first hg hmw)) (fun _ _ h => h)) ?_
    rintro _ w24 ⟨E25, bs23, hT, hb, hg⟩
    have zE25 := E25.size
    replace E0 := Upd.then_ E0 E25 (by omega)
    replace hR := hR.upd E25 (by omega)
    replace hlx := hlx.upd E25 (by omega)
    replace b4 := b4.upd E25 (by omega)
    replace b4a := b4a.upd E25 (by omega)
    replace b15 := b15.upd E25 (by omega)
    replace b15a := b15a.upd E25 (by omega)
    replace hs17 := hs17.upd E25 (by omega)
    replace hr_y := hr_y.upd E25 (by omega)
    refine ops_end rfl ?_
    refine post_seq ?_
    refine jp_seq [true, true, true, true, true, true, false] [true, true, true, true, true, true, true] rfl rfl rfl ?_
    refine j_region rfl ?_
    refine ops_val rfl rfl (fun _ hk => e_fieldAddr hk rfl (fa_192_0 _ _) ⟨rfl, rfl⟩) ?_
    refine ops_val rfl rfl (fun _ hk => e_loadA (cs := [x.lv, .int .i64 (x.v)]) hk rfl Try.isAgg34 Try.sizeOf34 b15a ⟨rfl, rfl⟩) ?_
    refine ops_val rfl rfl (fun _ hk => e_move hk rfl ⟨rfl, rfl⟩) ?_
    refine ops_rel (fun _ w' => Box w' g1 34 [x.lv, .int .i64 (x.v)] ∧ Upd g1 (g1 + 1) w24 w' ∧ w'.heap.size = w24.heap.size) rfl rfl (fun _ hk => e_store hk rfl rfl Try.sizeOf34 b4 (Nat.le_of_ble_eq_true rfl) ⟨hlx.one, rfl, trivial⟩ (fun w' h1 h2 h3 => ⟨h1, h2, h3⟩)) ?_
    rintro _ w26 ⟨b29, U27, z28⟩
    have zU27 := U27.size
    replace E0 := Upd.then_ E0 U27 (by omega)
    replace hR := hR.upd U27 (by omega)
    replace hlx := hlx.upd U27 (by omega)
    replace b15 := b15.upd U27 (by omega)
    replace b15a := b15a.upd U27 (by omega)
    replace hs17 := hs17.upd U27 (by omega)
    replace hr_y := hr_y.upd U27 (by omega)
    replace hT := hT.upd U27 (by omega)
    have b29a := b29.at_
    refine ops_val rfl rfl (fun _ hk => e_assign hk rfl ⟨rfl, rfl⟩) ?_
    refine ops_val rfl rfl (fun _ hk => e_assign hk rfl ⟨rfl, rfl⟩) ?_
    refine ops_end rfl ?_
    refine post_seq ?_
    refine J.sub [(2, .pointer (some ⟨g1, 0, none⟩)), (3, .int .i64 ((m : Nat) : Int)), (4, .bool true)] ⟨rfl, rfl, rfl, trivial⟩ ?_
    refine jp_ret rfl ?_
    refine post_ret [.agg #[x.lv, .int .i64 (x.v)], .int .i64 ((m : Nat) : Int), .bool true] (.tuple #[.agg #[x.lv, .int .i64 (x.v)], .int .i64 ((m : Nat) : Int), .bool true]) Try.results107 ⟨⟨_, _, rfl, run_loadVar_agg (cs := [x.lv, .int .i64 (x.v)]) Try.isAgg34 Try.sizeOf34 b29a⟩, rfl, rfl, trivial⟩ rfl ?_
    exact ⟨E0, rfl, y, _, hy, hT, hb, hg, hR, hS⟩

set_option maxHeartbeats 2000000 in
set_option maxRecDepth 100000 in
theorem grow_spec (o : Int) (v : Value) (ll : List LR) (la ha lo hi : Nat) (w : World) (hL : SlT LR.cs 1 w la ha v ll) (hR : Rws w lo hi ll) (hS : Small 1000000000 (lls ll)) (nl : ll.length ≤ 1000000000) (hH : hi ≤ w.heap.size) :
    Calls Try.prog 106 #[.int .i64 o, v] w (Ret fun res w' => Ext w w' ∧ ∃ t lv wd bv bs p top, res = .pointer (some ⟨t, 0, none⟩) ∧ Tree w' w.heap.size top t o lv ll wd bv bs ∧ wd = 2 ^ p ∧ wd ≤ 2000000000 ∧ ll.length ≤ wd ∧ bs.length = 2 * wd ∧ AllGood o (lls ll) wd bs) := by
  refine calls_of_J Try.func106 rfl (N := 91) rfl rfl ?_
  have htl := hL.top
  have E0 : Ext w w := Ext.rfl'
  refine jp_seq [false] [true] rfl rfl rfl ?_
  refine j_region rfl ?_
  refine ops_val rfl rfl (fun _ hk => e_assign hk rfl ⟨rfl, rfl⟩) ?_
  refine ops_end rfl ?_
  refine post_seq ?_
  refine jp_seq [true, false] [true, true] rfl rfl rfl ?_
  refine j_region rfl ?_
  refine ops_val rfl rfl (fun _ hk => e_move hk rfl ⟨rfl, rfl⟩) ?_
  refine ops_val rfl rfl (fun _ hk => e_move hk rfl ⟨rfl, rfl⟩) ?_
  refine ops_rel (fun r_ w' => Own LR.cs 1 27 w' w.heap.size r_ ll ∧ ∃ a b, Upd a b w w' ∧ ((a = 0 ∧ b = 0) ∨ (((Value.slice none 0 0)).ownBlock = some a ∧ b = a + 1 ∧ w.heap.size ≤ a)) ∧ (r_.ownBlock = ((Value.slice none 0 0)).ownBlock ∨ r_.ownBlock = some w.heap.size)) rfl rfl (fun _ hk => e_append (cs := LR.cs) (z := 1) (base := w.heap.size) hk rfl rfl und_22 infz_27 rfl (by decide) (Own.nil _ w.heap.size) hL (fun x hx => ⟨(hR x hx).sl.one, trivial⟩) (by unfold maxLen; simp only [List.length_append, List.length_cons, List.length_nil]; omega) (by simp only [List.length_append, List.length_cons, List.length_nil]; omega) (by omega) (fun v_ w_ h1 h2 h3 => ⟨h1, by obtain ⟨a, b, h4, h5⟩ := h2; exact ⟨a, b, h4, h5, h3⟩⟩)) ?_
  rintro v1 w2 ⟨ho3, a5, b6, U4, hU4, nv1⟩
  replace hU4 : a5 = 0 ∧ b6 = 0 := by rcases hU4 with h | ⟨h, _⟩; exact h; cases h
  have zU4 := U4.size
  replace E0 := Ext.then_ E0 U4 (by omega)
  replace hL := hL.upd U4 (by omega)
  replace hR := hR.upd U4 (by omega)
  have lt_ho3 := fun g h => (ho3.lt (g := g) h).2
  refine ops_val rfl rfl (fun _ hk => e_build2 [0, 1, 2] [.tmp 8, .tmp 10, .const (.int .i64 1)] (.agg #[.int .i64 o, v1, .int .i64 1, .slice none 0 0]) hk rfl rfl (by obtain ⟨_, _, e1_⟩ := ho3.sl.len; rw [e1_]; intro _; kernel_rfl) ⟨rfl, rfl⟩) ?_
  refine ops_rel (fun r_ w' => ∃ g, r_ = .pointer (some ⟨g, 0, none⟩) ∧ New w2 w' g 189 [.int .i64 o, v1, .int .i64 1, .slice none 0 0]) rfl rfl (fun _ hk => e_box hk rfl (fun g w' n => ⟨g, rfl, n⟩)) ?_
  rintro _ w8 ⟨g7, rfl, N9⟩
  have EN9 := N9.ext
  have nN9 := N9.num
  have sN9 := N9.size
  have zEN9 := EN9.size
  replace E0 := E0.trans EN9
  replace hL := hL.ext EN9
  replace hR := hR.ext EN9
  replace ho3 := ho3.ext EN9
  have b10 := N9.box
  have b10a := b10.at_
  refine ops_val rfl rfl (fun _ hk => e_assign hk rfl ⟨rfl, rfl⟩) ?_
  refine ops_end rfl ?_
  refine post_seq ?_
  refine jp_seq [true, true, false] [true, true, true] rfl rfl rfl ?_
  refine jp_block [true, true, false, false] rfl rfl ?_
  refine jp_loop (fun (g : Nat × Nat) => [(1, v), (4, .pointer none), (5, .pointer (some ⟨g7, 0, none⟩))]) (fun (g : Nat × Nat) (wl : World) => (Upd g7 (g7 + 1) w8 wl) ∧ (Box wl g7 189 [.int .i64 o, v1, .int .i64 ((g.1 : Nat) : Int), .slice none 0 0]) ∧ (g.1 = 2 ^ g.2) ∧ (g.1 ≤ 2000000000)) (fun (g : Nat × Nat) => ll.length - g.1) [true, true, false, false, false] ((1, 0)) rfl rfl ⟨rfl, rfl, rfl, trivial⟩ ⟨Upd.refl _ _ _, b10, rfl, by omega⟩ ?_
  rintro ⟨wd, p⟩ w12 ⟨E11, hb, hp, hw⟩
  replace hb : Box w12 g7 189 [.int .i64 o, v1, .int .i64 ((wd : Nat) : Int), .slice none 0 0] := hb
  replace hp : wd = 2 ^ p := hp
  replace hw : wd ≤ 2000000000 := hw
  have zE11 := E11.size
  replace E0 := Ext.then_ E0 E11 (by omega)
  replace hL := hL.upd E11 (by omega)
  replace hR := hR.upd E11 (by omega)
  replace ho3 := Own.upd ho3 E11 (fun g hg => by first | (have := lt_ho3 g hg; omega) | (have := ho3.ne_box b10 (by decide) hg; omega))
  refine J.sub [(1, v), (4, .pointer none), (5, .pointer (some ⟨g7, 0, none⟩))] ⟨rfl, rfl, rfl, trivial⟩ ?_
  refine jp_seq [true, true, false, false, false, false] [true, true, false, false, false, true] rfl rfl rfl ?_
  refine jp_seq [true, true, false, false, false, false, false] [true, true, false, false, false, false, true] rfl rfl rfl ?_
  refine j_region rfl ?_
  refine ops_val rfl rfl (fun _ hk => e_move hk rfl ⟨rfl, rfl⟩) ?_
  refine ops_val rfl rfl (fun _ hk => e_nilCheck hk rfl ⟨rfl, rfl⟩) ?_
  refine ops_val rfl rfl (fun _ hk => e_fieldAddr hk rfl (fa_189_2 _ _) ⟨rfl, rfl⟩) ?_
  refine ops_val rfl rfl (fun _ hk => e_load1 hk rfl Try.isAgg3 (hb.at_.cell 2 rfl) ⟨rfl, rfl⟩) ?_
  refine ops_val rfl rfl (fun _ hk => e_move hk rfl ⟨rfl, rfl⟩) ?_
  refine ops_val rfl rfl (fun _ hk => e_len hk rfl Try.runUnderlying22 hL.len ⟨rfl, rfl⟩) ?_
  refine ops_val rfl rfl (fun _ hk => e_lss hk rfl rfl rfl ⟨rfl, rfl⟩) ?_
  refine ops_end rfl ?_
  refine post_seq ?_
  refine jp_cond [true, true, false, false, false, false, true, false] [true, true, false, false, false, false, true, true] rfl rfl rfl rfl (fun hc13 => ?_) (fun hc13 => ?_)
  · replace hc13 := of_decide_eq_true hc13
    refine jp_skip rfl ?_
    refine post_seq ?_
    refine jp_block [true, true, false, false, false, true, false] rfl rfl ?_
    refine j_region rfl ?_
    refine ops_val rfl rfl (fun _ hk => e_move hk rfl ⟨rfl, rfl⟩) ?_
    refine ops_val rfl rfl (fun _ hk => e_nilCheck hk rfl ⟨rfl, rfl⟩) ?_
    refine ops_val rfl rfl (fun _ hk => e_fieldAddr hk rfl (fa_189_2 _ _) ⟨rfl, rfl⟩) ?_
    refine ops_val rfl rfl (fun _ hk => e_load1 hk rfl Try.isAgg3 (hb.at_.cell 2 rfl) ⟨rfl, rfl⟩) ?_
    refine ops_val rfl rfl (fun _ hk => e_mul hk rfl rfl (w64eq (c := ((wd * 2 : Nat) : Int)) (by omega) (by omega)) ⟨rfl, rfl⟩) ?_
    refine ops_val rfl rfl (fun _ hk => e_nilCheck hk rfl ⟨rfl, rfl⟩) ?_
    refine ops_val rfl rfl (fun _ hk => e_fieldAddr hk rfl (fa_189_2 _ _) ⟨rfl, rfl⟩) ?_
    refine ops_rel (fun _ w' => Box w' g7 189 [.int .i64 o, v1, .int .i64 ((wd * 2 : Nat) : Int), .slice none 0 0] ∧ Upd g7 (g7 + 1) w12 w' ∧ w'.heap.size = w12.heap.size) rfl rfl (fun _ hk => e_store hk rfl rfl Try.sizeOf3 hb (Nat.le_of_ble_eq_true rfl) ⟨rfl, trivial⟩ (fun w' h1 h2 h3 => ⟨h1, h2, h3⟩)) ?_
    rintro _ w14 ⟨b17, U15, z16⟩
    have zU15 := U15.size
    replace E0 := Ext.then_ E0 U15 (by omega)
    replace hL := hL.upd U15 (by omega)
    replace hR := hR.upd U15 (by omega)
    replace ho3 := Own.upd ho3 U15 (fun g hg => by first | (have := lt_ho3 g hg; omega) | (have := ho3.ne_box hb (by decide) hg; omega))
    replace E11 := Upd.then_ E11 U15 (by omega)
    have b17a := b17.at_
    refine ops_end rfl ?_
    refine post_block ?_
    exact post_loop ((wd * 2, p + 1)) ⟨rfl, rfl, rfl, trivial⟩ ⟨E11, b17, by rw [Nat.pow_succ, ← hp], by omega⟩ (by have := Nat.two_pow_pos p; omega)
  · replace hc13 := of_decide_eq_false hc13
    refine jp_exit rfl ?_
    refine post_seq_exit ?_
    refine post_loop_exit ?_
    refine post_block_exit ?_
    refine post_seq ?_
    refine J.sub [(4, .pointer none), (5, .pointer (some ⟨g7, 0, none⟩))] ⟨rfl, rfl, trivial⟩ ?_
    refine jp_seq [true, true, true, false] [true, true, true, true] rfl rfl rfl ?_
    refine j_region rfl ?_
    refine ops_val rfl rfl (fun _ hk => e_move hk rfl ⟨rfl, rfl⟩) ?_
    refine ops_val rfl rfl (fun _ hk => e_move hk rfl ⟨rfl, rfl⟩) ?_
    refine ops_val rfl rfl (fun _ hk => e_nilCheck hk rfl ⟨rfl, rfl⟩) ?_
    refine ops_val rfl rfl (fun _ hk => e_fieldAddr hk rfl (fa_189_2 _ _) ⟨rfl, rfl⟩) ?_
    refine ops_val rfl rfl (fun _ hk => e_load1 hk rfl Try.isAgg3 (hb.at_.cell 2 rfl) ⟨rfl, rfl⟩) ?_
    refine ops_val rfl rfl (fun _ hk => e_mul hk rfl rfl (w64eq (c := ((2 * wd : Nat) : Int)) (by omega) (by omega)) ⟨rfl, rfl⟩) ?_
    refine ops_rel (fun r_ w' => Own natCs 1 3 w' w.heap.size r_ (List.replicate (2 * wd) 0) ∧ Ext w12 w' ∧ r_.ownBlock = some w12.heap.size ∧ w'.heap.size = w12.heap.size + 1 ∧ bl r_ = w12.heap.size) rfl rfl (fun _ hk => e_makeOwn (cs := natCs) (z := 1) (base := w.heap.size) (n := 2 * wd) (d := 0) hk rfl rfl Try.runUnderlying25 inf_3 Try.zeroValue3 rfl rfl (by omega) (by omega) (by omega) (by omega) (by omega) (fun v_ w_ h1 h2 h3 h4 h5 => ⟨h1, h2, h3, h4, h5⟩)) ?_
    rintro v18 w19 ⟨ho20, E21, nb_v18, sz_v18, bl_v18⟩
    have zE21 := E21.size
    replace E0 := E0.trans E21
    replace hL := hL.ext E21
    replace hR := hR.ext E21
    replace ho3 := ho3.ext E21
    replace hb := hb.ext E21
    have lt_ho20 := fun g h => (ho20.lt (g := g) h).2
    refine ops_val rfl rfl (fun _ hk => e_nilCheck hk rfl ⟨rfl, rfl⟩) ?_
    refine ops_val rfl rfl (fun _ hk => e_fieldAddr hk rfl (fa_189_3 _ _) ⟨rfl, rfl⟩) ?_
    refine ops_rel (fun _ w' => Box w' g7 189 [.int .i64 o, v1, .int .i64 ((wd : Nat) : Int), v18] ∧ Upd g7 (g7 + 1) w19 w' ∧ w'.heap.size = w19.heap.size) rfl rfl (fun _ hk => e_store1 hk rfl rfl Try.sizeOf25 hb (Nat.le_of_ble_eq_true rfl) ho20.sl.one (fun w' h1 h2 h3 => ⟨h1, h2, h3⟩)) ?_
    rintro _ w22 ⟨b25, U23, z24⟩
    have zU23 := U23.size
    replace E0 := Ext.then_ E0 U23 (by omega)
    replace hL := hL.upd U23 (by omega)
    replace hR := hR.upd U23 (by omega)
    replace ho3 := Own.upd ho3 U23 (fun g hg => by first | (have := lt_ho3 g hg; omega) | (have := ho3.ne_box hb (by decide) hg; omega))
    replace ho20 := Own.upd ho20 U23 (fun g hg => by first | (have := lt_ho20 g hg; omega) | (have := ho20.ne_box hb (by decide) hg; omega))
    have b25a := b25.at_
    refine ops_end rfl ?_
    refine post_seq ?_
    refine J.sub [(4, .pointer none), (5, .pointer (some ⟨g7, 0, none⟩))] ⟨rfl, rfl, trivial⟩ ?_
    refine jp_seq [true, true, true, true, false] [true, true, true, true, true] rfl rfl rfl ?_
    refine jp_seq [true, true, true, true, false, false] [true, true, true, true, false, true] rfl rfl rfl ?_
    refine j_region rfl ?_
    refine ops_val rfl rfl (fun _ hk => e_move hk rfl ⟨rfl, rfl⟩) ?_
    refine ops_val rfl rfl (fun _ hk => e_nilCheck hk rfl ⟨rfl, rfl⟩) ?_
    refine ops_val rfl rfl (fun _ hk => e_fieldAddr hk rfl (fa_189_2 _ _) ⟨rfl, rfl⟩) ?_
    refine ops_val rfl rfl (fun _ hk => e_load1 hk rfl Try.isAgg3 (b25a.cell 2 rfl) ⟨rfl, rfl⟩) ?_
    refine ops_val rfl rfl (fun _ hk => e_move hk rfl ⟨rfl, rfl⟩) ?_
    refine ops_end rfl ?_
    refine post_seq ?_
    refine jp_block [true, true, true, true, false, true, false] rfl rfl ?_
    have hwp := Nat.two_pow_pos p
    refine jp_loop (fun (g : Nat × List Nat) => [(4, .pointer none), (5, .pointer (some ⟨g7, 0, none⟩)), (39, .int .i64 ((wd : Nat) : Int)), (40, .int .i64 ((g.1 : Nat) : Int))]) (fun (g : Nat × List Nat) (wl : World) => (Upd w.heap.size w22.heap.size w22 wl) ∧ (Tree wl w.heap.size w22.heap.size g7 o v1 ll wd v18 g.2) ∧ ((g.2).length = 2 * wd) ∧ (g.1 ≤ wd) ∧ (∀ j, j < g.1 → (g.2)[wd + j]? = some j)) (fun (g : Nat × List Nat) => wd - g.1) [true, true, true, true, false, true, false, false] ((0, (List.replicate (2 * wd) 0))) rfl rfl ⟨rfl, rfl, rfl, rfl, trivial⟩ ⟨Upd.refl _ _ _, Tree.mk b25 (by omega) (by omega) ho3 ho20 (fun g hg => (ho3.lt hg).2) (fun g hg => (ho20.lt hg).2) (Nat.le_refl _), by rw [List.length_replicate], by omega, fun j hj => absurd hj (Nat.not_lt_zero j)⟩ ?_
    rintro ⟨k, c⟩ w27 ⟨E26, hT, hc, hk, hs⟩
    replace hT : Tree w27 w.heap.size w22.heap.size g7 o v1 ll wd v18 c := hT
    replace hc : (c).length = 2 * wd := hc
    replace hk : k ≤ wd := hk
    replace hs : ∀ j, j < k → (c)[wd + j]? = some j := hs
    have zE26 := E26.size
    replace E0 := Ext.then_ E0 E26 (by omega)
    replace hL := hL.upd E26 (by omega)
    replace hR := hR.upd E26 (by omega)
    refine J.sub [(4, .pointer none), (5, .pointer (some ⟨g7, 0, none⟩)), (39, .int .i64 ((wd : Nat) : Int)), (40, .int .i64 ((k : Nat) : Int))] ⟨rfl, rfl, rfl, rfl, trivial⟩ ?_
    refine jp_seq [true, true, true, true, false, true, false, false, false] [true, true, true, true, false, true, false, false, true] rfl rfl rfl ?_
    refine j_region rfl ?_
    refine ops_val rfl rfl (fun _ hk => e_lss hk rfl rfl rfl ⟨rfl, rfl⟩) ?_
    refine ops_end rfl ?_
    refine post_seq ?_
    refine jp_seq [true, true, true, true, false, true, false, false, true, false] [true, true, true, true, false, true, false, false, true, true] rfl rfl rfl ?_
    refine jp_cond [true, true, true, true, false, true, false, false, true, false, false] [true, true, true, true, false, true, false, false, true, false, true] rfl rfl rfl rfl (fun hc28 => ?_) (fun hc28 => ?_)
    · replace hc28 := of_decide_eq_true hc28
      refine jp_skip rfl ?_
      refine post_seq ?_
      refine jp_seq [true, true, true, true, false, true, false, false, true, true, false] [true, true, true, true, false, true, false, false, true, true, true] rfl rfl rfl ?_
      refine jp_block [true, true, true, true, false, true, false, false, true, true, false, false] rfl rfl ?_
      refine jp_seq [true, true, true, true, false, true, false, false, true, true, false, false, false] [true, true, true, true, false, true, false, false, true, true, false, false, true] rfl rfl rfl ?_
      refine j_region rfl ?_
      refine ops_val rfl rfl (fun _ hk => e_move hk rfl ⟨rfl, rfl⟩) ?_
      refine ops_val rfl rfl (fun _ hk => e_assign hk rfl ⟨rfl, rfl⟩) ?_
      refine ops_end rfl ?_
      refine post_seq ?_
      refine J.sub [(4, .pointer none), (5, .pointer (some ⟨g7, 0, none⟩)), (6, .int .i64 ((k : Nat) : Int)), (39, .int .i64 ((wd : Nat) : Int)), (40, .int .i64 ((k : Nat) : Int)), (41, .bool (decide (((k : Nat) : Int) < ((wd : Nat) : Int)))), (42, .int .i64 ((k : Nat) : Int))] ⟨rfl, rfl, rfl, rfl, rfl, rfl, rfl, trivial⟩ ?_
      refine wp_draw 11 mixed rfl rfl ?_
      refine dr_val rfl rfl (fun ρ_ w_ E_ hk _ => e_move hk rfl ⟨Ext.rfl', rfl⟩) ?_
      refine dr_val rfl rfl (fun ρ_ w_ E_ hk _ => e_nilCheck hk rfl ⟨Ext.rfl', rfl⟩) ?_
      refine dr_val rfl rfl (fun ρ_ w_ E_ hk _ => e_fieldAddr hk rfl (fa_189_3 _ _) ⟨Ext.rfl', rfl⟩) ?_
      refine dr_val rfl rfl (fun ρ_ w_ E_ hk _ => e_load1 hk rfl Try.isAgg25 ((hT.ext E_).at_.cell 3 rfl) ⟨Ext.rfl', rfl⟩) ?_
      refine dr_val rfl rfl (fun ρ_ w_ E_ hk _ => e_move hk rfl ⟨Ext.rfl', rfl⟩) ?_
      refine dr_val rfl rfl (fun ρ_ w_ E_ hk _ => e_nilCheck hk rfl ⟨Ext.rfl', rfl⟩) ?_
      refine dr_val rfl rfl (fun ρ_ w_ E_ hk _ => e_fieldAddr hk rfl (fa_189_2 _ _) ⟨Ext.rfl', rfl⟩) ?_
      refine dr_val rfl rfl (fun ρ_ w_ E_ hk _ => e_load1 hk rfl Try.isAgg3 ((hT.ext E_).at_.cell 2 rfl) ⟨Ext.rfl', rfl⟩) ?_
      refine dr_val rfl rfl (fun ρ_ w_ E_ hk _ => e_move hk rfl ⟨Ext.rfl', rfl⟩) ?_
      refine dr_val rfl rfl (fun ρ_ w_ E_ hk _ => e_add hk rfl rfl (w64eq (c := ((wd + k : Nat) : Int)) (by omega) (by omega)) ⟨Ext.rfl', rfl⟩) ?_
      refine dr_val rfl rfl (fun ρ_ w_ E_ hk _ => e_move hk rfl ⟨Ext.rfl', rfl⟩) ?_
      refine dr_end rfl (fun w29 E30 => ?_)
      have zE30 := E30.size
      replace E0 := E0.trans E30
      replace hL := hL.ext E30
      replace hR := hR.ext E30
      replace hT := hT.ext E30
      replace E26 := E26.trans (Upd.of_ext _ _ E30)
      refine Ops.sub [(4, .pointer none), (5, .pointer (some ⟨g7, 0, none⟩)), (6, .int .i64 ((k : Nat) : Int)), (39, .int .i64 ((wd : Nat) : Int)), (40, .int .i64 ((k : Nat) : Int)), (41, .bool (decide (((k : Nat) : Int) < ((wd : Nat) : Int)))), (42, .int .i64 ((k : Nat) : Int)), (43, .pointer (some ⟨g7, 0, none⟩)), (44, .pointer (some ⟨g7, 0, none⟩)), (45, .pointer (some ⟨g7, 3, none⟩)), (46, v18), (47, .pointer (some ⟨g7, 0, none⟩)), (48, .pointer (some ⟨g7, 0, none⟩)), (49, .pointer (some ⟨g7, 2, none⟩)), (50, .int .i64 ((wd : Nat) : Int)), (51, .int .i64 ((k : Nat) : Int)), (52, .int .i64 ((wd + k : Nat) : Int)), (53, .int .i64 ((k : Nat) : Int))] ⟨rfl, rfl, rfl, rfl, rfl, rfl, rfl, rfl, rfl, rfl, rfl, rfl, rfl, rfl, rfl, rfl, rfl, rfl, trivial⟩ ?_
      obtain ⟨x1, hx1⟩ := get_some c (wd + k) (by omega)
      have A31 := hT.bsl.at_ hx1
      have qA31 := hT.bsl.block (by omega)
      refine ops_val rfl rfl (fun _ hk => e_indexAddr (k := wd + k) hk rfl rfl Try.runUnderlying25 Try.sizeOf3 (hT.bsl.has (by omega)) (by omega) ⟨rfl, rfl⟩) ?_
      refine ops_rel (fun _ w' => Tree w' w.heap.size w22.heap.size g7 o v1 ll wd v18 ((c.set (wd + k) k)) ∧ Upd w.heap.size w22.heap.size w29 w' ∧ w'.heap.size = w29.heap.size) rfl rfl (fun _ hk => e_setBest hk rfl rfl Try.sizeOf3 hT (by omega) (fun w_ h1 h2 h3 => ⟨h1, h2, h3⟩)) ?_
      rintro _ w32 ⟨hnU33, U33, szU33⟩
      have zU33 := U33.size
      replace E0 := Ext.then_ E0 U33 (by omega)
      replace hL := hL.upd U33 (by omega)
      replace hR := hR.upd U33 (by omega)
      replace E26 := Upd.then_ E26 U33 (by omega)
      replace hT := hnU33
      refine ops_end rfl ?_
      refine post_block ?_
      refine post_seq ?_
      refine j_region rfl ?_
      refine ops_val rfl rfl (fun _ hk => e_add hk rfl rfl (w64eq (c := ((k + 1 : Nat) : Int)) (by omega) (by omega)) ⟨rfl, rfl⟩) ?_
      refine ops_val rfl rfl (fun _ hk => e_move hk rfl ⟨rfl, rfl⟩) ?_
      refine ops_end rfl ?_
      exact post_loop ((k + 1, (c.set (wd + k) k))) ⟨rfl, rfl, rfl, rfl, trivial⟩ ⟨E26, hT, by rw [List.length_set]; exact hc, by omega, set_step hs (by omega)⟩ (by omega)
    · replace hc28 := of_decide_eq_false hc28
      refine jp_exit rfl ?_
      refine post_seq_exit ?_
      refine post_loop_exit ?_
      refine post_block_exit ?_
      refine post_seq ?_
      refine jp_seq [true, true, true, true, true, false] [true, true, true, true, true, true] rfl rfl rfl ?_
      refine jp_seq [true, true, true, true, true, false, false] [true, true, true, true, true, false, true] rfl rfl rfl ?_
      refine j_region rfl ?_
      refine ops_val rfl rfl (fun _ hk => e_move hk rfl ⟨rfl, rfl⟩) ?_
      refine ops_val rfl rfl (fun _ hk => e_nilCheck hk rfl ⟨rfl, rfl⟩) ?_
      refine ops_val rfl rfl (fun _ hk => e_fieldAddr hk rfl (fa_189_2 _ _) ⟨rfl, rfl⟩) ?_
      refine ops_val rfl rfl (fun _ hk => e_load1 hk rfl Try.isAgg3 (hT.at_.cell 2 rfl) ⟨rfl, rfl⟩) ?_
      refine ops_val rfl rfl (fun _ hk => e_sub hk rfl rfl (w64eq (c := (((wd : Nat) : Int) - 1)) (by omega) (by omega)) ⟨rfl, rfl⟩) ?_
      refine ops_val rfl rfl (fun _ hk => e_assign hk rfl ⟨rfl, rfl⟩) ?_
      refine ops_end rfl ?_
      refine post_seq ?_
      refine J.sub [(4, .pointer none), (5, .pointer (some ⟨g7, 0, none⟩)), (7, .int .i64 (((wd : Nat) : Int) - 1))] ⟨rfl, rfl, rfl, trivial⟩ ?_
      refine jp_block [true, true, true, true, true, false, true, false] rfl rfl ?_
      refine jp_loop (fun (g : Nat × List Nat) => [(4, .pointer none), (5, .pointer (some ⟨g7, 0, none⟩)), (7, .int .i64 ((g.1 : Nat) : Int))]) (fun (g : Nat × List Nat) (wl : World) => (Upd w.heap.size w22.heap.size w27 wl) ∧ (Tree wl w.heap.size w22.heap.size g7 o v1 ll wd v18 g.2) ∧ ((g.2).length = 2 * wd) ∧ (g.1 < wd) ∧ (Making o (lls ll) wd g.2 g.1)) (fun (g : Nat × List Nat) => g.1) [true, true, true, true, true, false, true, false, false] ((wd - 1, c)) rfl rfl ⟨rfl, rfl, (congrArg (fun n => some (Value.int .i64 n)) (by omega)), trivial⟩ ⟨Upd.refl _ _ _, hT, hc, by omega, Making.first (fun j hj => hs j (by omega))⟩ ?_
      rintro ⟨a, c⟩ w35 ⟨E34, hT, hc, ha, hm⟩
      replace hT : Tree w35 w.heap.size w22.heap.size g7 o v1 ll wd v18 c := hT
      replace hc : (c).length = 2 * wd := hc
      replace ha : a < wd := ha
      replace hm : Making o (lls ll) wd c a := hm
      have zE34 := E34.size
      replace E0 := Ext.then_ E0 E34 (by omega)
      replace hL := hL.upd E34 (by omega)
      replace hR := hR.upd E34 (by omega)
      refine J.sub [(4, .pointer none), (5, .pointer (some ⟨g7, 0, none⟩)), (7, .int .i64 ((a : Nat) : Int))] ⟨rfl, rfl, rfl, trivial⟩ ?_
      refine jp_seq [true, true, true, true, true, false, true, false, false, false] [true, true, true, true, true, false, true, false, false, true] rfl rfl rfl ?_
      refine jp_seq [true, true, true, true, true, false, true, false, false, false, false] [true, true, true, true, true, false, true, false, false, false, true] rfl rfl rfl ?_
      refine j_region rfl ?_
      refine ops_val rfl rfl (fun _ hk => e_move hk rfl ⟨rfl, rfl⟩) ?_
      refine ops_val rfl rfl (fun _ hk => e_gtr hk rfl rfl rfl ⟨rfl, rfl⟩) ?_
      refine ops_end rfl ?_
      refine post_seq ?_
      refine jp_cond [true, true, true, true, true, false, true, false, false, false, true, false] [true, true, true, true, true, false, true, false, false, false, true, true] rfl rfl rfl rfl (fun hc36 => ?_) (fun hc36 => ?_)
      · replace hc36 := of_decide_eq_true hc36
        refine jp_skip rfl ?_
        refine post_seq ?_
        refine jp_seq [true, true, true, true, true, false, true, false, false, true, false] [true, true, true, true, true, false, true, false, false, true, true] rfl rfl rfl ?_
        refine jp_block [true, true, true, true, true, false, true, false, false, true, false, false] rfl rfl ?_
        refine J.sub [(4, .pointer none), (5, .pointer (some ⟨g7, 0, none⟩)), (7, .int .i64 ((a : Nat) : Int)), (61, .int .i64 ((a : Nat) : Int)), (62, .bool (decide (0 < ((a : Nat) : Int))))] ⟨rfl, rfl, rfl, rfl, rfl, trivial⟩ ?_
        refine wp_draw 24 mixed rfl rfl ?_
        refine dr_val rfl rfl (fun ρ_ w_ E_ hk _ => e_move hk rfl ⟨Ext.rfl', rfl⟩) ?_
        refine dr_val rfl rfl (fun ρ_ w_ E_ hk _ => e_nilCheck hk rfl ⟨Ext.rfl', rfl⟩) ?_
        refine dr_val rfl rfl (fun ρ_ w_ E_ hk _ => e_fieldAddr hk rfl (fa_189_3 _ _) ⟨Ext.rfl', rfl⟩) ?_
        refine dr_val rfl rfl (fun ρ_ w_ E_ hk _ => e_load1 hk rfl Try.isAgg25 ((hT.ext E_).at_.cell 3 rfl) ⟨Ext.rfl', rfl⟩) ?_
        refine dr_val rfl rfl (fun ρ_ w_ E_ hk _ => e_move hk rfl ⟨Ext.rfl', rfl⟩) ?_
        refine dr_val rfl rfl (fun ρ_ w_ E_ hk _ => e_move hk rfl ⟨Ext.rfl', rfl⟩) ?_
        refine dr_val rfl rfl (fun ρ_ w_ E_ hk _ => e_move hk rfl ⟨Ext.rfl', rfl⟩) ?_
        refine dr_val rfl rfl (fun ρ_ w_ E_ hk _ => e_nilCheck hk rfl ⟨Ext.rfl', rfl⟩) ?_
        refine dr_val rfl rfl (fun ρ_ w_ E_ hk _ => e_fieldAddr hk rfl (fa_189_3 _ _) ⟨Ext.rfl', rfl⟩) ?_
        refine dr_val rfl rfl (fun ρ_ w_ E_ hk _ => e_load1 hk rfl Try.isAgg25 ((hT.ext E_).at_.cell 3 rfl) ⟨Ext.rfl', rfl⟩) ?_
        refine dr_val rfl rfl (fun ρ_ w_ E_ hk _ => e_move hk rfl ⟨Ext.rfl', rfl⟩) ?_
        refine dr_val rfl rfl (fun ρ_ w_ E_ hk _ => e_mul hk rfl rfl (w64eq (c := ((2 * a : Nat) : Int)) (by omega) (by omega)) ⟨Ext.rfl', rfl⟩) ?_
        obtain ⟨x2, hx2⟩ := get_some c (2 * a) (by omega)
        have A37 := hT.bsl.at_ hx2
        have qA37 := hT.bsl.block (by omega)
        refine dr_val rfl rfl (fun ρ_ w_ E_ hk _ => e_indexAddr (k := 2 * a) hk rfl rfl Try.runUnderlying25 Try.sizeOf3 (hT.bsl.has (by omega)) (by omega) ⟨Ext.rfl', rfl⟩) ?_
        refine dr_val rfl rfl (fun ρ_ w_ E_ hk _ => e_load1 hk rfl Try.isAgg3 ((A37.ext E_).cell 0 rfl) ⟨Ext.rfl', rfl⟩) ?_
        refine dr_val rfl rfl (fun ρ_ w_ E_ hk _ => e_move hk rfl ⟨Ext.rfl', rfl⟩) ?_
        refine dr_val rfl rfl (fun ρ_ w_ E_ hk _ => e_nilCheck hk rfl ⟨Ext.rfl', rfl⟩) ?_
        refine dr_val rfl rfl (fun ρ_ w_ E_ hk _ => e_fieldAddr hk rfl (fa_189_3 _ _) ⟨Ext.rfl', rfl⟩) ?_
        refine dr_val rfl rfl (fun ρ_ w_ E_ hk _ => e_load1 hk rfl Try.isAgg25 ((hT.ext E_).at_.cell 3 rfl) ⟨Ext.rfl', rfl⟩) ?_
        refine dr_val rfl rfl (fun ρ_ w_ E_ hk _ => e_move hk rfl ⟨Ext.rfl', rfl⟩) ?_
        refine dr_val rfl rfl (fun ρ_ w_ E_ hk _ => e_mul hk rfl rfl (w64eq (c := ((2 * a : Nat) : Int)) (by omega) (by omega)) ⟨Ext.rfl', rfl⟩) ?_
        refine dr_val rfl rfl (fun ρ_ w_ E_ hk _ => e_add hk rfl rfl (w64eq (c := (((2 * a) + 1 : Nat) : Int)) (by omega) (by omega)) ⟨Ext.rfl', rfl⟩) ?_
        obtain ⟨x3, hx3⟩ := get_some c ((2 * a) + 1) (by omega)
        have A38 := hT.bsl.at_ hx3
        have qA38 := hT.bsl.block (by omega)
        refine dr_val rfl rfl (fun ρ_ w_ E_ hk _ => e_indexAddr (k := (2 * a) + 1) hk rfl rfl Try.runUnderlying25 Try.sizeOf3 (hT.bsl.has (by omega)) (by omega) ⟨Ext.rfl', rfl⟩) ?_
        refine dr_val rfl rfl (fun ρ_ w_ E_ hk _ => e_load1 hk rfl Try.isAgg3 ((A38.ext E_).cell 0 rfl) ⟨Ext.rfl', rfl⟩) ?_
        refine dr_val rfl rfl (fun ρ_ w_ E_ hk _ => e_call hk rfl Try.call146 (first_spec _ _ _ _ _ _ _ _ _ _ _ x2 x3 _ (hT.ext E_) (hR.ext E_) hS (by omega) (Nat.le_trans (by omega : hi ≤ w35.heap.size) E_.size)) (fun _ _ h => h)) ?_
        refine dr_end rfl (fun w39 E40 => ?_)
        have zE40 := E40.size
        replace E0 := E0.trans E40
        replace hL := hL.ext E40
        replace hR := hR.ext E40
        replace hT := hT.ext E40
        replace E34 := E34.trans (Upd.of_ext _ _ E40)
        replace A37 := A37.ext E40
        replace A38 := A38.ext E40
        refine Ops.sub [(4, .pointer none), (5, .pointer (some ⟨g7, 0, none⟩)), (7, .int .i64 ((a : Nat) : Int)), (61, .int .i64 ((a : Nat) : Int)), (62, .bool (decide (0 < ((a : Nat) : Int)))), (65, .pointer (some ⟨g7, 0, none⟩)), (66, .pointer (some ⟨g7, 0, none⟩)), (67, .pointer (some ⟨g7, 3, none⟩)), (68, v18), (69, .int .i64 ((a : Nat) : Int)), (70, .pointer (some ⟨g7, 0, none⟩)), (71, .pointer (some ⟨g7, 0, none⟩)), (72, .pointer (some ⟨g7, 0, none⟩)), (73, .pointer (some ⟨g7, 3, none⟩)), (74, v18), (75, .int .i64 ((a : Nat) : Int)), (76, .int .i64 ((2 * a : Nat) : Int)), (77, .pointer (some ⟨bl v18, of_ v18 + (2 * a) * 1, none⟩)), (78, .int .i64 ((x2 : Nat) : Int)), (79, .pointer (some ⟨g7, 0, none⟩)), (80, .pointer (some ⟨g7, 0, none⟩)), (81, .pointer (some ⟨g7, 3, none⟩)), (82, v18), (83, .int .i64 ((a : Nat) : Int)), (84, .int .i64 ((2 * a : Nat) : Int)), (85, .int .i64 (((2 * a) + 1 : Nat) : Int)), (86, .pointer (some ⟨bl v18, of_ v18 + ((2 * a) + 1) * 1, none⟩)), (87, .int .i64 ((x3 : Nat) : Int)), (88, .int .i64 (((firstN o (lls ll) x2 x3) : Nat) : Int))] ⟨rfl, rfl, rfl, rfl, rfl, rfl, rfl, rfl, rfl, rfl, rfl, rfl, rfl, rfl, rfl, rfl, rfl, rfl, rfl, rfl, rfl, rfl, rfl, rfl, rfl, rfl, rfl, rfl, rfl, trivial⟩ ?_
        obtain ⟨x4, hx4⟩ := get_some c (a) (by omega)
        have A41 := hT.bsl.at_ hx4
        have qA41 := hT.bsl.block (by omega)
        refine ops_val rfl rfl (fun _ hk => e_indexAddr (k := a) hk rfl rfl Try.runUnderlying25 Try.sizeOf3 (hT.bsl.has (by omega)) (by omega) ⟨rfl, rfl⟩) ?_
        refine ops_rel (fun _ w' => Tree w' w.heap.size w22.heap.size g7 o v1 ll wd v18 ((c.set a ((firstN o (lls ll) x2 x3)))) ∧ Upd w.heap.size w22.heap.size w39 w' ∧ w'.heap.size = w39.heap.size) rfl rfl (fun _ hk => e_setBest hk rfl rfl Try.sizeOf3 hT (by omega) (fun w_ h1 h2 h3 => ⟨h1, h2, h3⟩)) ?_
        rintro _ w42 ⟨hnU43, U43, szU43⟩
        have zU43 := U43.size
        replace E0 := Ext.then_ E0 U43 (by omega)
        replace hL := hL.upd U43 (by omega)
        replace hR := hR.upd U43 (by omega)
        replace E34 := Upd.then_ E34 U43 (by omega)
        replace hT := hnU43
        refine ops_end rfl ?_
        refine post_block ?_
        refine post_seq ?_
        refine j_region rfl ?_
        refine ops_val rfl rfl (fun _ hk => e_move hk rfl ⟨rfl, rfl⟩) ?_
        refine ops_val rfl rfl (fun _ hk => e_sub hk rfl rfl (w64eq (c := (((a : Nat) : Int) - 1)) (by omega) (by omega)) ⟨rfl, rfl⟩) ?_
        refine ops_val rfl rfl (fun _ hk => e_assign hk rfl ⟨rfl, rfl⟩) ?_
        refine ops_end rfl ?_
        exact post_loop ((a - 1, (c.set a ((firstN o (lls ll) x2 x3))))) ⟨rfl, rfl, (congrArg (fun n => some (Value.int .i64 n)) (by omega)), trivial⟩ ⟨E34, hT, by rw [List.length_set]; exact hc, by omega, hm.next hp (by omega) (by omega) hc hx2 hx3⟩ (by omega)
      · replace hc36 := of_decide_eq_false hc36
        refine jp_exit rfl ?_
        refine post_seq_exit ?_
        refine post_loop_exit ?_
        refine post_block_exit ?_
        refine post_seq ?_
        refine jp_seq [true, true, true, true, true, true, false] [true, true, true, true, true, true, true] rfl rfl rfl ?_
        refine j_region rfl ?_
        refine ops_val rfl rfl (fun _ hk => e_move hk rfl ⟨rfl, rfl⟩) ?_
        refine ops_val rfl rfl (fun _ hk => e_assign hk rfl ⟨rfl, rfl⟩) ?_
        refine ops_end rfl ?_
        refine post_seq ?_
        refine jp_ret rfl ?_
        refine post_ret [.pointer (some ⟨g7, 0, none⟩)] (.pointer (some ⟨g7, 0, none⟩)) Try.results106 ⟨rfl, trivial⟩ rfl ?_
        obtain rfl : a = 0 := by omega
        exact ⟨E0, _, _, wd, _, c, p, _, rfl, hT, hp, hw, by omega, hc, hm.last⟩

set_option maxHeartbeats 2000000 in
set_option maxRecDepth 100000 in
theorem all_spec (o : Int) (v : Value) (ll : List LR) (la ha lo hi : Nat) (w : World) (hL : SlT LR.cs 1 w la ha v ll) (hR : Rws w lo hi ll) (hS : Small 1000000000 (lls ll)) (nl : ll.length ≤ 1000000000) (nt : total (lls ll) ≤ 1000000000) (hH : hi ≤ w.heap.size) :
    Calls Try.prog 45 #[.int .i64 o, v] w (Ret fun res w' => Ext w w' ∧ ∃ ov hv rs hs, res = .tuple #[ov, hv] ∧ Run o (lls ll) rs hs ∧ Own RowD.cs 2 34 w' w.heap.size ov rs ∧ Own natCs 1 3 w' w.heap.size hv hs ∧ Labs w' lo hi rs) := by
  refine calls_of_J Try.func45 rfl (N := 33) rfl rfl ?_
  have htl := hL.top
  have E0 : Ext w w := Ext.rfl'
  refine jp_seq [false] [true] rfl rfl rfl ?_
  refine j_region rfl ?_
  refine ops_val rfl rfl (fun _ hk => e_assign hk rfl ⟨rfl, rfl⟩) ?_
  refine ops_val rfl rfl (fun _ hk => e_assign hk rfl ⟨rfl, rfl⟩) ?_
  refine ops_end rfl ?_
  refine post_seq ?_
  refine jp_seq [true, false] [true, true] rfl rfl rfl ?_
  refine j_region rfl ?_
  refine ops_val rfl rfl (fun _ hk => e_move hk rfl ⟨rfl, rfl⟩) ?_
  refine ops_val rfl rfl (fun _ hk => e_move hk rfl ⟨rfl, rfl⟩) ?_
  refine ops_rel _ rfl rfl (fun _ hk => e_call hk rfl Try.call106 (grow_spec o _ ll _ _ _ _ _ hL hR hS (by omega) (by omega)) (fun _ _ h => h)) ?_
  rintro _ w1 ⟨E2, t, lv, wd, bv, bs, p, top, rfl, hT, hp, hwd, hlw, hb, hg⟩
  have zE2 := E2.size
  replace E0 := E0.trans E2
  replace hL := hL.ext E2
  replace hR := hR.ext E2
  have htop := hT.top_
  have hT0 : w.heap.size ≤ top := by have := hT.t0; have := hT.t1; omega
  have hwp := Nat.two_pow_pos p
  refine ops_val rfl rfl (fun _ hk => e_assign hk rfl ⟨rfl, rfl⟩) ?_
  refine ops_end rfl ?_
  refine post_seq ?_
  refine jp_seq [true, true, false] [true, true, true] rfl rfl rfl ?_
  refine j_region rfl ?_
  refine ops_val rfl rfl (fun _ hk => e_assign hk rfl ⟨rfl, rfl⟩) ?_
  refine ops_end rfl ?_
  refine post_seq ?_
  refine jp_seq [true, true, true, false] [true, true, true, true] rfl rfl rfl ?_
  refine j_region rfl ?_
  refine ops_val rfl rfl (fun _ hk => e_assign hk rfl ⟨rfl, rfl⟩) ?_
  refine ops_end rfl ?_
  refine post_seq ?_
  refine jp_block [true, true, true, true, false] rfl rfl ?_
  refine jp_loop (fun (g : Value × Value × List RowD × List Nat × List LR × List Nat) => [(6, .pointer (some ⟨t, 0, none⟩)), (7, g.1), (8, g.2.1)]) (fun (g : Value × Value × List RowD × List Nat × List LR × List Nat) (wl : World) => (Upd w.heap.size top w1 wl) ∧ (Tree wl w.heap.size top t o lv g.2.2.2.2.1 wd bv g.2.2.2.2.2) ∧ (RunTo o (lls ll) (lls g.2.2.2.2.1) g.2.2.1 g.2.2.2.1) ∧ (Own RowD.cs 2 34 wl w1.heap.size g.1 g.2.2.1) ∧ (Own natCs 1 3 wl w1.heap.size g.2.1 g.2.2.2.1) ∧ ((g.2.2.2.2.2).length = 2 * wd) ∧ (AllGood o (lls g.2.2.2.2.1) wd g.2.2.2.2.2) ∧ (Rws wl lo hi g.2.2.2.2.1) ∧ (Small 1000000000 (lls g.2.2.2.2.1)) ∧ (Labs wl lo hi g.2.2.1)) (fun (g : Value × Value × List RowD × List Nat × List LR × List Nat) => total (lls g.2.2.2.2.1)) [true, true, true, true, false, false] ((.slice none 0 0, .slice none 0 0, [], [], ll, bs)) rfl rfl ⟨rfl, rfl, rfl, trivial⟩ ⟨Upd.refl _ _ _, hT, RunTo.zero, Own.nil _ _, Own.nil _ _, hb, hg, hR, hS, Labs.nil⟩ ?_
  rintro ⟨ov, hv, rs, hs, l1, b1⟩ w4 ⟨E3, hT, hrun, ho1, ho2, hb, hg, hR, hS, hlab⟩
  replace hT : Tree w4 w.heap.size top t o lv l1 wd bv b1 := hT
  replace hrun : RunTo o (lls ll) (lls l1) rs hs := hrun
  replace ho1 : Own RowD.cs 2 34 w4 w1.heap.size ov rs := ho1
  replace ho2 : Own natCs 1 3 w4 w1.heap.size hv hs := ho2
  replace hb : (b1).length = 2 * wd := hb
  replace hg : AllGood o (lls l1) wd b1 := hg
  replace hR : Rws w4 lo hi l1 := hR
  replace hS : Small 1000000000 (lls l1) := hS
  replace hlab : Labs w4 lo hi rs := hlab
  have zE3 := E3.size
  replace E0 := Ext.then_ E0 E3 (by omega)
  replace hL := hL.upd E3 (by omega)
  refine J.sub [(6, .pointer (some ⟨t, 0, none⟩)), (7, ov), (8, hv)] ⟨rfl, rfl, rfl, trivial⟩ ?_
  obtain ⟨m, hm, hmw, hwin⟩ := hg.win hp (by rw [hrun.length.2.2, lls_length]; omega)
  have lt_ho1 := fun g h => (ho1.lt (g := g) h).2
  have lt_ho2 := fun g h => (ho2.lt (g := g) h).2
  have hlen := hrun.length
  have hl1 : l1.length = ll.length := by have := hlen.2.2; rwa [lls_length, lls_length] at this
  rcases hh : hd (lls l1) m with _ | x
  · skip
    refine jp_block [true, true, true, true, false, false, false] rfl rfl ?_
    refine jp_seq [true, true, true, true, false, false, false, false] [true, true, true, true, false, false, false, true] rfl rfl rfl ?_
    refine j_region rfl ?_
    refine ops_val rfl rfl (fun _ hk => e_move hk rfl ⟨rfl, rfl⟩) ?_
    refine ops_rel _ rfl rfl (fun _ hk => e_call hk rfl Try.call107 (next_none _ _ _ _ _ _ _ _ _ _ _ _ hT hR hS (by omega) (by omega) _ m hp (by omega) (by omega) hb hg hm hmw hh) (fun _ _ h => h)) ?_
    rintro _ w5 ⟨E6, rfl⟩
    have zE6 := E6.size
    replace E0 := E0.trans E6
    replace hL := hL.ext E6
    replace hT := hT.ext E6
    replace hR := hR.ext E6
    replace hlab := hlab.ext E6
    replace ho1 := ho1.ext E6
    replace ho2 := ho2.ext E6
    replace E3 := E3.trans (Upd.of_ext _ _ E6)
    refine ops_val rfl rfl (fun _ hk => e_move hk rfl ⟨rfl, rfl⟩) ?_
    refine ops_val rfl rfl (fun _ hk => e_extract hk rfl rfl ⟨rfl, rfl⟩) ?_
    refine ops_val rfl rfl (fun _ hk => e_extract hk rfl rfl ⟨rfl, rfl⟩) ?_
    refine ops_val rfl rfl (fun _ hk => e_extract hk rfl rfl ⟨rfl, rfl⟩) ?_
    refine ops_rel (fun r_ w' => ∃ g, r_ = .pointer (some ⟨g, 0, none⟩) ∧ New w5 w' g 34 [.slice none 0 0, .int .i64 0]) rfl rfl (fun _ hk => e_alloc Try.zeroValue34 (fun g w' n => ⟨g, rfl, n⟩)) ?_
    rintro _ w8 ⟨g7, rfl, N9⟩
    have EN9 := N9.ext
    have nN9 := N9.num
    have sN9 := N9.size
    have zEN9 := EN9.size
    replace E0 := E0.trans EN9
    replace hL := hL.ext EN9
    replace hT := hT.ext EN9
    replace hR := hR.ext EN9
    replace hlab := hlab.ext EN9
    replace ho1 := ho1.ext EN9
    replace ho2 := ho2.ext EN9
    replace E3 := E3.trans (Upd.of_ext _ _ EN9)
    have b10 := N9.box
    have b10a := b10.at_
    refine ops_rel (fun _ w' => Box w' g7 34 [.slice none 0 0, .int .i64 0] ∧ Upd g7 (g7 + 1) w8 w' ∧ w'.heap.size = w8.heap.size) rfl rfl (fun _ hk => e_store hk rfl rfl Try.sizeOf34 b10 (Nat.le_of_ble_eq_true rfl) ⟨rfl, rfl, trivial⟩ (fun w' h1 h2 h3 => ⟨h1, h2, h3⟩)) ?_
    rintro _ w11 ⟨b14, U12, z13⟩
    have zU12 := U12.size
    replace E0 := Ext.then_ E0 U12 (by omega)
    replace hL := hL.upd U12 (by omega)
    replace hT := hT.upd U12 (by omega)
    replace hR := hR.upd U12 (by omega)
    replace hlab := hlab.upd U12 (by omega)
    replace ho1 := Own.upd ho1 U12 (fun g hg => by first | (have := lt_ho1 g hg; omega) | (have := ho1.ne_box b10 (by decide) hg; omega))
    replace ho2 := Own.upd ho2 U12 (fun g hg => by first | (have := lt_ho2 g hg; omega) | (have := ho2.ne_box b10 (by decide) hg; omega))
    replace E3 := Upd.then_ E3 U12 (by omega)
    have b14a := b14.at_
    refine ops_val rfl rfl (fun _ hk => e_assign hk rfl ⟨rfl, rfl⟩) ?_
    refine ops_val rfl rfl (fun _ hk => e_assign hk rfl ⟨rfl, rfl⟩) ?_
    refine ops_end rfl ?_
    refine post_seq ?_
    refine jp_seq [true, true, true, true, false, false, false, true, false] [true, true, true, true, false, false, false, true, true] rfl rfl rfl ?_
    refine jp_seq [true, true, true, true, false, false, false, true, false, false] [true, true, true, true, false, false, false, true, false, true] rfl rfl rfl ?_
    refine j_region rfl ?_
    refine ops_val rfl rfl (fun _ hk => e_move hk rfl ⟨rfl, rfl⟩) ?_
    refine ops_val rfl rfl (fun _ hk => e_not hk rfl ⟨rfl, rfl⟩) ?_
    refine ops_end rfl ?_
    refine post_seq ?_
    refine jp_cond_t [true, true, true, true, false, false, false, true, false, true, false] rfl rfl rfl ?_
    refine jp_seq [true, true, true, true, false, false, false, true, false, true, false, false] [true, true, true, true, false, false, false, true, false, true, false, true] rfl rfl rfl ?_
    refine j_region rfl ?_
    refine ops_val rfl rfl (fun _ hk => e_move hk rfl ⟨rfl, rfl⟩) ?_
    refine ops_val rfl rfl (fun _ hk => e_move hk rfl ⟨rfl, rfl⟩) ?_
    refine ops_val rfl rfl (fun _ hk => e_assign hk rfl ⟨rfl, rfl⟩) ?_
    refine ops_val rfl rfl (fun _ hk => e_assign hk rfl ⟨rfl, rfl⟩) ?_
    refine ops_end rfl ?_
    refine post_seq ?_
    refine jp_ret rfl ?_
    refine post_seq_ret ?_
    refine post_block_ret ?_
    refine post_loop_ret ?_
    refine post_block_ret ?_
    refine post_ret [ov, hv] (.tuple #[ov, hv]) Try.results45 ⟨rfl, rfl, trivial⟩ rfl ?_
    exact ⟨E0, ov, hv, rs, hs, rfl, hrun.run (fun j => by rcases e : hd (lls l1) j with _ | y; rfl; obtain ⟨x, hx, _⟩ := hwin j y e; rw [hh] at hx; cases hx), ho1.base_le (by omega), ho2.base_le (by omega), hlab⟩
  · skip
    have hlx := hR.lab hh
    have htp := total_pop hh
    refine jp_block [true, true, true, true, false, false, false] rfl rfl ?_
    refine jp_seq [true, true, true, true, false, false, false, false] [true, true, true, true, false, false, false, true] rfl rfl rfl ?_
    refine j_region rfl ?_
    refine ops_val rfl rfl (fun _ hk => e_move hk rfl ⟨rfl, rfl⟩) ?_
    refine ops_rel _ rfl rfl (fun _ hk => e_call hk rfl Try.call107 (next_some _ _ _ _ _ _ _ _ _ _ _ _ hT hR hS (by omega) (by omega) _ m hp (by omega) (by omega) hb hg hm hmw x hh) (fun _ _ h => h)) ?_
    rintro _ w16 ⟨E17, rfl, y, bs15, hy, hT, hb, hg, hR, hS⟩
    have zE17 := E17.size
    replace E0 := Ext.then_ E0 E17 (by omega)
    replace hL := hL.upd E17 (by omega)
    replace hlab := hlab.upd E17 (by omega)
    replace ho1 := Own.upd ho1 E17 (fun g hg => by have := ho1.lt hg; omega)
    replace ho2 := Own.upd ho2 E17 (fun g hg => by have := ho2.lt hg; omega)
    replace E3 := Upd.then_ E3 E17 (by omega)
    replace hlx := hlx.upd E17 (by omega)
    refine ops_val rfl rfl (fun _ hk => e_move hk rfl ⟨rfl, rfl⟩) ?_
    refine ops_val rfl rfl (fun _ hk => e_extract hk rfl rfl ⟨rfl, rfl⟩) ?_
    refine ops_val rfl rfl (fun _ hk => e_extract hk rfl rfl ⟨rfl, rfl⟩) ?_
    refine ops_val rfl rfl (fun _ hk => e_extract hk rfl rfl ⟨rfl, rfl⟩) ?_
    refine ops_rel (fun r_ w' => ∃ g, r_ = .pointer (some ⟨g, 0, none⟩) ∧ New w16 w' g 34 [.slice none 0 0, .int .i64 0]) rfl rfl (fun _ hk => e_alloc Try.zeroValue34 (fun g w' n => ⟨g, rfl, n⟩)) ?_
    rintro _ w19 ⟨g18, rfl, N20⟩
    have EN20 := N20.ext
    have nN20 := N20.num
    have sN20 := N20.size
    have zEN20 := EN20.size
    replace E0 := E0.trans EN20
    replace hL := hL.ext EN20
    replace hlab := hlab.ext EN20
    replace ho1 := ho1.ext EN20
    replace ho2 := ho2.ext EN20
    replace E3 := E3.trans (Upd.of_ext _ _ EN20)
    replace hlx := hlx.ext EN20
    replace hT := hT.ext EN20
    replace hR := hR.ext EN20
    have b21 := N20.box
    have b21a := b21.at_
    refine ops_rel (fun _ w' => Box w' g18 34 [x.lv, .int .i64 (x.v)] ∧ Upd g18 (g18 + 1) w19 w' ∧ w'.heap.size = w19.heap.size) rfl rfl (fun _ hk => e_store hk rfl rfl Try.sizeOf34 b21 (Nat.le_of_ble_eq_true rfl) ⟨hlx.one, rfl, trivial⟩ (fun w' h1 h2 h3 => ⟨h1, h2, h3⟩)) ?_
    rintro _ w22 ⟨b25, U23, z24⟩
    have zU23 := U23.size
    replace E0 := Ext.then_ E0 U23 (by omega)
    replace hL := hL.upd U23 (by omega)
    replace hlab := hlab.upd U23 (by omega)
    replace ho1 := Own.upd ho1 U23 (fun g hg => by first | (have := lt_ho1 g hg; omega) | (have := ho1.ne_box b21 (by decide) hg; omega))
    replace ho2 := Own.upd ho2 U23 (fun g hg => by first | (have := lt_ho2 g hg; omega) | (have := ho2.ne_box b21 (by decide) hg; omega))
    replace E3 := Upd.then_ E3 U23 (by omega)
    replace hlx := hlx.upd U23 (by omega)
    replace hT := hT.upd U23 (by omega)
    replace hR := hR.upd U23 (by omega)
    have b25a := b25.at_
    refine ops_val rfl rfl (fun _ hk => e_assign hk rfl ⟨rfl, rfl⟩) ?_
    refine ops_val rfl rfl (fun _ hk => e_assign hk rfl ⟨rfl, rfl⟩) ?_
    refine ops_end rfl ?_
    refine post_seq ?_
    refine jp_seq [true, true, true, true, false, false, false, true, false] [true, true, true, true, false, false, false, true, true] rfl rfl rfl ?_
    refine jp_seq [true, true, true, true, false, false, false, true, false, false] [true, true, true, true, false, false, false, true, false, true] rfl rfl rfl ?_
    refine j_region rfl ?_
    refine ops_val rfl rfl (fun _ hk => e_move hk rfl ⟨rfl, rfl⟩) ?_
    refine ops_val rfl rfl (fun _ hk => e_not hk rfl ⟨rfl, rfl⟩) ?_
    refine ops_end rfl ?_
    refine post_seq ?_
    refine jp_cond_f [true, true, true, true, false, false, false, true, false, true, true] rfl rfl rfl ?_
    refine jp_skip rfl ?_
    refine post_seq ?_
    refine j_region rfl ?_
    refine ops_val rfl rfl (fun _ hk => e_move hk rfl ⟨rfl, rfl⟩) ?_
    refine ops_val rfl rfl (fun _ hk => e_loadA (cs := [x.lv, .int .i64 (x.v)]) hk rfl Try.isAgg34 Try.sizeOf34 b25a ⟨rfl, rfl⟩) ?_
    refine ops_rel (fun r_ w' => ∃ g, r_ = .slice (some ⟨g, 0, none⟩) 1 1 ∧ New w22 w' g 34 [x.lv, .int .i64 (x.v)]) rfl rfl (fun _ hk => e_buildSlice [.tmp 26] [[x.lv, .int .i64 (x.v)]] hk rfl rfl Try.runUnderlying27 Try.sizeOf34 Try.zeroValue34 rfl rfl rfl rfl ⟨rfl, rfl, trivial⟩ (fun g w' n => ⟨g, rfl, n⟩)) ?_
    rintro _ w27 ⟨g26, rfl, N28⟩
    have EN28 := N28.ext
    have nN28 := N28.num
    have sN28 := N28.size
    have zEN28 := EN28.size
    replace E0 := E0.trans EN28
    replace hL := hL.ext EN28
    replace hlab := hlab.ext EN28
    replace ho1 := ho1.ext EN28
    replace ho2 := ho2.ext EN28
    replace E3 := E3.trans (Upd.of_ext _ _ EN28)
    replace hlx := hlx.ext EN28
    replace hT := hT.ext EN28
    replace hR := hR.ext EN28
    replace b25 := b25.ext EN28
    replace b25a := b25a.ext EN28
    have b29 := N28.box
    have b29a := b29.at_
    have b29s := At.sl (cs := RowD.cs) (z := 2) (xs := [x]) b29a rfl (by intro x _; rfl) rfl
    refine ops_rel (fun r_ w' => Own RowD.cs 2 34 w' w1.heap.size r_ (rs ++ [x]) ∧ ∃ a b, Upd a b w27 w' ∧ ((a = 0 ∧ b = 0) ∨ ((ov).ownBlock = some a ∧ b = a + 1 ∧ w1.heap.size ≤ a)) ∧ (r_.ownBlock = (ov).ownBlock ∨ r_.ownBlock = some w27.heap.size)) rfl rfl (fun _ hk => e_append (cs := RowD.cs) (z := 2) (base := w1.heap.size) hk rfl rfl und_27 infz_34 rfl (by decide) ho1 b29s (by intro r_ hr_; simp at hr_; subst hr_; exact ⟨hlx.one, rfl, trivial⟩) (by unfold maxLen; simp only [List.length_append, List.length_cons, List.length_nil]; omega) (by simp only [List.length_append, List.length_cons, List.length_nil]; omega) (by omega) (fun v_ w_ h1 h2 h3 => ⟨h1, by obtain ⟨a, b, h4, h5⟩ := h2; exact ⟨a, b, h4, h5, h3⟩⟩)) ?_
    rintro v30 w31 ⟨ho32, a34, b35, U33, hU33, nv30⟩
    have hzU33 : (a34 = 0 ∧ b35 = 0) ∨ (b35 = a34 + 1 ∧ w1.heap.size ≤ a34 ∧ a34 < w4.heap.size) := by rcases hU33 with h | ⟨h1, h2, h3⟩; exact .inl h; exact .inr ⟨h2, h3, lt_ho1 a34 h1⟩
    have zU33 := U33.size
    replace E0 := Ext.then_ E0 U33 (by omega)
    replace hL := hL.upd U33 (by omega)
    replace hlab := hlab.upd U33 (by omega)
    replace ho2 := Own.app ho2 ho1 (by decide) U33 hU33
    replace E3 := Upd.then_ E3 U33 (by omega)
    replace hlx := hlx.upd U33 (by omega)
    replace hT := hT.upd U33 (by omega)
    replace hR := hR.upd U33 (by omega)
    replace b25 := b25.upd U33 (by omega)
    replace b25a := b25a.upd U33 (by omega)
    replace b29 := b29.upd U33 (by omega)
    replace b29a := b29a.upd U33 (by omega)
    replace b29s := b29s.upd U33 (by omega)
    have lt_ho32 := fun g h => (ho32.lt (g := g) h).2
    refine ops_val rfl rfl (fun _ hk => e_move hk rfl ⟨rfl, rfl⟩) ?_
    refine ops_val rfl rfl (fun _ hk => e_move hk rfl ⟨rfl, rfl⟩) ?_
    refine ops_rel (fun r_ w' => ∃ g, r_ = .slice (some ⟨g, 0, none⟩) 1 1 ∧ New w31 w' g 3 [.int .i64 ((m : Nat) : Int)]) rfl rfl (fun _ hk => e_buildSlice [.tmp 30] [[.int .i64 ((m : Nat) : Int)]] hk rfl rfl Try.runUnderlying25 Try.sizeOf3 Try.zeroValue3 rfl rfl rfl rfl ⟨rfl, rfl, trivial⟩ (fun g w' n => ⟨g, rfl, n⟩)) ?_
    rintro _ w37 ⟨g36, rfl, N38⟩
    have EN38 := N38.ext
    have nN38 := N38.num
    have sN38 := N38.size
    have zEN38 := EN38.size
    replace E0 := E0.trans EN38
    replace hL := hL.ext EN38
    replace hlab := hlab.ext EN38
    replace ho2 := ho2.ext EN38
    replace E3 := E3.trans (Upd.of_ext _ _ EN38)
    replace hlx := hlx.ext EN38
    replace hT := hT.ext EN38
    replace hR := hR.ext EN38
    replace b25 := b25.ext EN38
    replace b25a := b25a.ext EN38
    replace b29 := b29.ext EN38
    replace b29a := b29a.ext EN38
    replace b29s := b29s.ext EN38
    replace ho32 := ho32.ext EN38
    have b39 := N38.box
    have b39a := b39.at_
    have b39s := At.sl (cs := natCs) (z := 1) (xs := [m]) b39a rfl (by intro x _; rfl) rfl
    refine ops_rel (fun r_ w' => Own natCs 1 3 w' w1.heap.size r_ (hs ++ [m]) ∧ ∃ a b, Upd a b w37 w' ∧ ((a = 0 ∧ b = 0) ∨ ((hv).ownBlock = some a ∧ b = a + 1 ∧ w1.heap.size ≤ a)) ∧ (r_.ownBlock = (hv).ownBlock ∨ r_.ownBlock = some w37.heap.size)) rfl rfl (fun _ hk => e_append (cs := natCs) (z := 1) (base := w1.heap.size) hk rfl rfl und_25 infz_3 rfl (by decide) ho2 b39s (fun _ _ => ⟨rfl, trivial⟩) (by unfold maxLen; simp only [List.length_append, List.length_cons, List.length_nil]; omega) (by simp only [List.length_append, List.length_cons, List.length_nil]; omega) (by omega) (fun v_ w_ h1 h2 h3 => ⟨h1, by obtain ⟨a, b, h4, h5⟩ := h2; exact ⟨a, b, h4, h5, h3⟩⟩)) ?_
    rintro v40 w41 ⟨ho42, a44, b45, U43, hU43, nv40⟩
    have hzU43 : (a44 = 0 ∧ b45 = 0) ∨ (b45 = a44 + 1 ∧ w1.heap.size ≤ a44 ∧ a44 < w4.heap.size) := by rcases hU43 with h | ⟨h1, h2, h3⟩; exact .inl h; exact .inr ⟨h2, h3, lt_ho2 a44 h1⟩
    have zU43 := U43.size
    replace E0 := Ext.then_ E0 U43 (by omega)
    replace hL := hL.upd U43 (by omega)
    replace hlab := hlab.upd U43 (by omega)
    replace E3 := Upd.then_ E3 U43 (by omega)
    replace hlx := hlx.upd U43 (by omega)
    replace hT := hT.upd U43 (by omega)
    replace hR := hR.upd U43 (by omega)
    replace b25 := b25.upd U43 (by omega)
    replace b25a := b25a.upd U43 (by omega)
    replace b29 := b29.upd U43 (by omega)
    replace b29a := b29a.upd U43 (by omega)
    replace b29s := b29s.upd U43 (by omega)
    replace ho32 := Own.app ho32 ho2 (by decide) U43 hU43
    replace b39 := b39.upd U43 (by omega)
    replace b39a := b39a.upd U43 (by omega)
    replace b39s := b39s.upd U43 (by omega)
    have lt_ho42 := fun g h => (ho42.lt (g := g) h).2
    refine ops_val rfl rfl (fun _ hk => e_assign hk rfl ⟨rfl, rfl⟩) ?_
    refine ops_val rfl rfl (fun _ hk => e_assign hk rfl ⟨rfl, rfl⟩) ?_
    refine ops_end rfl ?_
    refine post_block ?_
    exact post_loop ((v30, v40, (rs ++ [x]), (hs ++ [m]), (l1.set m y.pop1), bs15)) ⟨rfl, rfl, rfl, trivial⟩ ⟨E3, hT, by rw [lls_pop hy]; exact hrun.snoc hh hwin, ho32, ho42, hb, hg, hR, hS, hlab.snoc hlx⟩ (by show total (lls (l1.set m y.pop1)) < total (lls l1); rw [lls_pop hy]; omega)

set_option maxHeartbeats 2000000 in
set_option maxRecDepth 100000 in
theorem Heads_spec (o : Int) (v : Value) (ll : List LR) (la ha lo hi : Nat) (w : World) (hL : SlT LR.cs 1 w la ha v ll) (hR : Rws w lo hi ll) (hS : Small 1000000000 (lls ll)) (nl : ll.length ≤ 1000000000) (nt : total (lls ll) ≤ 1000000000) (hH : hi ≤ w.heap.size) :
    Calls Try.prog 14 #[.int .i64 o, v] w (Ret fun res w' => Ext w w' ∧ ∃ ov rs hs, Run o (lls ll) rs hs ∧ Own RowD.cs 2 34 w' w.heap.size ov rs ∧ Own natCs 1 3 w' w.heap.size res hs ∧ Labs w' lo hi rs) := by
  refine calls_of_J Try.func14 rfl (N := 14) rfl rfl ?_
  have htl := hL.top
  have E0 : Ext w w := Ext.rfl'
  refine jp_seq [false] [true] rfl rfl rfl ?_
  refine j_region rfl ?_
  refine ops_val rfl rfl (fun _ hk => e_assign hk rfl ⟨rfl, rfl⟩) ?_
  refine ops_end rfl ?_
  refine post_seq ?_
  refine jp_seq [true, false] [true, true] rfl rfl rfl ?_
  refine j_region rfl ?_
  refine ops_val rfl rfl (fun _ hk => e_move hk rfl ⟨rfl, rfl⟩) ?_
  refine ops_val rfl rfl (fun _ hk => e_move hk rfl ⟨rfl, rfl⟩) ?_
  refine ops_rel _ rfl rfl (fun _ hk => e_call hk rfl Try.call45 (all_spec o _ ll _ _ _ _ _ hL hR hS (by omega) (by omega) (by omega)) (fun _ _ h => h)) ?_
  rintro _ w1 ⟨E2, ov, hv, rs, hs, rfl, hrun, ho1, ho2, hlab⟩
  have zE2 := E2.size
  replace E0 := E0.trans E2
  replace hL := hL.ext E2
  replace hR := hR.ext E2
  refine ops_val rfl rfl (fun _ hk => e_move hk rfl ⟨rfl, rfl⟩) ?_
  refine ops_val rfl rfl (fun _ hk => e_extract hk rfl rfl ⟨rfl, rfl⟩) ?_
  refine ops_val rfl rfl (fun _ hk => e_extract hk rfl rfl ⟨rfl, rfl⟩) ?_
  refine ops_val rfl rfl (fun _ hk => e_assign hk rfl ⟨rfl, rfl⟩) ?_
  refine ops_val rfl rfl (fun _ hk => e_assign hk rfl ⟨rfl, rfl⟩) ?_
  refine ops_end rfl ?_
  refine post_seq ?_
  refine J.sub [(4, .slice none 0 0), (6, hv)] ⟨rfl, rfl, trivial⟩ ?_
  refine jp_seq [true, true, false] [true, true, true] rfl rfl rfl ?_
  refine j_region rfl ?_
  refine ops_val rfl rfl (fun _ hk => e_move hk rfl ⟨rfl, rfl⟩) ?_
  refine ops_val rfl rfl (fun _ hk => e_assign hk rfl ⟨rfl, rfl⟩) ?_
  refine ops_end rfl ?_
  refine post_seq ?_
  refine jp_ret rfl ?_
  refine post_ret [hv] (hv) Try.results14 ⟨rfl, trivial⟩ rfl ?_
  exact ⟨E0, ov, rs, hs, hrun, ho1, ho2, hlab⟩

set_option maxHeartbeats 2000000 in
set_option maxRecDepth 100000 in
theorem Rows_spec (o : Int) (v : Value) (ll : List LR) (la ha lo hi : Nat) (w : World) (hL : SlT LR.cs 1 w la ha v ll) (hR : Rws w lo hi ll) (hS : Small 1000000000 (lls ll)) (nl : ll.length ≤ 1000000000) (nt : total (lls ll) ≤ 1000000000) (hH : hi ≤ w.heap.size) :
    Calls Try.prog 16 #[.int .i64 o, v] w (Ret fun res w' => Ext w w' ∧ ∃ hv rs hs, Run o (lls ll) rs hs ∧ Own RowD.cs 2 34 w' w.heap.size res rs ∧ Own natCs 1 3 w' w.heap.size hv hs ∧ Labs w' lo hi rs) := by
  refine calls_of_J Try.func16 rfl (N := 14) rfl rfl ?_
  have htl := hL.top
  have E0 : Ext w w := Ext.rfl'
  refine jp_seq [false] [true] rfl rfl rfl ?_
  refine j_region rfl ?_
  refine ops_val rfl rfl (fun _ hk => e_assign hk rfl ⟨rfl, rfl⟩) ?_
  refine ops_end rfl ?_
  refine post_seq ?_
  refine jp_seq [true, false] [true, true] rfl rfl rfl ?_
  refine j_region rfl ?_
  refine ops_val rfl rfl (fun _ hk => e_move hk rfl ⟨rfl, rfl⟩) ?_
  refine ops_val rfl rfl (fun _ hk => e_move hk rfl ⟨rfl, rfl⟩) ?_
  refine ops_rel _ rfl rfl (fun _ hk => e_call hk rfl Try.call45 (all_spec o _ ll _ _ _ _ _ hL hR hS (by omega) (by omega) (by omega)) (fun _ _ h => h)) ?_
  rintro _ w1 ⟨E2, ov, hv, rs, hs, rfl, hrun, ho1, ho2, hlab⟩
  have zE2 := E2.size
  replace E0 := E0.trans E2
  replace hL := hL.ext E2
  replace hR := hR.ext E2
  refine ops_val rfl rfl (fun _ hk => e_move hk rfl ⟨rfl, rfl⟩) ?_
  refine ops_val rfl rfl (fun _ hk => e_extract hk rfl rfl ⟨rfl, rfl⟩) ?_
  refine ops_val rfl rfl (fun _ hk => e_extract hk rfl rfl ⟨rfl, rfl⟩) ?_
  refine ops_val rfl rfl (fun _ hk => e_assign hk rfl ⟨rfl, rfl⟩) ?_
  refine ops_val rfl rfl (fun _ hk => e_assign hk rfl ⟨rfl, rfl⟩) ?_
  refine ops_end rfl ?_
  refine post_seq ?_
  refine J.sub [(4, .slice none 0 0), (5, ov)] ⟨rfl, rfl, trivial⟩ ?_
  refine jp_seq [true, true, false] [true, true, true] rfl rfl rfl ?_
  refine j_region rfl ?_
  refine ops_val rfl rfl (fun _ hk => e_move hk rfl ⟨rfl, rfl⟩) ?_
  refine ops_val rfl rfl (fun _ hk => e_assign hk rfl ⟨rfl, rfl⟩) ?_
  refine ops_end rfl ?_
  refine post_seq ?_
  refine jp_ret rfl ?_
  refine post_ret [ov] (ov) Try.results16 ⟨rfl, trivial⟩ rfl ?_
  exact ⟨E0, hv, rs, hs, hrun, ho1, ho2, hlab⟩
end Lp
