/- Walks, printed by a program of mine (wip/tools/vc.py): each theorem says what a function of the translation hands back. -/
import Derived.Test.YtjhkajkickngmaaW1
set_option linter.unusedSimpArgs false
set_option linter.unusedVariables false
namespace Lp
open Go Go.RowKit Go.Proofs


theorem eq_lbl_eql (x y : Operand) (a b c d : ByteArray) (w : World) : (do eqGuard .eql 74 x y (.agg #[.string a, .string b]) (.agg #[.string c, .string d]); binOp .eql 74 (.agg #[.string a, .string b]) (.agg #[.string c, .string d]) : Sem Value).run Try.prog w = .ok (.bool (decide ((⟨a, b⟩ : Lbl) = ⟨c, d⟩))) w := by
  simp [go_sem, toList_beq]
  by_cases h1 : a = c <;> by_cases h2 : b = d <;> simp [h1, h2]

theorem eq_lbl_neq (x y : Operand) (a b c d : ByteArray) (w : World) : (do eqGuard .neq 74 x y (.agg #[.string a, .string b]) (.agg #[.string c, .string d]); binOp .neq 74 (.agg #[.string a, .string b]) (.agg #[.string c, .string d]) : Sem Value).run Try.prog w = .ok (.bool (decide ((⟨a, b⟩ : Lbl) ≠ ⟨c, d⟩))) w := by
  simp [go_sem, toList_beq]
  by_cases h1 : a = c <;> by_cases h2 : b = d <;> simp [h1, h2]

set_option maxHeartbeats 2000000 in
set_option maxRecDepth 100000 in
theorem SameLabels_spec (va vb : Value) (a b : List Lbl) (la ha lb hb : Nat) (w : World) (h1 : RLab w la ha va a) (h2 : RLab w lb hb vb b) (n1 : a.length ≤ 1000000000) (n2 : b.length ≤ 1000000000) :
    Calls Try.prog 37 #[va, vb] w (Ret fun res w' => Ext w w' ∧ res = .bool (decide (a = b))) := by
  refine calls_of_J Try.func37 rfl (N := 27) rfl rfl ?_
  have top_h1 := h1.top
  have top_h2 := h2.top
  have E0 : Ext w w := Ext.rfl'
  refine jp_seq [false] [true] rfl rfl rfl ?_
  refine j_region rfl ?_
  refine ops_val rfl rfl (fun _ hk => e_assign hk rfl ⟨rfl, rfl⟩) ?_
  refine ops_end rfl ?_
  refine post_seq ?_
  refine jp_seq [true, false] [true, true] rfl rfl rfl ?_
  refine jp_seq [true, false, false] [true, false, true] rfl rfl rfl ?_
  refine j_region rfl ?_
  refine ops_val rfl rfl (fun _ hk => e_move hk rfl ⟨rfl, rfl⟩) ?_
  refine ops_val rfl rfl (fun _ hk => e_len hk rfl Try.runUnderlying32 h1.len ⟨rfl, rfl⟩) ?_
  refine ops_val rfl rfl (fun _ hk => e_move hk rfl ⟨rfl, rfl⟩) ?_
  refine ops_val rfl rfl (fun _ hk => e_len hk rfl Try.runUnderlying32 h2.len ⟨rfl, rfl⟩) ?_
  refine ops_val rfl rfl (fun _ hk => e_neq hk rfl rfl rfl ⟨rfl, rfl⟩) ?_
  refine ops_end rfl ?_
  refine post_seq ?_
  refine jp_cond [true, false, true, false] [true, false, true, true] rfl rfl rfl rfl (fun hc1 => ?_) (fun hc1 => ?_)
  · replace hc1 := of_decide_eq_true hc1
    refine jp_seq [true, false, true, false, false] [true, false, true, false, true] rfl rfl rfl ?_
    refine j_region rfl ?_
    refine ops_val rfl rfl (fun _ hk => e_assign hk rfl ⟨rfl, rfl⟩) ?_
    refine ops_end rfl ?_
    refine post_seq ?_
    refine jp_ret rfl ?_
    refine post_seq_ret ?_
    refine post_ret [.bool false] (.bool false) Try.results37 ⟨rfl, trivial⟩ rfl ?_
    refine ⟨E0, congrArg Value.bool ?_⟩; first | (refine (decide_eq_false ?_).symm; rintro rfl; omega) | (symm; rw [decide_eq_true_eq]; rwa [List.take_of_length_le (by omega), List.take_of_length_le (by omega)] at hf)
  · replace hc1 := of_decide_eq_false hc1
    refine jp_skip rfl ?_
    refine post_seq ?_
    refine jp_seq [true, true, false] [true, true, true] rfl rfl rfl ?_
    refine jp_seq [true, true, false, false] [true, true, false, true] rfl rfl rfl ?_
    refine j_region rfl ?_
    refine ops_val rfl rfl (fun _ hk => e_assign hk rfl ⟨rfl, rfl⟩) ?_
    refine ops_end rfl ?_
    refine post_seq ?_
    refine jp_block [true, true, false, true, false] rfl rfl ?_
    refine jp_loop (fun (g : Nat) => [(0, va), (1, vb), (5, .int .i64 ((g : Nat) : Int))]) (fun (g : Nat) (wl : World) => (Ext w wl) ∧ (g ≤ a.length) ∧ (a.take g = b.take g)) (fun (g : Nat) => a.length - g) [true, true, false, true, false, false] (0) rfl rfl ⟨rfl, rfl, rfl, trivial⟩ ⟨Ext.rfl', Nat.zero_le _, by simp⟩ ?_
    rintro k w3 ⟨E2, hk, hf⟩
    have zE2 := E2.size
    replace E0 := E0.trans E2
    replace h1 := h1.ext E2
    replace h2 := h2.ext E2
    refine J.sub [(0, va), (1, vb), (5, .int .i64 ((k : Nat) : Int))] ⟨rfl, rfl, rfl, trivial⟩ ?_
    refine jp_seq [true, true, false, true, false, false, false] [true, true, false, true, false, false, true] rfl rfl rfl ?_
    refine jp_seq [true, true, false, true, false, false, false, false] [true, true, false, true, false, false, false, true] rfl rfl rfl ?_
    refine j_region rfl ?_
    refine ops_val rfl rfl (fun _ hk => e_move hk rfl ⟨rfl, rfl⟩) ?_
    refine ops_val rfl rfl (fun _ hk => e_move hk rfl ⟨rfl, rfl⟩) ?_
    refine ops_val rfl rfl (fun _ hk => e_len hk rfl Try.runUnderlying32 h1.len ⟨rfl, rfl⟩) ?_
    refine ops_val rfl rfl (fun _ hk => e_lss hk rfl rfl rfl ⟨rfl, rfl⟩) ?_
    refine ops_end rfl ?_
    refine post_seq ?_
    refine jp_cond [true, true, false, true, false, false, false, true, false] [true, true, false, true, false, false, false, true, true] rfl rfl rfl rfl (fun hc4 => ?_) (fun hc4 => ?_)
    · replace hc4 := of_decide_eq_true hc4
      refine jp_skip rfl ?_
      refine post_seq ?_
      refine jp_seq [true, true, false, true, false, false, true, false] [true, true, false, true, false, false, true, true] rfl rfl rfl ?_
      refine jp_block [true, true, false, true, false, false, true, false, false] rfl rfl ?_
      refine jp_seq [true, true, false, true, false, false, true, false, false, false] [true, true, false, true, false, false, true, false, false, true] rfl rfl rfl ?_
      refine J.sub [(0, va), (1, vb), (5, .int .i64 ((k : Nat) : Int)), (11, .int .i64 ((k : Nat) : Int)), (12, va), (13, .int .i64 ((a.length : Nat) : Int)), (14, .bool (decide (((k : Nat) : Int) < ((a.length : Nat) : Int))))] ⟨rfl, rfl, rfl, rfl, rfl, rfl, rfl, trivial⟩ ?_
      refine wp_draw 10 mixed rfl rfl ?_
      refine dr_val rfl rfl (fun ρ_ w_ E_ hk _ => e_move hk rfl ⟨Ext.rfl', rfl⟩) ?_
      refine dr_val rfl rfl (fun ρ_ w_ E_ hk _ => e_move hk rfl ⟨Ext.rfl', rfl⟩) ?_
      obtain ⟨x1, hx1⟩ := get_some a (k) (by omega)
      have A5 := h1.at_ hx1
      have qA5 := h1.block (by omega)
      refine dr_val rfl rfl (fun ρ_ w_ E_ hk _ => e_indexAddr (k := k) hk rfl rfl Try.runUnderlying32 Try.sizeOf74 (h1.has (by omega)) (by omega) ⟨Ext.rfl', rfl⟩) ?_
      refine dr_val rfl rfl (fun ρ_ w_ E_ hk _ => e_loadA (cs := [.string x1.n, .string x1.v]) hk rfl Try.isAgg74 Try.sizeOf74 (A5.ext E_) ⟨Ext.rfl', rfl⟩) ?_
      refine dr_val rfl rfl (fun ρ_ w_ E_ hk _ => e_move hk rfl ⟨Ext.rfl', rfl⟩) ?_
      refine dr_val rfl rfl (fun ρ_ w_ E_ hk _ => e_move hk rfl ⟨Ext.rfl', rfl⟩) ?_
      obtain ⟨x2, hx2⟩ := get_some b (k) (by omega)
      have A6 := h2.at_ hx2
      have qA6 := h2.block (by omega)
      refine dr_val rfl rfl (fun ρ_ w_ E_ hk _ => e_indexAddr (k := k) hk rfl rfl Try.runUnderlying32 Try.sizeOf74 (h2.has (by omega)) (by omega) ⟨Ext.rfl', rfl⟩) ?_
      refine dr_val rfl rfl (fun ρ_ w_ E_ hk _ => e_loadA (cs := [.string x2.n, .string x2.v]) hk rfl Try.isAgg74 Try.sizeOf74 (A6.ext E_) ⟨Ext.rfl', rfl⟩) ?_
      refine dr_val rfl rfl (fun ρ_ w_ E_ hk _ => e_bin (r := .bool (decide (x1 = x2))) hk rfl rfl (fun w => (eq_lbl_eql _ _ x1.n x1.v x2.n x2.v w).trans (congrArg (fun b => Result.ok (Value.bool b) w) rfl)) ⟨Ext.rfl', rfl⟩) ?_
      refine dr_val rfl rfl (fun ρ_ w_ E_ hk _ => e_not hk rfl ⟨Ext.rfl', rfl⟩) ?_
      refine dr_end rfl (fun w7 E8 => ?_)
      have zE8 := E8.size
      replace E0 := E0.trans E8
      replace h1 := h1.ext E8
      replace h2 := h2.ext E8
      replace E2 := E2.trans E8
      replace A5 := A5.ext E8
      replace A6 := A6.ext E8
      refine Ops.sub [(0, va), (1, vb), (5, .int .i64 ((k : Nat) : Int)), (11, .int .i64 ((k : Nat) : Int)), (12, va), (13, .int .i64 ((a.length : Nat) : Int)), (14, .bool (decide (((k : Nat) : Int) < ((a.length : Nat) : Int)))), (17, va), (18, .int .i64 ((k : Nat) : Int)), (19, .pointer (some ⟨bl va, of_ va + (k) * 2, none⟩)), (20, .agg #[.string x1.n, .string x1.v]), (21, vb), (22, .int .i64 ((k : Nat) : Int)), (23, .pointer (some ⟨bl vb, of_ vb + (k) * 2, none⟩)), (24, .agg #[.string x2.n, .string x2.v]), (25, .bool (decide (x1 = x2))), (26, .bool (!decide (x1 = x2)))] ⟨rfl, rfl, rfl, rfl, rfl, rfl, rfl, rfl, rfl, rfl, rfl, rfl, rfl, rfl, rfl, rfl, rfl, trivial⟩ ?_
      refine ops_end rfl ?_
      refine post_seq ?_
      refine jp_cond [true, true, false, true, false, false, true, false, false, true, false] [true, true, false, true, false, false, true, false, false, true, true] rfl rfl rfl rfl (fun hc9 => ?_) (fun hc9 => ?_)
      · simp only [Bool.and_eq_true, Bool.or_eq_true, Bool.not_eq_true', Bool.not_eq_false', Bool.and_eq_false_iff, Bool.or_eq_false_iff, decide_eq_true_eq, decide_eq_false_iff_not, Decidable.not_not, ne_eq] at hc9
        refine jp_seq [true, true, false, true, false, false, true, false, false, true, false, false] [true, true, false, true, false, false, true, false, false, true, false, true] rfl rfl rfl ?_
        refine j_region rfl ?_
        refine ops_val rfl rfl (fun _ hk => e_assign hk rfl ⟨rfl, rfl⟩) ?_
        refine ops_end rfl ?_
        refine post_seq ?_
        refine jp_ret rfl ?_
        refine post_block_ret ?_
        refine post_seq_ret ?_
        refine post_loop_ret ?_
        refine post_block_ret ?_
        refine post_seq_ret ?_
        refine post_ret [.bool false] (.bool false) Try.results37 ⟨rfl, trivial⟩ rfl ?_
        refine ⟨E0, congrArg Value.bool (decide_eq_false ?_).symm⟩; intro e; subst e; exact absurd (Option.some.inj (hx1.symm.trans hx2)) (by simpa using hc9)
      · simp only [Bool.and_eq_true, Bool.or_eq_true, Bool.not_eq_true', Bool.not_eq_false', Bool.and_eq_false_iff, Bool.or_eq_false_iff, decide_eq_true_eq, decide_eq_false_iff_not, Decidable.not_not, ne_eq] at hc9
        refine jp_skip rfl ?_
        refine post_block ?_
        refine post_seq ?_
        refine j_region rfl ?_
        refine ops_val rfl rfl (fun _ hk => e_move hk rfl ⟨rfl, rfl⟩) ?_
        refine ops_val rfl rfl (fun _ hk => e_add hk rfl rfl (w64eq (c := ((k + 1 : Nat) : Int)) (by omega) (by omega)) ⟨rfl, rfl⟩) ?_
        refine ops_val rfl rfl (fun _ hk => e_assign hk rfl ⟨rfl, rfl⟩) ?_
        refine ops_end rfl ?_
        exact post_loop (k + 1) ⟨rfl, rfl, rfl, trivial⟩ ⟨E2, by omega, by rw [take_snoc hx1, take_snoc hx2, hf, (by simpa using hc9 : x1 = x2)]⟩ (by omega)
    · replace hc4 := of_decide_eq_false hc4
      refine jp_exit rfl ?_
      refine post_seq_exit ?_
      refine post_loop_exit ?_
      refine post_block_exit ?_
      refine post_seq ?_
      refine J.sub [] trivial ?_
      refine jp_seq [true, true, true, false] [true, true, true, true] rfl rfl rfl ?_
      refine j_region rfl ?_
      refine ops_val rfl rfl (fun _ hk => e_assign hk rfl ⟨rfl, rfl⟩) ?_
      refine ops_end rfl ?_
      refine post_seq ?_
      refine jp_ret rfl ?_
      refine post_ret [.bool true] (.bool true) Try.results37 ⟨rfl, trivial⟩ rfl ?_
      refine ⟨E0, congrArg Value.bool ?_⟩; first | (refine (decide_eq_false ?_).symm; rintro rfl; omega) | (symm; rw [decide_eq_true_eq]; rwa [List.take_of_length_le (by omega), List.take_of_length_le (by omega)] at hf)

set_option maxHeartbeats 2000000 in
set_option maxRecDepth 100000 in
theorem SameRows_spec (va vb : Value) (a b : List RowD) (la ha lb hb : Nat) (w : World) (h1 : RRow w la ha va a) (h2 : RRow w lb hb vb b) (m1 : a.length ≤ 1000000000) (m2 : b.length ≤ 1000000000) (n1 : ∀ r ∈ a, r.ls.length ≤ 1000000000) (n2 : ∀ r ∈ b, r.ls.length ≤ 1000000000) :
    Calls Try.prog 15 #[va, vb] w (Ret fun res w' => Ext w w' ∧ res = .bool (sameR a b)) := by
  refine calls_of_J Try.func15 rfl (N := 42) rfl rfl ?_
  have top_h1 := h1.top
  have top_h2 := h2.top
  have E0 : Ext w w := Ext.rfl'
  refine jp_seq [false] [true] rfl rfl rfl ?_
  refine j_region rfl ?_
  refine ops_val rfl rfl (fun _ hk => e_assign hk rfl ⟨rfl, rfl⟩) ?_
  refine ops_end rfl ?_
  refine post_seq ?_
  refine jp_seq [true, false] [true, true] rfl rfl rfl ?_
  refine jp_seq [true, false, false] [true, false, true] rfl rfl rfl ?_
  refine j_region rfl ?_
  refine ops_val rfl rfl (fun _ hk => e_move hk rfl ⟨rfl, rfl⟩) ?_
  refine ops_val rfl rfl (fun _ hk => e_len hk rfl Try.runUnderlying27 h1.sl.len ⟨rfl, rfl⟩) ?_
  refine ops_val rfl rfl (fun _ hk => e_move hk rfl ⟨rfl, rfl⟩) ?_
  refine ops_val rfl rfl (fun _ hk => e_len hk rfl Try.runUnderlying27 h2.sl.len ⟨rfl, rfl⟩) ?_
  refine ops_val rfl rfl (fun _ hk => e_neq hk rfl rfl rfl ⟨rfl, rfl⟩) ?_
  refine ops_end rfl ?_
  refine post_seq ?_
  refine jp_cond [true, false, true, false] [true, false, true, true] rfl rfl rfl rfl (fun hc1 => ?_) (fun hc1 => ?_)
  · replace hc1 := of_decide_eq_true hc1
    refine jp_seq [true, false, true, false, false] [true, false, true, false, true] rfl rfl rfl ?_
    refine j_region rfl ?_
    refine ops_val rfl rfl (fun _ hk => e_assign hk rfl ⟨rfl, rfl⟩) ?_
    refine ops_end rfl ?_
    refine post_seq ?_
    refine jp_ret rfl ?_
    refine post_seq_ret ?_
    refine post_ret [.bool false] (.bool false) Try.results15 ⟨rfl, trivial⟩ rfl ?_
    refine ⟨E0, congrArg Value.bool ?_⟩; symm; first | exact keys_ne_len (by omega) | exact keys_eq_all (by omega) (by omega) hf
  · replace hc1 := of_decide_eq_false hc1
    refine jp_skip rfl ?_
    refine post_seq ?_
    refine jp_seq [true, true, false] [true, true, true] rfl rfl rfl ?_
    refine jp_seq [true, true, false, false] [true, true, false, true] rfl rfl rfl ?_
    refine j_region rfl ?_
    refine ops_val rfl rfl (fun _ hk => e_assign hk rfl ⟨rfl, rfl⟩) ?_
    refine ops_end rfl ?_
    refine post_seq ?_
    refine jp_block [true, true, false, true, false] rfl rfl ?_
    refine jp_loop (fun (g : Nat) => [(0, va), (1, vb), (5, .int .i64 ((g : Nat) : Int))]) (fun (g : Nat) (wl : World) => (Ext w wl) ∧ (g ≤ a.length) ∧ ((a.take g).map RowD.key = (b.take g).map RowD.key)) (fun (g : Nat) => a.length - g) [true, true, false, true, false, false] (0) rfl rfl ⟨rfl, rfl, rfl, trivial⟩ ⟨Ext.rfl', Nat.zero_le _, by simp⟩ ?_
    rintro k w3 ⟨E2, hk, hf⟩
    have zE2 := E2.size
    replace E0 := E0.trans E2
    replace h1 := h1.ext E2
    replace h2 := h2.ext E2
    refine J.sub [(0, va), (1, vb), (5, .int .i64 ((k : Nat) : Int))] ⟨rfl, rfl, rfl, trivial⟩ ?_
    refine jp_seq [true, true, false, true, false, false, false] [true, true, false, true, false, false, true] rfl rfl rfl ?_
    refine jp_seq [true, true, false, true, false, false, false, false] [true, true, false, true, false, false, false, true] rfl rfl rfl ?_
    refine j_region rfl ?_
    refine ops_val rfl rfl (fun _ hk => e_move hk rfl ⟨rfl, rfl⟩) ?_
    refine ops_val rfl rfl (fun _ hk => e_move hk rfl ⟨rfl, rfl⟩) ?_
    refine ops_val rfl rfl (fun _ hk => e_len hk rfl Try.runUnderlying27 h1.sl.len ⟨rfl, rfl⟩) ?_
    refine ops_val rfl rfl (fun _ hk => e_lss hk rfl rfl rfl ⟨rfl, rfl⟩) ?_
    refine ops_end rfl ?_
    refine post_seq ?_
    refine jp_cond [true, true, false, true, false, false, false, true, false] [true, true, false, true, false, false, false, true, true] rfl rfl rfl rfl (fun hc4 => ?_) (fun hc4 => ?_)
    · replace hc4 := of_decide_eq_true hc4
      refine jp_skip rfl ?_
      refine post_seq ?_
      refine jp_seq [true, true, false, true, false, false, true, false] [true, true, false, true, false, false, true, true] rfl rfl rfl ?_
      refine jp_block [true, true, false, true, false, false, true, false, false] rfl rfl ?_
      refine jp_seq [true, true, false, true, false, false, true, false, false, false] [true, true, false, true, false, false, true, false, false, true] rfl rfl rfl ?_
      obtain ⟨x1, hx1⟩ := get_some a (k) (by omega)
      have nl_x1 := n1 x1 (mem_get hx1)
      have A5 := h1.sl.at_ hx1
      have qA5 := h1.sl.block (by omega)
      have hl_x1 := h1.lab x1 (mem_get hx1)
      obtain ⟨x2, hx2⟩ := get_some b (k) (by omega)
      have nl_x2 := n2 x2 (mem_get hx2)
      have A6 := h2.sl.at_ hx2
      have qA6 := h2.sl.block (by omega)
      have hl_x2 := h2.lab x2 (mem_get hx2)
      refine J.sub [(0, va), (1, vb), (5, .int .i64 ((k : Nat) : Int)), (11, .int .i64 ((k : Nat) : Int)), (12, va), (13, .int .i64 ((a.length : Nat) : Int)), (14, .bool (decide (((k : Nat) : Int) < ((a.length : Nat) : Int))))] ⟨rfl, rfl, rfl, rfl, rfl, rfl, rfl, trivial⟩ ?_
      refine j_sum 41 (!((decide (x1.v = x2.v) && decide (x1.ls = x2.ls)))) (fun _ hQ11 => ?_) (fun w9 E10 => ?_)
      · skip
        by_cases hg12 : x1.v = x2.v
        · skip
          refine J.sub [(0, va), (1, vb), (5, .int .i64 ((k : Nat) : Int)), (11, .int .i64 ((k : Nat) : Int)), (12, va), (13, .int .i64 ((a.length : Nat) : Int)), (14, .bool (decide (((k : Nat) : Int) < ((a.length : Nat) : Int))))] ⟨rfl, rfl, rfl, rfl, rfl, rfl, rfl, trivial⟩ ?_
          refine wp_draw 25 mixed rfl rfl ?_
          refine dr_val rfl rfl (fun ρ_ w_ E_ hk _ => e_move hk rfl ⟨Ext.rfl', rfl⟩) ?_
          refine dr_val rfl rfl (fun ρ_ w_ E_ hk _ => e_move hk rfl ⟨Ext.rfl', rfl⟩) ?_
          have A13 := h1.sl.at_ hx1
          have qA13 := h1.sl.block (by omega)
          have hl_x1 := h1.lab x1 (mem_get hx1)
          refine dr_val rfl rfl (fun ρ_ w_ E_ hk _ => e_indexAddr (k := k) hk rfl rfl Try.runUnderlying27 Try.sizeOf34 (h1.sl.has (by omega)) (by omega) ⟨Ext.rfl', rfl⟩) ?_
          refine dr_val rfl rfl (fun ρ_ w_ E_ hk _ => e_fieldAddr hk rfl (fa_34_1 _ _) ⟨Ext.rfl', rfl⟩) ?_
          refine dr_val rfl rfl (fun ρ_ w_ E_ hk _ => e_load1 hk rfl Try.isAgg3 ((A13.ext E_).cell 1 rfl) ⟨Ext.rfl', rfl⟩) ?_
          refine dr_val rfl rfl (fun ρ_ w_ E_ hk _ => e_move hk rfl ⟨Ext.rfl', rfl⟩) ?_
          refine dr_val rfl rfl (fun ρ_ w_ E_ hk _ => e_move hk rfl ⟨Ext.rfl', rfl⟩) ?_
          have A14 := h2.sl.at_ hx2
          have qA14 := h2.sl.block (by omega)
          have hl_x2 := h2.lab x2 (mem_get hx2)
          refine dr_val rfl rfl (fun ρ_ w_ E_ hk _ => e_indexAddr (k := k) hk rfl rfl Try.runUnderlying27 Try.sizeOf34 (h2.sl.has (by omega)) (by omega) ⟨Ext.rfl', rfl⟩) ?_
          refine dr_val rfl rfl (fun ρ_ w_ E_ hk _ => e_fieldAddr hk rfl (fa_34_1 _ _) ⟨Ext.rfl', rfl⟩) ?_
          refine dr_val rfl rfl (fun ρ_ w_ E_ hk _ => e_load1 hk rfl Try.isAgg3 ((A14.ext E_).cell 1 rfl) ⟨Ext.rfl', rfl⟩) ?_
          refine dr_val rfl rfl (fun ρ_ w_ E_ hk _ => e_eql hk rfl rfl (decide_eq_true hg12) ⟨Ext.rfl', rfl⟩) ?_
          refine dr_val rfl rfl (fun ρ_ w_ E_ hk _ => e_move hk rfl ⟨Ext.rfl', rfl⟩) ?_
          refine dr_run rfl rfl rfl rfl (fun _ => rfl) (fun ρ_ w_ E_ hk _ => e_move hk rfl ⟨Ext.rfl', rfl⟩) ?_
          refine dr_run rfl rfl rfl rfl (fun _ => rfl) (fun ρ_ w_ E_ hk _ => e_move hk rfl ⟨Ext.rfl', rfl⟩) ?_
          have A15 := h1.sl.at_ hx1
          have qA15 := h1.sl.block (by omega)
          have hl_x1 := h1.lab x1 (mem_get hx1)
          refine dr_run rfl rfl rfl rfl (fun _ => rfl) (fun ρ_ w_ E_ hk _ => e_indexAddr (k := k) hk rfl rfl Try.runUnderlying27 Try.sizeOf34 (h1.sl.has (by omega)) (by omega) ⟨Ext.rfl', rfl⟩) ?_
          refine dr_run rfl rfl rfl rfl (fun _ => rfl) (fun ρ_ w_ E_ hk _ => e_fieldAddr hk rfl (fa_34_0 _ _) ⟨Ext.rfl', rfl⟩) ?_
          refine dr_run rfl rfl rfl rfl (fun _ => rfl) (fun ρ_ w_ E_ hk _ => e_load1 hk rfl Try.isAgg32 ((A15.ext E_).cell 0 rfl) ⟨Ext.rfl', rfl⟩) ?_
          refine dr_run rfl rfl rfl rfl (fun _ => rfl) (fun ρ_ w_ E_ hk _ => e_move hk rfl ⟨Ext.rfl', rfl⟩) ?_
          refine dr_run rfl rfl rfl rfl (fun _ => rfl) (fun ρ_ w_ E_ hk _ => e_move hk rfl ⟨Ext.rfl', rfl⟩) ?_
          have A16 := h2.sl.at_ hx2
          have qA16 := h2.sl.block (by omega)
          have hl_x2 := h2.lab x2 (mem_get hx2)
          refine dr_run rfl rfl rfl rfl (fun _ => rfl) (fun ρ_ w_ E_ hk _ => e_indexAddr (k := k) hk rfl rfl Try.runUnderlying27 Try.sizeOf34 (h2.sl.has (by omega)) (by omega) ⟨Ext.rfl', rfl⟩) ?_
          refine dr_run rfl rfl rfl rfl (fun _ => rfl) (fun ρ_ w_ E_ hk _ => e_fieldAddr hk rfl (fa_34_0 _ _) ⟨Ext.rfl', rfl⟩) ?_
          refine dr_run rfl rfl rfl rfl (fun _ => rfl) (fun ρ_ w_ E_ hk _ => e_load1 hk rfl Try.isAgg32 ((A16.ext E_).cell 0 rfl) ⟨Ext.rfl', rfl⟩) ?_
          refine dr_run rfl rfl rfl rfl (fun _ => rfl) (fun ρ_ w_ E_ hk _ => e_call hk rfl Try.call37 (SameLabels_spec _ _ x1.ls x2.ls _ _ _ _ _ (hl_x1.ext E_) (hl_x2.ext E_) (by omega) (by omega)) (fun _ _ h => h)) ?_
          refine dr_val rfl rfl (fun ρ_ w_ E_ hk _ => e_pick_t hk rfl rfl ⟨Ext.rfl', rfl⟩) ?_
          refine dr_val rfl rfl (fun ρ_ w_ E_ hk _ => e_not hk rfl ⟨Ext.rfl', rfl⟩) ?_
          refine dr_end rfl (fun w17 E18 => ?_)
          have zE18 := E18.size
          replace E0 := E0.trans E18
          replace h1 := h1.ext E18
          replace h2 := h2.ext E18
          replace E2 := E2.trans E18
          replace A5 := A5.ext E18
          replace A6 := A6.ext E18
          replace A13 := A13.ext E18
          replace A14 := A14.ext E18
          replace A15 := A15.ext E18
          replace hl_x1 := hl_x1.ext E18
          replace A16 := A16.ext E18
          replace hl_x2 := hl_x2.ext E18
          refine Ops.sub [(0, va), (1, vb), (5, .int .i64 ((k : Nat) : Int)), (11, .int .i64 ((k : Nat) : Int)), (12, va), (13, .int .i64 ((a.length : Nat) : Int)), (14, .bool (decide (((k : Nat) : Int) < ((a.length : Nat) : Int)))), (17, va), (18, .int .i64 ((k : Nat) : Int)), (19, .pointer (some ⟨bl va, of_ va + (k) * 2, none⟩)), (20, .pointer (some ⟨bl va, of_ va + (k) * 2 + 1, none⟩)), (21, .int .i64 (x1.v)), (22, vb), (23, .int .i64 ((k : Nat) : Int)), (24, .pointer (some ⟨bl vb, of_ vb + (k) * 2, none⟩)), (25, .pointer (some ⟨bl vb, of_ vb + (k) * 2 + 1, none⟩)), (26, .int .i64 (x2.v)), (27, .bool true), (28, .bool true), (29, va), (30, .int .i64 ((k : Nat) : Int)), (31, .pointer (some ⟨bl va, of_ va + (k) * 2, none⟩)), (32, .pointer (some ⟨bl va, of_ va + (k) * 2, none⟩)), (33, x1.lv), (34, vb), (35, .int .i64 ((k : Nat) : Int)), (36, .pointer (some ⟨bl vb, of_ vb + (k) * 2, none⟩)), (37, .pointer (some ⟨bl vb, of_ vb + (k) * 2, none⟩)), (38, x2.lv), (39, .bool (decide (x1.ls = x2.ls))), (40, .bool (decide (x1.ls = x2.ls))), (41, .bool (!decide (x1.ls = x2.ls)))] ⟨rfl, rfl, rfl, rfl, rfl, rfl, rfl, rfl, rfl, rfl, rfl, rfl, rfl, rfl, rfl, rfl, rfl, rfl, rfl, rfl, rfl, rfl, rfl, rfl, rfl, rfl, rfl, rfl, rfl, rfl, rfl, rfl, trivial⟩ ?_
          refine ops_end rfl ?_
          exact Post.sub ((41, .bool (!((decide (x1.v = x2.v) && decide (x1.ls = x2.ls))))) :: [(0, va), (1, vb), (5, .int .i64 ((k : Nat) : Int)), (11, .int .i64 ((k : Nat) : Int)), (12, va), (13, .int .i64 ((a.length : Nat) : Int)), (14, .bool (decide (((k : Nat) : Int) < ((a.length : Nat) : Int))))]) ⟨(congrArg (fun b => some (Value.bool b)) (by simp [hg12])), rfl, rfl, rfl, rfl, rfl, rfl, rfl, trivial⟩ (hQ11 _ E18)
        · skip
          refine J.sub [(0, va), (1, vb), (5, .int .i64 ((k : Nat) : Int)), (11, .int .i64 ((k : Nat) : Int)), (12, va), (13, .int .i64 ((a.length : Nat) : Int)), (14, .bool (decide (((k : Nat) : Int) < ((a.length : Nat) : Int))))] ⟨rfl, rfl, rfl, rfl, rfl, rfl, rfl, trivial⟩ ?_
          refine wp_draw 25 mixed rfl rfl ?_
          refine dr_val rfl rfl (fun ρ_ w_ E_ hk _ => e_move hk rfl ⟨Ext.rfl', rfl⟩) ?_
          refine dr_val rfl rfl (fun ρ_ w_ E_ hk _ => e_move hk rfl ⟨Ext.rfl', rfl⟩) ?_
          have A19 := h1.sl.at_ hx1
          have qA19 := h1.sl.block (by omega)
          have hl_x1 := h1.lab x1 (mem_get hx1)
          refine dr_val rfl rfl (fun ρ_ w_ E_ hk _ => e_indexAddr (k := k) hk rfl rfl Try.runUnderlying27 Try.sizeOf34 (h1.sl.has (by omega)) (by omega) ⟨Ext.rfl', rfl⟩) ?_
          refine dr_val rfl rfl (fun ρ_ w_ E_ hk _ => e_fieldAddr hk rfl (fa_34_1 _ _) ⟨Ext.rfl', rfl⟩) ?_
          refine dr_val rfl rfl (fun ρ_ w_ E_ hk _ => e_load1 hk rfl Try.isAgg3 ((A19.ext E_).cell 1 rfl) ⟨Ext.rfl', rfl⟩) ?_
          refine dr_val rfl rfl (fun ρ_ w_ E_ hk _ => e_move hk rfl ⟨Ext.rfl', rfl⟩) ?_
          refine dr_val rfl rfl (fun ρ_ w_ E_ hk _ => e_move hk rfl ⟨Ext.rfl', rfl⟩) ?_
          have A20 := h2.sl.at_ hx2
          have qA20 := h2.sl.block (by omega)
          have hl_x2 := h2.lab x2 (mem_get hx2)
          refine dr_val rfl rfl (fun ρ_ w_ E_ hk _ => e_indexAddr (k := k) hk rfl rfl Try.runUnderlying27 Try.sizeOf34 (h2.sl.has (by omega)) (by omega) ⟨Ext.rfl', rfl⟩) ?_
          refine dr_val rfl rfl (fun ρ_ w_ E_ hk _ => e_fieldAddr hk rfl (fa_34_1 _ _) ⟨Ext.rfl', rfl⟩) ?_
          refine dr_val rfl rfl (fun ρ_ w_ E_ hk _ => e_load1 hk rfl Try.isAgg3 ((A20.ext E_).cell 1 rfl) ⟨Ext.rfl', rfl⟩) ?_
          refine dr_val rfl rfl (fun ρ_ w_ E_ hk _ => e_eql hk rfl rfl (decide_eq_false hg12) ⟨Ext.rfl', rfl⟩) ?_
          refine dr_val rfl rfl (fun ρ_ w_ E_ hk _ => e_move hk rfl ⟨Ext.rfl', rfl⟩) ?_
          refine dr_skip rfl rfl rfl rfl (fun _ => rfl) ?_
          refine dr_skip rfl rfl rfl rfl (fun _ => rfl) ?_
          refine dr_skip rfl rfl rfl rfl (fun _ => rfl) ?_
          refine dr_skip rfl rfl rfl rfl (fun _ => rfl) ?_
          refine dr_skip rfl rfl rfl rfl (fun _ => rfl) ?_
          refine dr_skip rfl rfl rfl rfl (fun _ => rfl) ?_
          refine dr_skip rfl rfl rfl rfl (fun _ => rfl) ?_
          refine dr_skip rfl rfl rfl rfl (fun _ => rfl) ?_
          refine dr_skip rfl rfl rfl rfl (fun _ => rfl) ?_
          refine dr_skip rfl rfl rfl rfl (fun _ => rfl) ?_
          refine dr_skip rfl rfl rfl rfl (fun _ => rfl) ?_
          refine dr_val rfl rfl (fun ρ_ w_ E_ hk _ => e_pick_f hk rfl rfl ⟨Ext.rfl', rfl⟩) ?_
          refine dr_val rfl rfl (fun ρ_ w_ E_ hk _ => e_not hk rfl ⟨Ext.rfl', rfl⟩) ?_
          refine dr_end rfl (fun w21 E22 => ?_)
          have zE22 := E22.size
          replace E0 := E0.trans E22
          replace h1 := h1.ext E22
          replace h2 := h2.ext E22
          replace E2 := E2.trans E22
          replace A5 := A5.ext E22
          replace A6 := A6.ext E22
          replace A19 := A19.ext E22
          replace hl_x1 := hl_x1.ext E22
          replace A20 := A20.ext E22
          replace hl_x2 := hl_x2.ext E22
          refine Ops.sub [(0, va), (1, vb), (5, .int .i64 ((k : Nat) : Int)), (11, .int .i64 ((k : Nat) : Int)), (12, va), (13, .int .i64 ((a.length : Nat) : Int)), (14, .bool (decide (((k : Nat) : Int) < ((a.length : Nat) : Int)))), (17, va), (18, .int .i64 ((k : Nat) : Int)), (19, .pointer (some ⟨bl va, of_ va + (k) * 2, none⟩)), (20, .pointer (some ⟨bl va, of_ va + (k) * 2 + 1, none⟩)), (21, .int .i64 (x1.v)), (22, vb), (23, .int .i64 ((k : Nat) : Int)), (24, .pointer (some ⟨bl vb, of_ vb + (k) * 2, none⟩)), (25, .pointer (some ⟨bl vb, of_ vb + (k) * 2 + 1, none⟩)), (26, .int .i64 (x2.v)), (27, .bool false), (28, .bool false), (29, undef), (30, undef), (31, undef), (32, undef), (33, undef), (34, undef), (35, undef), (36, undef), (37, undef), (38, undef), (39, undef), (40, .bool false), (41, .bool true)] ⟨rfl, rfl, rfl, rfl, rfl, rfl, rfl, rfl, rfl, rfl, rfl, rfl, rfl, rfl, rfl, rfl, rfl, rfl, rfl, rfl, rfl, rfl, rfl, rfl, rfl, rfl, rfl, rfl, rfl, rfl, rfl, rfl, trivial⟩ ?_
          refine ops_end rfl ?_
          exact Post.sub ((41, .bool (!((decide (x1.v = x2.v) && decide (x1.ls = x2.ls))))) :: [(0, va), (1, vb), (5, .int .i64 ((k : Nat) : Int)), (11, .int .i64 ((k : Nat) : Int)), (12, va), (13, .int .i64 ((a.length : Nat) : Int)), (14, .bool (decide (((k : Nat) : Int) < ((a.length : Nat) : Int))))]) ⟨(congrArg (fun b => some (Value.bool b)) (by simp [hg12])), rfl, rfl, rfl, rfl, rfl, rfl, rfl, trivial⟩ (hQ11 _ E22)
      · skip
        have zE10 := E10.size
        replace E0 := E0.trans E10
        replace h1 := h1.ext E10
        replace h2 := h2.ext E10
        replace E2 := E2.trans E10
        replace A5 := A5.ext E10
        replace hl_x1 := hl_x1.ext E10
        replace A6 := A6.ext E10
        replace hl_x2 := hl_x2.ext E10
        refine post_seq ?_
        refine jp_cond [true, true, false, true, false, false, true, false, false, true, false] [true, true, false, true, false, false, true, false, false, true, true] rfl rfl rfl rfl (fun hc23 => ?_) (fun hc23 => ?_)
        · simp only [Bool.and_eq_true, Bool.or_eq_true, Bool.not_eq_true', Bool.not_eq_false', Bool.and_eq_false_iff, Bool.or_eq_false_iff, decide_eq_true_eq, decide_eq_false_iff_not, Decidable.not_not, ne_eq] at hc23
          refine jp_seq [true, true, false, true, false, false, true, false, false, true, false, false] [true, true, false, true, false, false, true, false, false, true, false, true] rfl rfl rfl ?_
          refine j_region rfl ?_
          refine ops_val rfl rfl (fun _ hk => e_assign hk rfl ⟨rfl, rfl⟩) ?_
          refine ops_end rfl ?_
          refine post_seq ?_
          refine jp_ret rfl ?_
          refine post_block_ret ?_
          refine post_seq_ret ?_
          refine post_loop_ret ?_
          refine post_block_ret ?_
          refine post_seq_ret ?_
          refine post_ret [.bool false] (.bool false) Try.results15 ⟨rfl, trivial⟩ rfl ?_
          refine ⟨E0, congrArg Value.bool (keys_ne_at hx1 hx2 ?_).symm⟩; intro e; simp [RowD.key] at e; rcases hc23 with h | h; exact h e.2; exact h e.1
        · simp only [Bool.and_eq_true, Bool.or_eq_true, Bool.not_eq_true', Bool.not_eq_false', Bool.and_eq_false_iff, Bool.or_eq_false_iff, decide_eq_true_eq, decide_eq_false_iff_not, Decidable.not_not, ne_eq] at hc23
          refine jp_skip rfl ?_
          refine post_block ?_
          refine post_seq ?_
          refine j_region rfl ?_
          refine ops_val rfl rfl (fun _ hk => e_move hk rfl ⟨rfl, rfl⟩) ?_
          refine ops_val rfl rfl (fun _ hk => e_add hk rfl rfl (w64eq (c := ((k + 1 : Nat) : Int)) (by omega) (by omega)) ⟨rfl, rfl⟩) ?_
          refine ops_val rfl rfl (fun _ hk => e_assign hk rfl ⟨rfl, rfl⟩) ?_
          refine ops_end rfl ?_
          exact post_loop (k + 1) ⟨rfl, rfl, rfl, trivial⟩ ⟨E2, by omega, by rw [take_snoc hx1, take_snoc hx2, List.map_append, List.map_append, hf]; exact congrArg (fun z => _ ++ [z]) (Prod.ext hc23.2 hc23.1)⟩ (by omega)
    · replace hc4 := of_decide_eq_false hc4
      refine jp_exit rfl ?_
      refine post_seq_exit ?_
      refine post_loop_exit ?_
      refine post_block_exit ?_
      refine post_seq ?_
      refine J.sub [] trivial ?_
      refine jp_seq [true, true, true, false] [true, true, true, true] rfl rfl rfl ?_
      refine j_region rfl ?_
      refine ops_val rfl rfl (fun _ hk => e_assign hk rfl ⟨rfl, rfl⟩) ?_
      refine ops_end rfl ?_
      refine post_seq ?_
      refine jp_ret rfl ?_
      refine post_ret [.bool true] (.bool true) Try.results15 ⟨rfl, trivial⟩ rfl ?_
      refine ⟨E0, congrArg Value.bool ?_⟩; symm; first | exact keys_ne_len (by omega) | exact keys_eq_all (by omega) (by omega) hf

set_option maxHeartbeats 2000000 in
set_option maxRecDepth 100000 in
theorem LightL_spec (v : Value) (xs : List Lbl) (lo hi : Nat) (w : World) (h1 : RLab w lo hi v xs) (n1 : xs.length ≤ 9223372036854775807) (n2 : ∀ x ∈ xs, x.n.size ≤ 9223372036854775807 ∧ x.v.size ≤ 9223372036854775807) :
    Calls Try.prog 34 #[v] w (Ret fun res w' => Ext w w' ∧ res = .bool (lightL xs)) := by
  refine calls_of_J Try.func34 rfl (N := 33) rfl rfl ?_
  have top_h1 := h1.top
  have E0 : Ext w w := Ext.rfl'
  refine jp_seq [false] [true] rfl rfl rfl ?_
  refine j_region rfl ?_
  refine ops_val rfl rfl (fun _ hk => e_assign hk rfl ⟨rfl, rfl⟩) ?_
  refine ops_end rfl ?_
  refine post_seq ?_
  refine jp_seq [true, false] [true, true] rfl rfl rfl ?_
  refine jp_seq [true, false, false] [true, false, true] rfl rfl rfl ?_
  refine j_region rfl ?_
  refine ops_val rfl rfl (fun _ hk => e_assign hk rfl ⟨rfl, rfl⟩) ?_
  refine ops_end rfl ?_
  refine post_seq ?_
  refine jp_block [true, false, true, false] rfl rfl ?_
  refine jp_loop (fun (g : Nat) => [(0, v), (3, .int .i64 ((g : Nat) : Int))]) (fun (g : Nat) (wl : World) => (Ext w wl) ∧ (g ≤ xs.length) ∧ ((xs.take g).all (fun x => decide (x.n.size ≤ 200) && decide (x.v.size ≤ 200)) = true)) (fun (g : Nat) => xs.length - g) [true, false, true, false, false] (0) rfl rfl ⟨rfl, rfl, trivial⟩ ⟨Ext.rfl', Nat.zero_le _, by simp⟩ ?_
  rintro k w2 ⟨E1, hk, hf⟩
  have zE1 := E1.size
  replace E0 := E0.trans E1
  replace h1 := h1.ext E1
  refine J.sub [(0, v), (3, .int .i64 ((k : Nat) : Int))] ⟨rfl, rfl, trivial⟩ ?_
  refine jp_seq [true, false, true, false, false, false] [true, false, true, false, false, true] rfl rfl rfl ?_
  refine jp_seq [true, false, true, false, false, false, false] [true, false, true, false, false, false, true] rfl rfl rfl ?_
  refine J.sub [(0, v), (3, .int .i64 ((k : Nat) : Int))] ⟨rfl, rfl, trivial⟩ ?_
  refine j_sum 11 ((decide (((k : Nat) : Int) < ((xs.length : Nat) : Int)) && decide (((k : Nat) : Int) < 30))) (fun _ hQ5 => ?_) (fun w3 E4 => ?_)
  · skip
    by_cases hg6 : ((k : Nat) : Int) < ((xs.length : Nat) : Int)
    · skip
      refine j_region rfl ?_
      refine ops_val rfl rfl (fun _ hk => e_move hk rfl ⟨rfl, rfl⟩) ?_
      refine ops_val rfl rfl (fun _ hk => e_move hk rfl ⟨rfl, rfl⟩) ?_
      refine ops_val rfl rfl (fun _ hk => e_len hk rfl Try.runUnderlying32 h1.len ⟨rfl, rfl⟩) ?_
      refine ops_val rfl rfl (fun _ hk => e_lss hk rfl rfl (decide_eq_true hg6) ⟨rfl, rfl⟩) ?_
      refine ops_val rfl rfl (fun _ hk => e_move hk rfl ⟨rfl, rfl⟩) ?_
      refine ops_run rfl rfl rfl rfl rfl (fun _ hk => e_move hk rfl ⟨rfl, rfl⟩) ?_
      refine ops_run rfl rfl rfl rfl rfl (fun _ hk => e_lss hk rfl rfl rfl ⟨rfl, rfl⟩) ?_
      refine ops_val rfl rfl (fun _ hk => e_pick_t hk rfl rfl ⟨rfl, rfl⟩) ?_
      refine ops_end rfl ?_
      exact Post.sub ((11, .bool ((decide (((k : Nat) : Int) < ((xs.length : Nat) : Int)) && decide (((k : Nat) : Int) < 30)))) :: [(0, v), (3, .int .i64 ((k : Nat) : Int))]) ⟨(congrArg (fun b => some (Value.bool b)) (by simp [hg6])), rfl, rfl, trivial⟩ (hQ5 _ Ext.rfl')
    · skip
      refine j_region rfl ?_
      refine ops_val rfl rfl (fun _ hk => e_move hk rfl ⟨rfl, rfl⟩) ?_
      refine ops_val rfl rfl (fun _ hk => e_move hk rfl ⟨rfl, rfl⟩) ?_
      refine ops_val rfl rfl (fun _ hk => e_len hk rfl Try.runUnderlying32 h1.len ⟨rfl, rfl⟩) ?_
      refine ops_val rfl rfl (fun _ hk => e_lss hk rfl rfl (decide_eq_false hg6) ⟨rfl, rfl⟩) ?_
      refine ops_val rfl rfl (fun _ hk => e_move hk rfl ⟨rfl, rfl⟩) ?_
      refine ops_skip rfl rfl rfl rfl rfl ?_
      refine ops_skip rfl rfl rfl rfl rfl ?_
      refine ops_val rfl rfl (fun _ hk => e_pick_f hk rfl rfl ⟨rfl, rfl⟩) ?_
      refine ops_end rfl ?_
      exact Post.sub ((11, .bool ((decide (((k : Nat) : Int) < ((xs.length : Nat) : Int)) && decide (((k : Nat) : Int) < 30)))) :: [(0, v), (3, .int .i64 ((k : Nat) : Int))]) ⟨(congrArg (fun b => some (Value.bool b)) (by simp [hg6])), rfl, rfl, trivial⟩ (hQ5 _ Ext.rfl')
  · skip
    have zE4 := E4.size
    replace E0 := E0.trans E4
    replace h1 := h1.ext E4
    replace E1 := E1.trans E4
    refine post_seq ?_
    refine jp_cond [true, false, true, false, false, false, true, false] [true, false, true, false, false, false, true, true] rfl rfl rfl rfl (fun hc7 => ?_) (fun hc7 => ?_)
    · simp only [Bool.and_eq_true, Bool.or_eq_true, Bool.not_eq_true', Bool.not_eq_false', Bool.and_eq_false_iff, Bool.or_eq_false_iff, decide_eq_true_eq, decide_eq_false_iff_not, Decidable.not_not, ne_eq] at hc7
      refine jp_skip rfl ?_
      refine post_seq ?_
      refine jp_seq [true, false, true, false, false, true, false] [true, false, true, false, false, true, true] rfl rfl rfl ?_
      refine jp_block [true, false, true, false, false, true, false, false] rfl rfl ?_
      refine jp_seq [true, false, true, false, false, true, false, false, false] [true, false, true, false, false, true, false, false, true] rfl rfl rfl ?_
      obtain ⟨x1, hx1⟩ := get_some xs (k) (by omega)
      have A8 := h1.at_ hx1
      have qA8 := h1.block (by omega)
      refine J.sub [(0, v), (3, .int .i64 ((k : Nat) : Int)), (11, .bool ((decide (((k : Nat) : Int) < ((xs.length : Nat) : Int)) && decide (((k : Nat) : Int) < 30))))] ⟨rfl, rfl, rfl, trivial⟩ ?_
      refine j_sum 29 ((decide (200 < ((x1.n.size : Nat) : Int)) || decide (200 < ((x1.v.size : Nat) : Int)))) (fun _ hQ12 => ?_) (fun w10 E11 => ?_)
      · skip
        by_cases hg13 : 200 < ((x1.n.size : Nat) : Int)
        · skip
          refine j_region rfl ?_
          refine ops_val rfl rfl (fun _ hk => e_move hk rfl ⟨rfl, rfl⟩) ?_
          refine ops_val rfl rfl (fun _ hk => e_move hk rfl ⟨rfl, rfl⟩) ?_
          have A14 := h1.at_ hx1
          have qA14 := h1.block (by omega)
          refine ops_val rfl rfl (fun _ hk => e_indexAddr (k := k) hk rfl rfl Try.runUnderlying32 Try.sizeOf74 (h1.has (by omega)) (by omega) ⟨rfl, rfl⟩) ?_
          refine ops_val rfl rfl (fun _ hk => e_fieldAddr hk rfl (fa_74_0 _ _) ⟨rfl, rfl⟩) ?_
          refine ops_val rfl rfl (fun _ hk => e_load1 hk rfl Try.isAgg9 (A14.cell 0 rfl) ⟨rfl, rfl⟩) ?_
          refine ops_val rfl rfl (fun _ hk => e_len_str hk rfl Try.runUnderlying9 ⟨rfl, rfl⟩) ?_
          refine ops_val rfl rfl (fun _ hk => e_gtr hk rfl rfl (decide_eq_true hg13) ⟨rfl, rfl⟩) ?_
          refine ops_val rfl rfl (fun _ hk => e_move hk rfl ⟨rfl, rfl⟩) ?_
          refine ops_skip rfl rfl rfl rfl rfl ?_
          refine ops_skip rfl rfl rfl rfl rfl ?_
          refine ops_skip rfl rfl rfl rfl rfl ?_
          refine ops_skip rfl rfl rfl rfl rfl ?_
          refine ops_skip rfl rfl rfl rfl rfl ?_
          refine ops_skip rfl rfl rfl rfl rfl ?_
          refine ops_skip rfl rfl rfl rfl rfl ?_
          refine ops_val rfl rfl (fun _ hk => e_pick_t hk rfl rfl ⟨rfl, rfl⟩) ?_
          refine ops_end rfl ?_
          exact Post.sub ((29, .bool ((decide (200 < ((x1.n.size : Nat) : Int)) || decide (200 < ((x1.v.size : Nat) : Int))))) :: [(0, v), (3, .int .i64 ((k : Nat) : Int)), (11, .bool ((decide (((k : Nat) : Int) < ((xs.length : Nat) : Int)) && decide (((k : Nat) : Int) < 30))))]) ⟨(congrArg (fun b => some (Value.bool b)) (by simp [hg13])), rfl, rfl, rfl, trivial⟩ (hQ12 _ Ext.rfl')
        · skip
          refine j_region rfl ?_
          refine ops_val rfl rfl (fun _ hk => e_move hk rfl ⟨rfl, rfl⟩) ?_
          refine ops_val rfl rfl (fun _ hk => e_move hk rfl ⟨rfl, rfl⟩) ?_
          have A15 := h1.at_ hx1
          have qA15 := h1.block (by omega)
          refine ops_val rfl rfl (fun _ hk => e_indexAddr (k := k) hk rfl rfl Try.runUnderlying32 Try.sizeOf74 (h1.has (by omega)) (by omega) ⟨rfl, rfl⟩) ?_
          refine ops_val rfl rfl (fun _ hk => e_fieldAddr hk rfl (fa_74_0 _ _) ⟨rfl, rfl⟩) ?_
          refine ops_val rfl rfl (fun _ hk => e_load1 hk rfl Try.isAgg9 (A15.cell 0 rfl) ⟨rfl, rfl⟩) ?_
          refine ops_val rfl rfl (fun _ hk => e_len_str hk rfl Try.runUnderlying9 ⟨rfl, rfl⟩) ?_
          refine ops_val rfl rfl (fun _ hk => e_gtr hk rfl rfl (decide_eq_false hg13) ⟨rfl, rfl⟩) ?_
          refine ops_val rfl rfl (fun _ hk => e_move hk rfl ⟨rfl, rfl⟩) ?_
          refine ops_run rfl rfl rfl rfl rfl (fun _ hk => e_move hk rfl ⟨rfl, rfl⟩) ?_
          refine ops_run rfl rfl rfl rfl rfl (fun _ hk => e_move hk rfl ⟨rfl, rfl⟩) ?_
          have A16 := h1.at_ hx1
          have qA16 := h1.block (by omega)
          refine ops_run rfl rfl rfl rfl rfl (fun _ hk => e_indexAddr (k := k) hk rfl rfl Try.runUnderlying32 Try.sizeOf74 (h1.has (by omega)) (by omega) ⟨rfl, rfl⟩) ?_
          refine ops_run rfl rfl rfl rfl rfl (fun _ hk => e_fieldAddr hk rfl (fa_74_1 _ _) ⟨rfl, rfl⟩) ?_
          refine ops_run rfl rfl rfl rfl rfl (fun _ hk => e_load1 hk rfl Try.isAgg9 (A16.cell 1 rfl) ⟨rfl, rfl⟩) ?_
          refine ops_run rfl rfl rfl rfl rfl (fun _ hk => e_len_str hk rfl Try.runUnderlying9 ⟨rfl, rfl⟩) ?_
          refine ops_run rfl rfl rfl rfl rfl (fun _ hk => e_gtr hk rfl rfl rfl ⟨rfl, rfl⟩) ?_
          refine ops_val rfl rfl (fun _ hk => e_pick_f hk rfl rfl ⟨rfl, rfl⟩) ?_
          refine ops_end rfl ?_
          exact Post.sub ((29, .bool ((decide (200 < ((x1.n.size : Nat) : Int)) || decide (200 < ((x1.v.size : Nat) : Int))))) :: [(0, v), (3, .int .i64 ((k : Nat) : Int)), (11, .bool ((decide (((k : Nat) : Int) < ((xs.length : Nat) : Int)) && decide (((k : Nat) : Int) < 30))))]) ⟨(congrArg (fun b => some (Value.bool b)) (by simp [hg13])), rfl, rfl, rfl, trivial⟩ (hQ12 _ Ext.rfl')
      · skip
        have zE11 := E11.size
        replace E0 := E0.trans E11
        replace h1 := h1.ext E11
        replace E1 := E1.trans E11
        replace A8 := A8.ext E11
        refine post_seq ?_
        refine jp_cond [true, false, true, false, false, true, false, false, true, false] [true, false, true, false, false, true, false, false, true, true] rfl rfl rfl rfl (fun hc17 => ?_) (fun hc17 => ?_)
        · simp only [Bool.and_eq_true, Bool.or_eq_true, Bool.not_eq_true', Bool.not_eq_false', Bool.and_eq_false_iff, Bool.or_eq_false_iff, decide_eq_true_eq, decide_eq_false_iff_not, Decidable.not_not, ne_eq] at hc17
          refine jp_seq [true, false, true, false, false, true, false, false, true, false, false] [true, false, true, false, false, true, false, false, true, false, true] rfl rfl rfl ?_
          refine j_region rfl ?_
          refine ops_val rfl rfl (fun _ hk => e_assign hk rfl ⟨rfl, rfl⟩) ?_
          refine ops_end rfl ?_
          refine post_seq ?_
          refine jp_ret rfl ?_
          refine post_block_ret ?_
          refine post_seq_ret ?_
          refine post_loop_ret ?_
          refine post_block_ret ?_
          refine post_seq_ret ?_
          refine post_ret [.bool false] (.bool false) Try.results34 ⟨rfl, trivial⟩ rfl ?_
          refine ⟨E0, congrArg Value.bool ?_⟩; symm; exact lightL_bad hx1 (by omega) (by have _h := hc17; omega)
        · simp only [Bool.and_eq_true, Bool.or_eq_true, Bool.not_eq_true', Bool.not_eq_false', Bool.and_eq_false_iff, Bool.or_eq_false_iff, decide_eq_true_eq, decide_eq_false_iff_not, Decidable.not_not, ne_eq] at hc17
          refine jp_skip rfl ?_
          refine post_block ?_
          refine post_seq ?_
          refine j_region rfl ?_
          refine ops_val rfl rfl (fun _ hk => e_move hk rfl ⟨rfl, rfl⟩) ?_
          refine ops_val rfl rfl (fun _ hk => e_add hk rfl rfl (w64eq (c := ((k + 1 : Nat) : Int)) (by omega) (by omega)) ⟨rfl, rfl⟩) ?_
          refine ops_val rfl rfl (fun _ hk => e_assign hk rfl ⟨rfl, rfl⟩) ?_
          refine ops_end rfl ?_
          exact post_loop (k + 1) ⟨rfl, rfl, trivial⟩ ⟨E1, by omega, all_take_snoc hx1 hf (by have _h := hc17; rw [Bool.and_eq_true, decide_eq_true_eq, decide_eq_true_eq]; omega)⟩ (by omega)
    · simp only [Bool.and_eq_true, Bool.or_eq_true, Bool.not_eq_true', Bool.not_eq_false', Bool.and_eq_false_iff, Bool.or_eq_false_iff, decide_eq_true_eq, decide_eq_false_iff_not, Decidable.not_not, ne_eq] at hc7
      refine jp_exit rfl ?_
      refine post_seq_exit ?_
      refine post_loop_exit ?_
      refine post_block_exit ?_
      refine post_seq ?_
      refine jp_seq [true, true, false] [true, true, true] rfl rfl rfl ?_
      refine j_region rfl ?_
      refine ops_val rfl rfl (fun _ hk => e_move hk rfl ⟨rfl, rfl⟩) ?_
      refine ops_val rfl rfl (fun _ hk => e_len hk rfl Try.runUnderlying32 h1.len ⟨rfl, rfl⟩) ?_
      refine ops_val rfl rfl (fun _ hk => e_leq hk rfl rfl rfl ⟨rfl, rfl⟩) ?_
      refine ops_val rfl rfl (fun _ hk => e_assign hk rfl ⟨rfl, rfl⟩) ?_
      refine ops_end rfl ?_
      refine post_seq ?_
      refine jp_ret rfl ?_
      refine post_ret [.bool (decide (((xs.length : Nat) : Int) ≤ 20))] (.bool (decide (((xs.length : Nat) : Int) ≤ 20))) Try.results34 ⟨rfl, trivial⟩ rfl ?_
      refine ⟨E0, congrArg Value.bool ?_⟩; rw [lightL_end hf (by omega)]; first | exact decide_eq_decide.2 (by omega) | (congr 1 <;> exact decide_eq_decide.2 (by omega))

set_option maxHeartbeats 2000000 in
set_option maxRecDepth 100000 in
theorem LightR_spec (v : Value) (xs : List RowD) (lo hi : Nat) (w : World) (h1 : RRow w lo hi v xs) (n1 : xs.length ≤ 9223372036854775807) (n2 : ∀ r ∈ xs, r.ls.length ≤ 9223372036854775807 ∧ ∀ x ∈ r.ls, x.n.size ≤ 9223372036854775807 ∧ x.v.size ≤ 9223372036854775807) :
    Calls Try.prog 17 #[v] w (Ret fun res w' => Ext w w' ∧ res = .bool (lightR xs)) := by
  refine calls_of_J Try.func17 rfl (N := 24) rfl rfl ?_
  have top_h1 := h1.top
  have E0 : Ext w w := Ext.rfl'
  refine jp_seq [false] [true] rfl rfl rfl ?_
  refine j_region rfl ?_
  refine ops_val rfl rfl (fun _ hk => e_assign hk rfl ⟨rfl, rfl⟩) ?_
  refine ops_end rfl ?_
  refine post_seq ?_
  refine jp_seq [true, false] [true, true] rfl rfl rfl ?_
  refine jp_seq [true, false, false] [true, false, true] rfl rfl rfl ?_
  refine j_region rfl ?_
  refine ops_val rfl rfl (fun _ hk => e_assign hk rfl ⟨rfl, rfl⟩) ?_
  refine ops_end rfl ?_
  refine post_seq ?_
  refine jp_block [true, false, true, false] rfl rfl ?_
  refine jp_loop (fun (g : Nat) => [(0, v), (3, .int .i64 ((g : Nat) : Int))]) (fun (g : Nat) (wl : World) => (Ext w wl) ∧ (g ≤ xs.length) ∧ ((xs.take g).all (fun r => lightL r.ls) = true)) (fun (g : Nat) => xs.length - g) [true, false, true, false, false] (0) rfl rfl ⟨rfl, rfl, trivial⟩ ⟨Ext.rfl', Nat.zero_le _, by simp⟩ ?_
  rintro k w2 ⟨E1, hk, hf⟩
  have zE1 := E1.size
  replace E0 := E0.trans E1
  replace h1 := h1.ext E1
  refine J.sub [(0, v), (3, .int .i64 ((k : Nat) : Int))] ⟨rfl, rfl, trivial⟩ ?_
  refine jp_seq [true, false, true, false, false, false] [true, false, true, false, false, true] rfl rfl rfl ?_
  refine jp_seq [true, false, true, false, false, false, false] [true, false, true, false, false, false, true] rfl rfl rfl ?_
  refine J.sub [(0, v), (3, .int .i64 ((k : Nat) : Int))] ⟨rfl, rfl, trivial⟩ ?_
  refine j_sum 11 ((decide (((k : Nat) : Int) < ((xs.length : Nat) : Int)) && decide (((k : Nat) : Int) < 100))) (fun _ hQ5 => ?_) (fun w3 E4 => ?_)
  · skip
    by_cases hg6 : ((k : Nat) : Int) < ((xs.length : Nat) : Int)
    · skip
      refine j_region rfl ?_
      refine ops_val rfl rfl (fun _ hk => e_move hk rfl ⟨rfl, rfl⟩) ?_
      refine ops_val rfl rfl (fun _ hk => e_move hk rfl ⟨rfl, rfl⟩) ?_
      refine ops_val rfl rfl (fun _ hk => e_len hk rfl Try.runUnderlying27 h1.sl.len ⟨rfl, rfl⟩) ?_
      refine ops_val rfl rfl (fun _ hk => e_lss hk rfl rfl (decide_eq_true hg6) ⟨rfl, rfl⟩) ?_
      refine ops_val rfl rfl (fun _ hk => e_move hk rfl ⟨rfl, rfl⟩) ?_
      refine ops_run rfl rfl rfl rfl rfl (fun _ hk => e_move hk rfl ⟨rfl, rfl⟩) ?_
      refine ops_run rfl rfl rfl rfl rfl (fun _ hk => e_lss hk rfl rfl rfl ⟨rfl, rfl⟩) ?_
      refine ops_val rfl rfl (fun _ hk => e_pick_t hk rfl rfl ⟨rfl, rfl⟩) ?_
      refine ops_end rfl ?_
      exact Post.sub ((11, .bool ((decide (((k : Nat) : Int) < ((xs.length : Nat) : Int)) && decide (((k : Nat) : Int) < 100)))) :: [(0, v), (3, .int .i64 ((k : Nat) : Int))]) ⟨(congrArg (fun b => some (Value.bool b)) (by simp [hg6])), rfl, rfl, trivial⟩ (hQ5 _ Ext.rfl')
    · skip
      refine j_region rfl ?_
      refine ops_val rfl rfl (fun _ hk => e_move hk rfl ⟨rfl, rfl⟩) ?_
      refine ops_val rfl rfl (fun _ hk => e_move hk rfl ⟨rfl, rfl⟩) ?_
      refine ops_val rfl rfl (fun _ hk => e_len hk rfl Try.runUnderlying27 h1.sl.len ⟨rfl, rfl⟩) ?_
      refine ops_val rfl rfl (fun _ hk => e_lss hk rfl rfl (decide_eq_false hg6) ⟨rfl, rfl⟩) ?_
      refine ops_val rfl rfl (fun _ hk => e_move hk rfl ⟨rfl, rfl⟩) ?_
      refine ops_skip rfl rfl rfl rfl rfl ?_
      refine ops_skip rfl rfl rfl rfl rfl ?_
      refine ops_val rfl rfl (fun _ hk => e_pick_f hk rfl rfl ⟨rfl, rfl⟩) ?_
      refine ops_end rfl ?_
      exact Post.sub ((11, .bool ((decide (((k : Nat) : Int) < ((xs.length : Nat) : Int)) && decide (((k : Nat) : Int) < 100)))) :: [(0, v), (3, .int .i64 ((k : Nat) : Int))]) ⟨(congrArg (fun b => some (Value.bool b)) (by simp [hg6])), rfl, rfl, trivial⟩ (hQ5 _ Ext.rfl')
  · skip
    have zE4 := E4.size
    replace E0 := E0.trans E4
    replace h1 := h1.ext E4
    replace E1 := E1.trans E4
    refine post_seq ?_
    refine jp_cond [true, false, true, false, false, false, true, false] [true, false, true, false, false, false, true, true] rfl rfl rfl rfl (fun hc7 => ?_) (fun hc7 => ?_)
    · simp only [Bool.and_eq_true, Bool.or_eq_true, Bool.not_eq_true', Bool.not_eq_false', Bool.and_eq_false_iff, Bool.or_eq_false_iff, decide_eq_true_eq, decide_eq_false_iff_not, Decidable.not_not, ne_eq] at hc7
      refine jp_skip rfl ?_
      refine post_seq ?_
      refine jp_seq [true, false, true, false, false, true, false] [true, false, true, false, false, true, true] rfl rfl rfl ?_
      refine jp_block [true, false, true, false, false, true, false, false] rfl rfl ?_
      refine jp_seq [true, false, true, false, false, true, false, false, false] [true, false, true, false, false, true, false, false, true] rfl rfl rfl ?_
      refine j_region rfl ?_
      refine ops_val rfl rfl (fun _ hk => e_move hk rfl ⟨rfl, rfl⟩) ?_
      refine ops_val rfl rfl (fun _ hk => e_move hk rfl ⟨rfl, rfl⟩) ?_
      obtain ⟨x1, hx1⟩ := get_some xs (k) (by omega)
      have nb_x1 := n2 x1 (mem_get hx1)
      have A8 := h1.sl.at_ hx1
      have qA8 := h1.sl.block (by omega)
      have hl_x1 := h1.lab x1 (mem_get hx1)
      refine ops_val rfl rfl (fun _ hk => e_indexAddr (k := k) hk rfl rfl Try.runUnderlying27 Try.sizeOf34 (h1.sl.has (by omega)) (by omega) ⟨rfl, rfl⟩) ?_
      refine ops_val rfl rfl (fun _ hk => e_fieldAddr hk rfl (fa_34_0 _ _) ⟨rfl, rfl⟩) ?_
      refine ops_val rfl rfl (fun _ hk => e_load1 hk rfl Try.isAgg32 (A8.cell 0 rfl) ⟨rfl, rfl⟩) ?_
      refine ops_rel _ rfl rfl (fun _ hk => e_call hk rfl Try.call34 (LightL_spec _ x1.ls _ _ _ hl_x1 (nb_x1).1 (nb_x1).2) (fun _ _ h => h)) ?_
      rintro _ w9 ⟨E10, rfl⟩
      have zE10 := E10.size
      replace E0 := E0.trans E10
      replace h1 := h1.ext E10
      replace E1 := E1.trans E10
      replace A8 := A8.ext E10
      replace hl_x1 := hl_x1.ext E10
      refine ops_val rfl rfl (fun _ hk => e_not hk rfl ⟨rfl, rfl⟩) ?_
      refine ops_end rfl ?_
      refine post_seq ?_
      refine jp_cond [true, false, true, false, false, true, false, false, true, false] [true, false, true, false, false, true, false, false, true, true] rfl rfl rfl rfl (fun hc11 => ?_) (fun hc11 => ?_)
      · simp only [Bool.and_eq_true, Bool.or_eq_true, Bool.not_eq_true', Bool.not_eq_false', Bool.and_eq_false_iff, Bool.or_eq_false_iff, decide_eq_true_eq, decide_eq_false_iff_not, Decidable.not_not, ne_eq] at hc11
        refine jp_seq [true, false, true, false, false, true, false, false, true, false, false] [true, false, true, false, false, true, false, false, true, false, true] rfl rfl rfl ?_
        refine j_region rfl ?_
        refine ops_val rfl rfl (fun _ hk => e_assign hk rfl ⟨rfl, rfl⟩) ?_
        refine ops_end rfl ?_
        refine post_seq ?_
        refine jp_ret rfl ?_
        refine post_block_ret ?_
        refine post_seq_ret ?_
        refine post_loop_ret ?_
        refine post_block_ret ?_
        refine post_seq_ret ?_
        refine post_ret [.bool false] (.bool false) Try.results17 ⟨rfl, trivial⟩ rfl ?_
        refine ⟨E0, congrArg Value.bool ?_⟩; symm; exact lightR_bad hx1 (by omega) (by simpa using hc11)
      · simp only [Bool.and_eq_true, Bool.or_eq_true, Bool.not_eq_true', Bool.not_eq_false', Bool.and_eq_false_iff, Bool.or_eq_false_iff, decide_eq_true_eq, decide_eq_false_iff_not, Decidable.not_not, ne_eq] at hc11
        refine jp_skip rfl ?_
        refine post_block ?_
        refine post_seq ?_
        refine j_region rfl ?_
        refine ops_val rfl rfl (fun _ hk => e_move hk rfl ⟨rfl, rfl⟩) ?_
        refine ops_val rfl rfl (fun _ hk => e_add hk rfl rfl (w64eq (c := ((k + 1 : Nat) : Int)) (by omega) (by omega)) ⟨rfl, rfl⟩) ?_
        refine ops_val rfl rfl (fun _ hk => e_assign hk rfl ⟨rfl, rfl⟩) ?_
        refine ops_end rfl ?_
        exact post_loop (k + 1) ⟨rfl, rfl, trivial⟩ ⟨E1, by omega, all_take_snoc hx1 hf (by simpa using hc11)⟩ (by omega)
    · simp only [Bool.and_eq_true, Bool.or_eq_true, Bool.not_eq_true', Bool.not_eq_false', Bool.and_eq_false_iff, Bool.or_eq_false_iff, decide_eq_true_eq, decide_eq_false_iff_not, Decidable.not_not, ne_eq] at hc7
      refine jp_exit rfl ?_
      refine post_seq_exit ?_
      refine post_loop_exit ?_
      refine post_block_exit ?_
      refine post_seq ?_
      refine jp_seq [true, true, false] [true, true, true] rfl rfl rfl ?_
      refine j_region rfl ?_
      refine ops_val rfl rfl (fun _ hk => e_move hk rfl ⟨rfl, rfl⟩) ?_
      refine ops_val rfl rfl (fun _ hk => e_len hk rfl Try.runUnderlying27 h1.sl.len ⟨rfl, rfl⟩) ?_
      refine ops_val rfl rfl (fun _ hk => e_leq hk rfl rfl rfl ⟨rfl, rfl⟩) ?_
      refine ops_val rfl rfl (fun _ hk => e_assign hk rfl ⟨rfl, rfl⟩) ?_
      refine ops_end rfl ?_
      refine post_seq ?_
      refine jp_ret rfl ?_
      refine post_ret [.bool (decide (((xs.length : Nat) : Int) ≤ 60))] (.bool (decide (((xs.length : Nat) : Int) ≤ 60))) Try.results17 ⟨rfl, trivial⟩ rfl ?_
      refine ⟨E0, congrArg Value.bool ?_⟩; rw [lightR_end hf (by omega)]; first | exact decide_eq_decide.2 (by omega) | (congr 1 <;> exact decide_eq_decide.2 (by omega))

set_option maxHeartbeats 2000000 in
set_option maxRecDepth 100000 in
theorem LightLL_spec (v : Value) (xs : List LR) (lo hi : Nat) (w : World) (h1 : RLL w lo hi v xs) (n1 : xs.length ≤ 9223372036854775807) (n2 : ∀ y ∈ xs, y.rs.length ≤ 9223372036854775807 ∧ ∀ r ∈ y.rs, r.ls.length ≤ 9223372036854775807 ∧ ∀ x ∈ r.ls, x.n.size ≤ 9223372036854775807 ∧ x.v.size ≤ 9223372036854775807) :
    Calls Try.prog 12 #[v] w (Ret fun res w' => Ext w w' ∧ res = .bool (lightLL xs)) := by
  refine calls_of_J Try.func12 rfl (N := 35) rfl rfl ?_
  have top_h1 := h1.top
  have E0 : Ext w w := Ext.rfl'
  refine jp_seq [false] [true] rfl rfl rfl ?_
  refine j_region rfl ?_
  refine ops_val rfl rfl (fun _ hk => e_assign hk rfl ⟨rfl, rfl⟩) ?_
  refine ops_end rfl ?_
  refine post_seq ?_
  refine jp_seq [true, false] [true, true] rfl rfl rfl ?_
  refine j_region rfl ?_
  refine ops_val rfl rfl (fun _ hk => e_assign hk rfl ⟨rfl, rfl⟩) ?_
  refine ops_end rfl ?_
  refine post_seq ?_
  refine jp_seq [true, true, false] [true, true, true] rfl rfl rfl ?_
  refine jp_seq [true, true, false, false] [true, true, false, true] rfl rfl rfl ?_
  refine j_region rfl ?_
  refine ops_val rfl rfl (fun _ hk => e_assign hk rfl ⟨rfl, rfl⟩) ?_
  refine ops_end rfl ?_
  refine post_seq ?_
  refine jp_block [true, true, false, true, false] rfl rfl ?_
  refine jp_loop (fun (g : Nat) => [(0, v), (4, .int .i64 ((g : Nat) : Int)), (3, .int .i64 ((totalR (xs.take g) : Nat) : Int))]) (fun (g : Nat) (wl : World) => (Ext w wl) ∧ (g ≤ xs.length) ∧ ((xs.take g).all (fun x => lightR x.rs) = true) ∧ (g ≤ 30) ∧ (totalR (xs.take g) ≤ 60 * g)) (fun (g : Nat) => xs.length - g) [true, true, false, true, false, false] (0) rfl rfl ⟨rfl, rfl, rfl, trivial⟩ ⟨Ext.rfl', Nat.zero_le _, by simp, by omega, by simp [totalR]⟩ ?_
  rintro k w2 ⟨E1, hk, hf, h30, ht⟩
  have zE1 := E1.size
  replace E0 := E0.trans E1
  replace h1 := h1.ext E1
  refine J.sub [(0, v), (4, .int .i64 ((k : Nat) : Int)), (3, .int .i64 ((totalR (xs.take k) : Nat) : Int))] ⟨rfl, rfl, rfl, trivial⟩ ?_
  refine jp_seq [true, true, false, true, false, false, false] [true, true, false, true, false, false, true] rfl rfl rfl ?_
  refine jp_seq [true, true, false, true, false, false, false, false] [true, true, false, true, false, false, false, true] rfl rfl rfl ?_
  refine J.sub [(0, v), (3, .int .i64 ((totalR (xs.take k) : Nat) : Int)), (4, .int .i64 ((k : Nat) : Int))] ⟨rfl, rfl, rfl, trivial⟩ ?_
  refine j_sum 12 ((decide (((k : Nat) : Int) < ((xs.length : Nat) : Int)) && decide (((k : Nat) : Int) < 30))) (fun _ hQ5 => ?_) (fun w3 E4 => ?_)
  · skip
    by_cases hg6 : ((k : Nat) : Int) < ((xs.length : Nat) : Int)
    · skip
      refine j_region rfl ?_
      refine ops_val rfl rfl (fun _ hk => e_move hk rfl ⟨rfl, rfl⟩) ?_
      refine ops_val rfl rfl (fun _ hk => e_move hk rfl ⟨rfl, rfl⟩) ?_
      refine ops_val rfl rfl (fun _ hk => e_len hk rfl Try.runUnderlying22 h1.sl.len ⟨rfl, rfl⟩) ?_
      refine ops_val rfl rfl (fun _ hk => e_lss hk rfl rfl (decide_eq_true hg6) ⟨rfl, rfl⟩) ?_
      refine ops_val rfl rfl (fun _ hk => e_move hk rfl ⟨rfl, rfl⟩) ?_
      refine ops_run rfl rfl rfl rfl rfl (fun _ hk => e_move hk rfl ⟨rfl, rfl⟩) ?_
      refine ops_run rfl rfl rfl rfl rfl (fun _ hk => e_lss hk rfl rfl rfl ⟨rfl, rfl⟩) ?_
      refine ops_val rfl rfl (fun _ hk => e_pick_t hk rfl rfl ⟨rfl, rfl⟩) ?_
      refine ops_end rfl ?_
      exact Post.sub ((12, .bool ((decide (((k : Nat) : Int) < ((xs.length : Nat) : Int)) && decide (((k : Nat) : Int) < 30)))) :: [(0, v), (3, .int .i64 ((totalR (xs.take k) : Nat) : Int)), (4, .int .i64 ((k : Nat) : Int))]) ⟨(congrArg (fun b => some (Value.bool b)) (by simp [hg6])), rfl, rfl, rfl, trivial⟩ (hQ5 _ Ext.rfl')
    · skip
      refine j_region rfl ?_
      refine ops_val rfl rfl (fun _ hk => e_move hk rfl ⟨rfl, rfl⟩) ?_
      refine ops_val rfl rfl (fun _ hk => e_move hk rfl ⟨rfl, rfl⟩) ?_
      refine ops_val rfl rfl (fun _ hk => e_len hk rfl Try.runUnderlying22 h1.sl.len ⟨rfl, rfl⟩) ?_
      refine ops_val rfl rfl (fun _ hk => e_lss hk rfl rfl (decide_eq_false hg6) ⟨rfl, rfl⟩) ?_
      refine ops_val rfl rfl (fun _ hk => e_move hk rfl ⟨rfl, rfl⟩) ?_
      refine ops_skip rfl rfl rfl rfl rfl ?_
      refine ops_skip rfl rfl rfl rfl rfl ?_
      refine ops_val rfl rfl (fun _ hk => e_pick_f hk rfl rfl ⟨rfl, rfl⟩) ?_
      refine ops_end rfl ?_
      exact Post.sub ((12, .bool ((decide (((k : Nat) : Int) < ((xs.length : Nat) : Int)) && decide (((k : Nat) : Int) < 30)))) :: [(0, v), (3, .int .i64 ((totalR (xs.take k) : Nat) : Int)), (4, .int .i64 ((k : Nat) : Int))]) ⟨(congrArg (fun b => some (Value.bool b)) (by simp [hg6])), rfl, rfl, rfl, trivial⟩ (hQ5 _ Ext.rfl')
  · skip
    have zE4 := E4.size
    replace E0 := E0.trans E4
    replace h1 := h1.ext E4
    replace E1 := E1.trans E4
    refine post_seq ?_
    refine jp_cond [true, true, false, true, false, false, false, true, false] [true, true, false, true, false, false, false, true, true] rfl rfl rfl rfl (fun hc7 => ?_) (fun hc7 => ?_)
    · simp only [Bool.and_eq_true, Bool.or_eq_true, Bool.not_eq_true', Bool.not_eq_false', Bool.and_eq_false_iff, Bool.or_eq_false_iff, decide_eq_true_eq, decide_eq_false_iff_not, Decidable.not_not, ne_eq] at hc7
      refine jp_skip rfl ?_
      refine post_seq ?_
      refine jp_seq [true, true, false, true, false, false, true, false] [true, true, false, true, false, false, true, true] rfl rfl rfl ?_
      refine jp_block [true, true, false, true, false, false, true, false, false] rfl rfl ?_
      refine jp_seq [true, true, false, true, false, false, true, false, false, false] [true, true, false, true, false, false, true, false, false, true] rfl rfl rfl ?_
      refine jp_seq [true, true, false, true, false, false, true, false, false, false, false] [true, true, false, true, false, false, true, false, false, false, true] rfl rfl rfl ?_
      refine j_region rfl ?_
      refine ops_val rfl rfl (fun _ hk => e_move hk rfl ⟨rfl, rfl⟩) ?_
      refine ops_val rfl rfl (fun _ hk => e_move hk rfl ⟨rfl, rfl⟩) ?_
      obtain ⟨x1, hx1⟩ := get_some xs (k) (by omega)
      have nb_x1 := n2 x1 (mem_get hx1)
      have A8 := h1.sl.at_ hx1
      have qA8 := h1.sl.block (by omega)
      have hr_x1 := h1.row x1 (mem_get hx1)
      refine ops_val rfl rfl (fun _ hk => e_indexAddr (k := k) hk rfl rfl Try.runUnderlying22 Try.sizeOf27 (h1.sl.has (by omega)) (by omega) ⟨rfl, rfl⟩) ?_
      refine ops_val rfl rfl (fun _ hk => e_load1 hk rfl Try.isAgg27 (A8.cell 0 rfl) ⟨rfl, rfl⟩) ?_
      refine ops_rel _ rfl rfl (fun _ hk => e_call hk rfl Try.call17 (LightR_spec _ x1.rs _ _ _ hr_x1 (nb_x1).1 (nb_x1).2) (fun _ _ h => h)) ?_
      rintro _ w9 ⟨E10, rfl⟩
      have zE10 := E10.size
      replace E0 := E0.trans E10
      replace h1 := h1.ext E10
      replace E1 := E1.trans E10
      replace A8 := A8.ext E10
      replace hr_x1 := hr_x1.ext E10
      refine ops_val rfl rfl (fun _ hk => e_not hk rfl ⟨rfl, rfl⟩) ?_
      refine ops_end rfl ?_
      refine post_seq ?_
      refine jp_cond [true, true, false, true, false, false, true, false, false, false, true, false] [true, true, false, true, false, false, true, false, false, false, true, true] rfl rfl rfl rfl (fun hc11 => ?_) (fun hc11 => ?_)
      · simp only [Bool.and_eq_true, Bool.or_eq_true, Bool.not_eq_true', Bool.not_eq_false', Bool.and_eq_false_iff, Bool.or_eq_false_iff, decide_eq_true_eq, decide_eq_false_iff_not, Decidable.not_not, ne_eq] at hc11
        refine jp_seq [true, true, false, true, false, false, true, false, false, false, true, false, false] [true, true, false, true, false, false, true, false, false, false, true, false, true] rfl rfl rfl ?_
        refine j_region rfl ?_
        refine ops_val rfl rfl (fun _ hk => e_assign hk rfl ⟨rfl, rfl⟩) ?_
        refine ops_end rfl ?_
        refine post_seq ?_
        refine jp_ret rfl ?_
        refine post_seq_ret ?_
        refine post_block_ret ?_
        refine post_seq_ret ?_
        refine post_loop_ret ?_
        refine post_block_ret ?_
        refine post_seq_ret ?_
        refine post_ret [.bool false] (.bool false) Try.results12 ⟨rfl, trivial⟩ rfl ?_
        refine ⟨E0, congrArg Value.bool ?_⟩; symm; exact lightLL_bad hx1 (by omega) (by simpa using hc11)
      · simp only [Bool.and_eq_true, Bool.or_eq_true, Bool.not_eq_true', Bool.not_eq_false', Bool.and_eq_false_iff, Bool.or_eq_false_iff, decide_eq_true_eq, decide_eq_false_iff_not, Decidable.not_not, ne_eq] at hc11
        have e60 := lightR_len (rs := x1.rs) (by simpa using hc11)
        refine jp_skip rfl ?_
        refine post_seq ?_
        refine j_region rfl ?_
        refine ops_val rfl rfl (fun _ hk => e_move hk rfl ⟨rfl, rfl⟩) ?_
        refine ops_val rfl rfl (fun _ hk => e_move hk rfl ⟨rfl, rfl⟩) ?_
        refine ops_val rfl rfl (fun _ hk => e_move hk rfl ⟨rfl, rfl⟩) ?_
        have A12 := h1.sl.at_ hx1
        have qA12 := h1.sl.block (by omega)
        have hr_x1 := h1.row x1 (mem_get hx1)
        refine ops_val rfl rfl (fun _ hk => e_indexAddr (k := k) hk rfl rfl Try.runUnderlying22 Try.sizeOf27 (h1.sl.has (by omega)) (by omega) ⟨rfl, rfl⟩) ?_
        refine ops_val rfl rfl (fun _ hk => e_load1 hk rfl Try.isAgg27 (A12.cell 0 rfl) ⟨rfl, rfl⟩) ?_
        refine ops_val rfl rfl (fun _ hk => e_len hk rfl Try.runUnderlying27 hr_x1.sl.len ⟨rfl, rfl⟩) ?_
        refine ops_val rfl rfl (fun _ hk => e_add hk rfl rfl (w64eq (c := (((totalR (xs.take k)) + x1.rs.length : Nat) : Int)) (by omega) (by omega)) ⟨rfl, rfl⟩) ?_
        refine ops_val rfl rfl (fun _ hk => e_assign hk rfl ⟨rfl, rfl⟩) ?_
        refine ops_end rfl ?_
        refine post_block ?_
        refine post_seq ?_
        refine j_region rfl ?_
        refine ops_val rfl rfl (fun _ hk => e_move hk rfl ⟨rfl, rfl⟩) ?_
        refine ops_val rfl rfl (fun _ hk => e_add hk rfl rfl (w64eq (c := ((k + 1 : Nat) : Int)) (by omega) (by omega)) ⟨rfl, rfl⟩) ?_
        refine ops_val rfl rfl (fun _ hk => e_assign hk rfl ⟨rfl, rfl⟩) ?_
        refine ops_end rfl ?_
        have e : totalR (xs.take k) + x1.rs.length = totalR (xs.take (k + 1)) := by rw [take_snoc hx1, totalR_snoc]
        exact post_loop (k + 1) ⟨rfl, rfl, (congrArg (fun n : Nat => some (Value.int .i64 (n : Int))) e), trivial⟩ ⟨E1, by omega, all_take_snoc hx1 hf (by simpa using hc11), by omega, by omega⟩ (by omega)
    · simp only [Bool.and_eq_true, Bool.or_eq_true, Bool.not_eq_true', Bool.not_eq_false', Bool.and_eq_false_iff, Bool.or_eq_false_iff, decide_eq_true_eq, decide_eq_false_iff_not, Decidable.not_not, ne_eq] at hc7
      refine jp_exit rfl ?_
      refine post_seq_exit ?_
      refine post_loop_exit ?_
      refine post_block_exit ?_
      refine post_seq ?_
      refine jp_seq [true, true, true, false] [true, true, true, true] rfl rfl rfl ?_
      refine J.sub [(0, v), (3, .int .i64 ((totalR (xs.take k) : Nat) : Int)), (4, .int .i64 ((k : Nat) : Int)), (12, .bool ((decide (((k : Nat) : Int) < ((xs.length : Nat) : Int)) && decide (((k : Nat) : Int) < 30))))] ⟨rfl, rfl, rfl, rfl, trivial⟩ ?_
      refine j_sum 2 ((decide (((xs.length : Nat) : Int) ≤ 20) && decide (((totalR (xs.take k) : Nat) : Int) ≤ 200))) (fun _ hQ15 => ?_) (fun w13 E14 => ?_)
      · skip
        by_cases hg16 : ((xs.length : Nat) : Int) ≤ 20
        · skip
          refine j_region rfl ?_
          refine ops_val rfl rfl (fun _ hk => e_move hk rfl ⟨rfl, rfl⟩) ?_
          refine ops_val rfl rfl (fun _ hk => e_len hk rfl Try.runUnderlying22 h1.sl.len ⟨rfl, rfl⟩) ?_
          refine ops_val rfl rfl (fun _ hk => e_leq hk rfl rfl (decide_eq_true hg16) ⟨rfl, rfl⟩) ?_
          refine ops_val rfl rfl (fun _ hk => e_move hk rfl ⟨rfl, rfl⟩) ?_
          refine ops_run rfl rfl rfl rfl rfl (fun _ hk => e_move hk rfl ⟨rfl, rfl⟩) ?_
          refine ops_run rfl rfl rfl rfl rfl (fun _ hk => e_leq hk rfl rfl rfl ⟨rfl, rfl⟩) ?_
          refine ops_val rfl rfl (fun _ hk => e_pick_t hk rfl rfl ⟨rfl, rfl⟩) ?_
          refine ops_val rfl rfl (fun _ hk => e_assign hk rfl ⟨rfl, rfl⟩) ?_
          refine ops_end rfl ?_
          exact Post.sub ((2, .bool ((decide (((xs.length : Nat) : Int) ≤ 20) && decide (((totalR (xs.take k) : Nat) : Int) ≤ 200)))) :: [(0, v), (3, .int .i64 ((totalR (xs.take k) : Nat) : Int)), (4, .int .i64 ((k : Nat) : Int)), (12, .bool ((decide (((k : Nat) : Int) < ((xs.length : Nat) : Int)) && decide (((k : Nat) : Int) < 30))))]) ⟨(congrArg (fun b => some (Value.bool b)) (by simp [hg16])), rfl, rfl, rfl, rfl, trivial⟩ (hQ15 _ Ext.rfl')
        · skip
          refine j_region rfl ?_
          refine ops_val rfl rfl (fun _ hk => e_move hk rfl ⟨rfl, rfl⟩) ?_
          refine ops_val rfl rfl (fun _ hk => e_len hk rfl Try.runUnderlying22 h1.sl.len ⟨rfl, rfl⟩) ?_
          refine ops_val rfl rfl (fun _ hk => e_leq hk rfl rfl (decide_eq_false hg16) ⟨rfl, rfl⟩) ?_
          refine ops_val rfl rfl (fun _ hk => e_move hk rfl ⟨rfl, rfl⟩) ?_
          refine ops_skip rfl rfl rfl rfl rfl ?_
          refine ops_skip rfl rfl rfl rfl rfl ?_
          refine ops_val rfl rfl (fun _ hk => e_pick_f hk rfl rfl ⟨rfl, rfl⟩) ?_
          refine ops_val rfl rfl (fun _ hk => e_assign hk rfl ⟨rfl, rfl⟩) ?_
          refine ops_end rfl ?_
          exact Post.sub ((2, .bool ((decide (((xs.length : Nat) : Int) ≤ 20) && decide (((totalR (xs.take k) : Nat) : Int) ≤ 200)))) :: [(0, v), (3, .int .i64 ((totalR (xs.take k) : Nat) : Int)), (4, .int .i64 ((k : Nat) : Int)), (12, .bool ((decide (((k : Nat) : Int) < ((xs.length : Nat) : Int)) && decide (((k : Nat) : Int) < 30))))]) ⟨(congrArg (fun b => some (Value.bool b)) (by simp [hg16])), rfl, rfl, rfl, rfl, trivial⟩ (hQ15 _ Ext.rfl')
      · skip
        have zE14 := E14.size
        replace E0 := E0.trans E14
        replace h1 := h1.ext E14
        refine post_seq ?_
        refine jp_ret rfl ?_
        refine post_ret [.bool ((decide (((xs.length : Nat) : Int) ≤ 20) && decide (((totalR (xs.take k) : Nat) : Int) ≤ 200)))] (.bool ((decide (((xs.length : Nat) : Int) ≤ 20) && decide (((totalR (xs.take k) : Nat) : Int) ≤ 200)))) Try.results12 ⟨rfl, trivial⟩ rfl ?_
        refine ⟨E0, congrArg Value.bool ?_⟩; rw [lightLL_end hf (by omega) (by omega)]; first | exact decide_eq_decide.2 (by omega) | (congr 1 <;> exact decide_eq_decide.2 (by omega))
end Lp
