/- Walks, printed by a program of mine (wip/tools/vc.py): each theorem says what a function of the translation hands back. -/
import Derived.Test.YtjhkajkickngmaaW4
import Derived.Test.YtjhkajkickngmaaMSort
set_option linter.unusedSimpArgs false
set_option linter.unusedVariables false
namespace Lp
open Go Go.RowKit Go.Proofs


set_option maxHeartbeats 2000000 in
set_option maxRecDepth 100000 in
theorem InOrder_spec (o : Int) (v : Value) (l : List RowD) (lo hi : Nat) (w : World) (h1 : RRow w lo hi v l) (m1 : l.length ≤ 1000000000) (n1 : ∀ r ∈ l, r.ls.length ≤ 1000000000) :
    Calls Try.prog 25 #[.int .i64 o, v] w (Ret fun res w' => Ext w w' ∧ res = .bool (sortedB o l)) := by
  refine calls_of_J Try.func25 rfl (N := 23) rfl rfl ?_
  have top_h1 := h1.top
  have E0 : Ext w w := Ext.rfl'
  refine jp_seq [false] [true] rfl rfl rfl ?_
  refine j_region rfl ?_
  refine ops_val rfl rfl (fun _ hk => e_assign hk rfl ⟨rfl, rfl⟩) ?_
  refine ops_end rfl ?_
  refine post_seq ?_
  refine jp_seq [true, false] [true, true] rfl rfl rfl ?_
  refine jp_seq [true, false, false] [true, false, true] rfl rfl rfl ?_
  refine j_region rfl ?_
  refine ops_val rfl rfl (fun _ hk => e_assign hk rfl ⟨rfl, rfl⟩) ?_
  refine ops_end rfl ?_
  refine post_seq ?_
  refine jp_block [true, false, true, false] rfl rfl ?_
  refine jp_loop (fun (g : Nat) => [(0, .int .i64 o), (1, v), (5, .int .i64 ((g : Nat) : Int))]) (fun (g : Nat) (wl : World) => (Ext w wl) ∧ (1 ≤ g) ∧ (g ≤ l.length + 1) ∧ (∀ i, i + 1 < g → ∀ x y, l[i]? = some x → l[i + 1]? = some y → leR o x y)) (fun (g : Nat) => l.length - g) [true, false, true, false, false] (1) rfl rfl ⟨rfl, rfl, rfl, trivial⟩ ⟨Ext.rfl', Nat.le_refl _, by omega, fun i hi => absurd hi (by omega)⟩ ?_
  rintro k w2 ⟨E1, hk0, hk, hf⟩
  have zE1 := E1.size
  replace E0 := E0.trans E1
  replace h1 := h1.ext E1
  refine J.sub [(0, .int .i64 o), (1, v), (5, .int .i64 ((k : Nat) : Int))] ⟨rfl, rfl, rfl, trivial⟩ ?_
  refine jp_seq [true, false, true, false, false, false] [true, false, true, false, false, true] rfl rfl rfl ?_
  refine jp_seq [true, false, true, false, false, false, false] [true, false, true, false, false, false, true] rfl rfl rfl ?_
  refine j_region rfl ?_
  refine ops_val rfl rfl (fun _ hk => e_move hk rfl ⟨rfl, rfl⟩) ?_
  refine ops_val rfl rfl (fun _ hk => e_move hk rfl ⟨rfl, rfl⟩) ?_
  refine ops_val rfl rfl (fun _ hk => e_len hk rfl Try.runUnderlying27 h1.sl.len ⟨rfl, rfl⟩) ?_
  refine ops_val rfl rfl (fun _ hk => e_lss hk rfl rfl rfl ⟨rfl, rfl⟩) ?_
  refine ops_end rfl ?_
  refine post_seq ?_
  refine jp_cond [true, false, true, false, false, false, true, false] [true, false, true, false, false, false, true, true] rfl rfl rfl rfl (fun hc3 => ?_) (fun hc3 => ?_)
  · replace hc3 := of_decide_eq_true hc3
    refine jp_skip rfl ?_
    refine post_seq ?_
    refine jp_seq [true, false, true, false, false, true, false] [true, false, true, false, false, true, true] rfl rfl rfl ?_
    refine jp_block [true, false, true, false, false, true, false, false] rfl rfl ?_
    refine jp_seq [true, false, true, false, false, true, false, false, false] [true, false, true, false, false, true, false, false, true] rfl rfl rfl ?_
    refine J.sub [(0, .int .i64 o), (1, v), (5, .int .i64 ((k : Nat) : Int)), (6, .int .i64 ((k : Nat) : Int)), (7, v), (8, .int .i64 ((l.length : Nat) : Int)), (9, .bool (decide (((k : Nat) : Int) < ((l.length : Nat) : Int))))] ⟨rfl, rfl, rfl, rfl, rfl, rfl, rfl, trivial⟩ ?_
    refine wp_draw 11 mixed rfl rfl ?_
    refine dr_val rfl rfl (fun ρ_ w_ E_ hk _ => e_move hk rfl ⟨Ext.rfl', rfl⟩) ?_
    refine dr_val rfl rfl (fun ρ_ w_ E_ hk _ => e_move hk rfl ⟨Ext.rfl', rfl⟩) ?_
    refine dr_val rfl rfl (fun ρ_ w_ E_ hk _ => e_move hk rfl ⟨Ext.rfl', rfl⟩) ?_
    obtain ⟨x1, hx1⟩ := get_some l (k) (by omega)
    have nl_x1 := n1 x1 (mem_get hx1)
    have A4 := h1.sl.at_ hx1
    have qA4 := h1.sl.block (by omega)
    have hl_x1 := h1.lab x1 (mem_get hx1)
    refine dr_val rfl rfl (fun ρ_ w_ E_ hk _ => e_indexAddr (k := k) hk rfl rfl Try.runUnderlying27 Try.sizeOf34 (h1.sl.has (by omega)) (by omega) ⟨Ext.rfl', rfl⟩) ?_
    refine dr_val rfl rfl (fun ρ_ w_ E_ hk _ => e_loadA (cs := [x1.lv, .int .i64 (x1.v)]) hk rfl Try.isAgg34 Try.sizeOf34 (A4.ext E_) ⟨Ext.rfl', rfl⟩) ?_
    refine dr_val rfl rfl (fun ρ_ w_ E_ hk _ => e_move hk rfl ⟨Ext.rfl', rfl⟩) ?_
    refine dr_val rfl rfl (fun ρ_ w_ E_ hk _ => e_move hk rfl ⟨Ext.rfl', rfl⟩) ?_
    refine dr_val rfl rfl (fun ρ_ w_ E_ hk _ => e_sub hk rfl rfl (w64eq (c := (((k : Nat) : Int) - 1)) (by omega) (by omega)) ⟨Ext.rfl', rfl⟩) ?_
    obtain ⟨x2, hx2⟩ := get_some l (((((k : Nat) : Int) - 1)).toNat) (by omega)
    have nl_x2 := n1 x2 (mem_get hx2)
    have A5 := h1.sl.at_ hx2
    have qA5 := h1.sl.block (by omega)
    have hl_x2 := h1.lab x2 (mem_get hx2)
    refine dr_val rfl rfl (fun ρ_ w_ E_ hk _ => e_indexAddr (k := ((((k : Nat) : Int) - 1)).toNat) hk rfl rfl Try.runUnderlying27 Try.sizeOf34 (h1.sl.has (by omega)) (by omega) ⟨Ext.rfl', rfl⟩) ?_
    refine dr_val rfl rfl (fun ρ_ w_ E_ hk _ => e_loadA (cs := [x2.lv, .int .i64 (x2.v)]) hk rfl Try.isAgg34 Try.sizeOf34 (A5.ext E_) ⟨Ext.rfl', rfl⟩) ?_
    refine dr_val rfl rfl (fun ρ_ w_ E_ hk _ => e_call hk rfl Try.call49 (Less_spec o x1 x2 _ _ _ _ _ (hl_x1.ext E_) (hl_x2.ext E_) (by first | omega | exact Nat.zero_le _) (by first | omega | exact Nat.zero_le _)) (fun _ _ h => h)) ?_
    refine dr_end rfl (fun w6 E7 => ?_)
    have zE7 := E7.size
    replace E0 := E0.trans E7
    replace h1 := h1.ext E7
    replace E1 := E1.trans E7
    replace A4 := A4.ext E7
    replace hl_x1 := hl_x1.ext E7
    replace A5 := A5.ext E7
    replace hl_x2 := hl_x2.ext E7
    refine Ops.sub [(0, .int .i64 o), (1, v), (5, .int .i64 ((k : Nat) : Int)), (6, .int .i64 ((k : Nat) : Int)), (7, v), (8, .int .i64 ((l.length : Nat) : Int)), (9, .bool (decide (((k : Nat) : Int) < ((l.length : Nat) : Int)))), (12, .int .i64 o), (13, v), (14, .int .i64 ((k : Nat) : Int)), (15, .pointer (some ⟨bl v, of_ v + (k) * 2, none⟩)), (16, .agg #[x1.lv, .int .i64 (x1.v)]), (17, v), (18, .int .i64 ((k : Nat) : Int)), (19, .int .i64 (((k : Nat) : Int) - 1)), (20, .pointer (some ⟨bl v, of_ v + (((((k : Nat) : Int) - 1)).toNat) * 2, none⟩)), (21, .agg #[x2.lv, .int .i64 (x2.v)]), (22, .bool (less o x1 x2))] ⟨rfl, rfl, rfl, rfl, rfl, rfl, rfl, rfl, rfl, rfl, rfl, rfl, rfl, rfl, rfl, rfl, rfl, rfl, trivial⟩ ?_
    refine ops_end rfl ?_
    refine post_seq ?_
    refine jp_cond [true, false, true, false, false, true, false, false, true, false] [true, false, true, false, false, true, false, false, true, true] rfl rfl rfl rfl (fun hc8 => ?_) (fun hc8 => ?_)
    · skip
      refine jp_seq [true, false, true, false, false, true, false, false, true, false, false] [true, false, true, false, false, true, false, false, true, false, true] rfl rfl rfl ?_
      refine j_region rfl ?_
      refine ops_val rfl rfl (fun _ hk => e_assign hk rfl ⟨rfl, rfl⟩) ?_
      refine ops_end rfl ?_
      refine post_seq ?_
      refine jp_ret rfl ?_
      refine post_block_ret ?_
      refine post_seq_ret ?_
      refine post_loop_ret ?_
      refine post_block_ret ?_
      refine post_seq_ret ?_
      refine post_ret [.bool false] (.bool false) Try.results25 ⟨rfl, trivial⟩ rfl ?_
      exact ⟨E0, congrArg Value.bool (sortedB_false hx2 hx1 (by omega) hc8).symm⟩
    · skip
      refine jp_skip rfl ?_
      refine post_block ?_
      refine post_seq ?_
      refine j_region rfl ?_
      refine ops_val rfl rfl (fun _ hk => e_move hk rfl ⟨rfl, rfl⟩) ?_
      refine ops_val rfl rfl (fun _ hk => e_add hk rfl rfl (w64eq (c := ((k + 1 : Nat) : Int)) (by omega) (by omega)) ⟨rfl, rfl⟩) ?_
      refine ops_val rfl rfl (fun _ hk => e_assign hk rfl ⟨rfl, rfl⟩) ?_
      refine ops_end rfl ?_
      exact post_loop (k + 1) ⟨rfl, rfl, rfl, trivial⟩ ⟨E1, by omega, by omega, sorted_next hf hx2 hx1 (by omega) hc8⟩ (by omega)
  · replace hc3 := of_decide_eq_false hc3
    refine jp_exit rfl ?_
    refine post_seq_exit ?_
    refine post_loop_exit ?_
    refine post_block_exit ?_
    refine post_seq ?_
    refine J.sub [] trivial ?_
    refine jp_seq [true, true, false] [true, true, true] rfl rfl rfl ?_
    refine j_region rfl ?_
    refine ops_val rfl rfl (fun _ hk => e_assign hk rfl ⟨rfl, rfl⟩) ?_
    refine ops_end rfl ?_
    refine post_seq ?_
    refine jp_ret rfl ?_
    refine post_ret [.bool true] (.bool true) Try.results25 ⟨rfl, trivial⟩ rfl ?_
    exact ⟨E0, congrArg Value.bool (sortedB_true hf (by omega)).symm⟩

set_option maxHeartbeats 2000000 in
set_option maxRecDepth 100000 in
theorem Sort_spec (o : Int) (v : Value) (l : List RowD) (lo hi : Nat) (w : World) (h1 : RRow w lo hi v l) (m1 : l.length ≤ 1000000000) (n1 : ∀ r ∈ l, r.ls.length ≤ 1000000000) :
    Calls Try.prog 28 #[.int .i64 o, v] w (Ret fun res w' => Ext w w' ∧ Own RowD.cs 2 34 w' w.heap.size res (sortR o l) ∧ Labs w' lo hi (sortR o l)) := by
  refine calls_of_J Try.func28 rfl (N := 48) rfl rfl ?_
  have top_h1 := h1.top
  have E0 : Ext w w := Ext.rfl'
  refine jp_seq [false] [true] rfl rfl rfl ?_
  refine j_region rfl ?_
  refine ops_val rfl rfl (fun _ hk => e_assign hk rfl ⟨rfl, rfl⟩) ?_
  refine ops_end rfl ?_
  refine post_seq ?_
  refine jp_seq [true, false] [true, true] rfl rfl rfl ?_
  refine j_region rfl ?_
  refine ops_val rfl rfl (fun _ hk => e_assign hk rfl ⟨rfl, rfl⟩) ?_
  refine ops_end rfl ?_
  refine post_seq ?_
  refine jp_seq [true, true, false] [true, true, true] rfl rfl rfl ?_
  refine jp_seq [true, true, false, false] [true, true, false, true] rfl rfl rfl ?_
  refine j_region rfl ?_
  refine ops_val rfl rfl (fun _ hk => e_assign hk rfl ⟨rfl, rfl⟩) ?_
  refine ops_end rfl ?_
  refine post_seq ?_
  refine jp_block [true, true, false, true, false] rfl rfl ?_
  refine jp_loop (fun (g : Nat × Value × List RowD) => [(0, .int .i64 o), (1, v), (4, .slice none 0 0), (6, .int .i64 ((g.1 : Nat) : Int)), (5, g.2.1)]) (fun (g : Nat × Value × List RowD) (wl : World) => (Ext w wl) ∧ (g.1 ≤ l.length) ∧ (g.2.2 = sortR o (l.take g.1)) ∧ (Own RowD.cs 2 34 wl w.heap.size g.2.1 g.2.2) ∧ (Labs wl lo hi g.2.2)) (fun (g : Nat × Value × List RowD) => l.length - g.1) [true, true, false, true, false, false] ((0, .slice none 0 0, [])) rfl rfl ⟨rfl, rfl, rfl, rfl, rfl, trivial⟩ ⟨Ext.rfl', Nat.zero_le _, rfl, Own.nil _ _, Labs.nil⟩ ?_
  rintro ⟨k, ov, out⟩ w2 ⟨E1, hk, hout, ho, hlab⟩
  replace hk : k ≤ l.length := hk
  replace hout : out = sortR o (l.take k) := hout
  replace ho : Own RowD.cs 2 34 w2 w.heap.size ov out := ho
  replace hlab : Labs w2 lo hi out := hlab
  have zE1 := E1.size
  replace E0 := E0.trans E1
  replace h1 := h1.ext E1
  refine J.sub [(0, .int .i64 o), (1, v), (4, .slice none 0 0), (6, .int .i64 ((k : Nat) : Int)), (5, ov)] ⟨rfl, rfl, rfl, rfl, rfl, trivial⟩ ?_
  refine jp_seq [true, true, false, true, false, false, false] [true, true, false, true, false, false, true] rfl rfl rfl ?_
  refine jp_seq [true, true, false, true, false, false, false, false] [true, true, false, true, false, false, false, true] rfl rfl rfl ?_
  refine j_region rfl ?_
  refine ops_val rfl rfl (fun _ hk => e_move hk rfl ⟨rfl, rfl⟩) ?_
  refine ops_val rfl rfl (fun _ hk => e_move hk rfl ⟨rfl, rfl⟩) ?_
  refine ops_val rfl rfl (fun _ hk => e_len hk rfl Try.runUnderlying27 h1.sl.len ⟨rfl, rfl⟩) ?_
  refine ops_val rfl rfl (fun _ hk => e_lss hk rfl rfl rfl ⟨rfl, rfl⟩) ?_
  refine ops_end rfl ?_
  refine post_seq ?_
  refine jp_cond [true, true, false, true, false, false, false, true, false] [true, true, false, true, false, false, false, true, true] rfl rfl rfl rfl (fun hc3 => ?_) (fun hc3 => ?_)
  · replace hc3 := of_decide_eq_true hc3
    obtain ⟨x1, hx1⟩ := get_some l (k) (by omega)
    have hl_x1 := h1.lab x1 (mem_get hx1)
    have nl_x1 := n1 x1 (mem_get hx1)
    have hol : out.length = k := by rw [hout, sortR_length, List.length_take]; omega
    refine jp_skip rfl ?_
    refine post_seq ?_
    refine jp_seq [true, true, false, true, false, false, true, false] [true, true, false, true, false, false, true, true] rfl rfl rfl ?_
    refine jp_block [true, true, false, true, false, false, true, false, false] rfl rfl ?_
    refine jp_seq [true, true, false, true, false, false, true, false, false, false] [true, true, false, true, false, false, true, false, false, true] rfl rfl rfl ?_
    refine j_region rfl ?_
    refine ops_val rfl rfl (fun _ hk => e_move hk rfl ⟨rfl, rfl⟩) ?_
    refine ops_val rfl rfl (fun _ hk => e_len hk rfl Try.runUnderlying27 ho.sl.len ⟨rfl, rfl⟩) ?_
    refine ops_val rfl rfl (fun _ hk => e_assign hk rfl ⟨rfl, rfl⟩) ?_
    refine ops_end rfl ?_
    refine post_seq ?_
    refine jp_seq [true, true, false, true, false, false, true, false, false, true, false] [true, true, false, true, false, false, true, false, false, true, true] rfl rfl rfl ?_
    refine jp_block [true, true, false, true, false, false, true, false, false, true, false, false] rfl rfl ?_
    refine jp_loop (fun (g : Nat) => [(0, .int .i64 o), (1, v), (4, .slice none 0 0), (5, ov), (6, .int .i64 ((k : Nat) : Int)), (8, .int .i64 ((k : Nat) : Int)), (9, v), (10, .int .i64 ((l.length : Nat) : Int)), (11, .bool (decide (((k : Nat) : Int) < ((l.length : Nat) : Int)))), (14, ov), (15, .int .i64 ((out.length : Nat) : Int)), (7, .int .i64 ((g : Nat) : Int))]) (fun (g : Nat) (wl : World) => (Ext w2 wl) ∧ (g ≤ out.length) ∧ (posR o x1 out out.length = posR o x1 out g)) (fun (g : Nat) => g) [true, true, false, true, false, false, true, false, false, true, false, false, false] (out.length) rfl rfl ⟨rfl, rfl, rfl, rfl, rfl, rfl, rfl, rfl, rfl, rfl, rfl, rfl, trivial⟩ ⟨Ext.rfl', Nat.le_refl _, rfl⟩ ?_
    rintro n w5 ⟨E4, hn, hp⟩
    have zE4 := E4.size
    replace E0 := E0.trans E4
    replace h1 := h1.ext E4
    replace ho := ho.ext E4
    replace hlab := hlab.ext E4
    replace E1 := E1.trans E4
    replace hl_x1 := hl_x1.ext E4
    refine J.sub [(0, .int .i64 o), (1, v), (4, .slice none 0 0), (5, ov), (6, .int .i64 ((k : Nat) : Int)), (8, .int .i64 ((k : Nat) : Int)), (9, v), (10, .int .i64 ((l.length : Nat) : Int)), (11, .bool (decide (((k : Nat) : Int) < ((l.length : Nat) : Int)))), (14, ov), (15, .int .i64 ((out.length : Nat) : Int)), (7, .int .i64 ((n : Nat) : Int))] ⟨rfl, rfl, rfl, rfl, rfl, rfl, rfl, rfl, rfl, rfl, rfl, rfl, trivial⟩ ?_
    refine jp_seq [true, true, false, true, false, false, true, false, false, true, false, false, false, false] [true, true, false, true, false, false, true, false, false, true, false, false, false, true] rfl rfl rfl ?_
    refine jp_seq [true, true, false, true, false, false, true, false, false, true, false, false, false, false, false] [true, true, false, true, false, false, true, false, false, true, false, false, false, false, true] rfl rfl rfl ?_
    by_cases hg6 : 0 < ((n : Nat) : Int)
    · skip
      refine J.sub [(0, .int .i64 o), (1, v), (4, .slice none 0 0), (5, ov), (6, .int .i64 ((k : Nat) : Int)), (7, .int .i64 ((n : Nat) : Int)), (8, .int .i64 ((k : Nat) : Int)), (9, v), (10, .int .i64 ((l.length : Nat) : Int)), (11, .bool (decide (((k : Nat) : Int) < ((l.length : Nat) : Int)))), (14, ov), (15, .int .i64 ((out.length : Nat) : Int))] ⟨rfl, rfl, rfl, rfl, rfl, rfl, rfl, rfl, rfl, rfl, rfl, rfl, trivial⟩ ?_
      refine wp_draw 15 mixed rfl rfl ?_
      refine dr_val rfl rfl (fun ρ_ w_ E_ hk _ => e_move hk rfl ⟨Ext.rfl', rfl⟩) ?_
      refine dr_val rfl rfl (fun ρ_ w_ E_ hk _ => e_gtr hk rfl rfl (decide_eq_true hg6) ⟨Ext.rfl', rfl⟩) ?_
      refine dr_val rfl rfl (fun ρ_ w_ E_ hk _ => e_move hk rfl ⟨Ext.rfl', rfl⟩) ?_
      refine dr_run rfl rfl rfl rfl (fun _ => rfl) (fun ρ_ w_ E_ hk _ => e_move hk rfl ⟨Ext.rfl', rfl⟩) ?_
      refine dr_run rfl rfl rfl rfl (fun _ => rfl) (fun ρ_ w_ E_ hk _ => e_move hk rfl ⟨Ext.rfl', rfl⟩) ?_
      refine dr_run rfl rfl rfl rfl (fun _ => rfl) (fun ρ_ w_ E_ hk _ => e_move hk rfl ⟨Ext.rfl', rfl⟩) ?_
      have A7 := h1.sl.at_ hx1
      have qA7 := h1.sl.block (by omega)
      have hl_x1 := h1.lab x1 (mem_get hx1)
      refine dr_run rfl rfl rfl rfl (fun _ => rfl) (fun ρ_ w_ E_ hk _ => e_indexAddr (k := k) hk rfl rfl Try.runUnderlying27 Try.sizeOf34 (h1.sl.has (by omega)) (by omega) ⟨Ext.rfl', rfl⟩) ?_
      refine dr_run rfl rfl rfl rfl (fun _ => rfl) (fun ρ_ w_ E_ hk _ => e_loadA (cs := [x1.lv, .int .i64 (x1.v)]) hk rfl Try.isAgg34 Try.sizeOf34 (A7.ext E_) ⟨Ext.rfl', rfl⟩) ?_
      refine dr_run rfl rfl rfl rfl (fun _ => rfl) (fun ρ_ w_ E_ hk _ => e_move hk rfl ⟨Ext.rfl', rfl⟩) ?_
      refine dr_run rfl rfl rfl rfl (fun _ => rfl) (fun ρ_ w_ E_ hk _ => e_move hk rfl ⟨Ext.rfl', rfl⟩) ?_
      refine dr_run rfl rfl rfl rfl (fun _ => rfl) (fun ρ_ w_ E_ hk _ => e_sub hk rfl rfl (w64eq (c := (((n : Nat) : Int) - 1)) (by omega) (by omega)) ⟨Ext.rfl', rfl⟩) ?_
      obtain ⟨x2, hx2⟩ := get_some out (((((n : Nat) : Int) - 1)).toNat) (by omega)
      have hl_x2 := hlab x2 (mem_get hx2)
      have nl_x2 := n1 x2 (sortR_mem hout (mem_get hx2))
      have A8 := ho.sl.at_ hx2
      have qA8 := ho.sl.block (by omega)
      refine dr_run rfl rfl rfl rfl (fun _ => rfl) (fun ρ_ w_ E_ hk _ => e_indexAddr (k := ((((n : Nat) : Int) - 1)).toNat) hk rfl rfl Try.runUnderlying27 Try.sizeOf34 (ho.sl.has (by omega)) (by omega) ⟨Ext.rfl', rfl⟩) ?_
      refine dr_run rfl rfl rfl rfl (fun _ => rfl) (fun ρ_ w_ E_ hk _ => e_loadA (cs := [x2.lv, .int .i64 (x2.v)]) hk rfl Try.isAgg34 Try.sizeOf34 (A8.ext E_) ⟨Ext.rfl', rfl⟩) ?_
      refine dr_run rfl rfl rfl rfl (fun _ => rfl) (fun ρ_ w_ E_ hk _ => e_call hk rfl Try.call18 (refLess_spec o x1 x2 _ _ _ _ _ (hl_x1.ext E_) (hl_x2.ext E_) (by first | omega | exact Nat.zero_le _) (by first | omega | exact Nat.zero_le _)) (fun _ _ h => h)) ?_
      refine dr_val rfl rfl (fun ρ_ w_ E_ hk _ => e_pick_t hk rfl rfl ⟨Ext.rfl', rfl⟩) ?_
      refine dr_end rfl (fun w9 E10 => ?_)
      have zE10 := E10.size
      replace E0 := E0.trans E10
      replace h1 := h1.ext E10
      replace ho := ho.ext E10
      replace hlab := hlab.ext E10
      replace E1 := E1.trans E10
      replace E4 := E4.trans E10
      replace A7 := A7.ext E10
      replace hl_x1 := hl_x1.ext E10
      replace hl_x2 := hl_x2.ext E10
      replace A8 := A8.ext E10
      refine Ops.sub [(0, .int .i64 o), (1, v), (4, .slice none 0 0), (5, ov), (6, .int .i64 ((k : Nat) : Int)), (7, .int .i64 ((n : Nat) : Int)), (8, .int .i64 ((k : Nat) : Int)), (9, v), (10, .int .i64 ((l.length : Nat) : Int)), (11, .bool (decide (((k : Nat) : Int) < ((l.length : Nat) : Int)))), (14, ov), (15, .int .i64 ((out.length : Nat) : Int)), (16, .int .i64 ((n : Nat) : Int)), (17, .bool true), (18, .bool true), (19, .int .i64 o), (20, v), (21, .int .i64 ((k : Nat) : Int)), (22, .pointer (some ⟨bl v, of_ v + (k) * 2, none⟩)), (23, .agg #[x1.lv, .int .i64 (x1.v)]), (24, ov), (25, .int .i64 ((n : Nat) : Int)), (26, .int .i64 (((n : Nat) : Int) - 1)), (27, .pointer (some ⟨bl ov, of_ ov + (((((n : Nat) : Int) - 1)).toNat) * 2, none⟩)), (28, .agg #[x2.lv, .int .i64 (x2.v)]), (29, .bool (less o x1 x2)), (30, .bool (less o x1 x2))] ⟨rfl, rfl, rfl, rfl, rfl, rfl, rfl, rfl, rfl, rfl, rfl, rfl, rfl, rfl, rfl, rfl, rfl, rfl, rfl, rfl, rfl, rfl, rfl, rfl, rfl, rfl, rfl, trivial⟩ ?_
      refine ops_end rfl ?_
      refine post_seq ?_
      refine jp_cond [true, true, false, true, false, false, true, false, false, true, false, false, false, false, true, false] [true, true, false, true, false, false, true, false, false, true, false, false, false, false, true, true] rfl rfl rfl rfl (fun hc11 => ?_) (fun hc11 => ?_)
      · skip
        refine jp_skip rfl ?_
        refine post_seq ?_
        refine jp_block [true, true, false, true, false, false, true, false, false, true, false, false, false, true, false] rfl rfl ?_
        refine j_region rfl ?_
        refine ops_val rfl rfl (fun _ hk => e_move hk rfl ⟨rfl, rfl⟩) ?_
        refine ops_val rfl rfl (fun _ hk => e_sub hk rfl rfl (w64eq (c := (((n : Nat) : Int) - 1)) (by omega) (by omega)) ⟨rfl, rfl⟩) ?_
        refine ops_val rfl rfl (fun _ hk => e_assign hk rfl ⟨rfl, rfl⟩) ?_
        refine ops_end rfl ?_
        refine post_block ?_
        exact post_loop (n - 1) ⟨rfl, rfl, rfl, rfl, rfl, rfl, rfl, rfl, rfl, rfl, rfl, (congrArg (fun n => some (Value.int .i64 n)) (by omega)), trivial⟩ ⟨E4, by omega, hp.trans (posR_next hx2 (by omega) (by omega) hc11)⟩ (by omega)
      · skip
        refine jp_exit rfl ?_
        refine post_seq_exit ?_
        refine post_loop_exit ?_
        refine post_block_exit ?_
        refine post_seq ?_
        refine J.sub [(0, .int .i64 o), (1, v), (4, .slice none 0 0), (5, ov), (6, .int .i64 ((k : Nat) : Int)), (7, .int .i64 ((n : Nat) : Int)), (8, .int .i64 ((k : Nat) : Int)), (9, v), (10, .int .i64 ((l.length : Nat) : Int)), (11, .bool (decide (((k : Nat) : Int) < ((l.length : Nat) : Int)))), (14, ov), (15, .int .i64 ((out.length : Nat) : Int)), (16, .int .i64 ((n : Nat) : Int)), (17, .bool true), (18, .bool true), (19, .int .i64 o), (20, v), (21, .int .i64 ((k : Nat) : Int)), (22, .pointer (some ⟨bl v, of_ v + (k) * 2, none⟩)), (23, .agg #[x1.lv, .int .i64 (x1.v)]), (24, ov), (25, .int .i64 ((n : Nat) : Int)), (26, .int .i64 (((n : Nat) : Int) - 1)), (27, .pointer (some ⟨bl ov, of_ ov + (((((n : Nat) : Int) - 1)).toNat) * 2, none⟩)), (28, .agg #[x2.lv, .int .i64 (x2.v)]), (29, .bool (less o x1 x2)), (30, .bool (less o x1 x2))] ⟨rfl, rfl, rfl, rfl, rfl, rfl, rfl, rfl, rfl, rfl, rfl, rfl, rfl, rfl, rfl, rfl, rfl, rfl, rfl, rfl, rfl, rfl, rfl, rfl, rfl, rfl, rfl, trivial⟩ ?_
        refine wp_draw 14 mixed rfl rfl ?_
        refine dr_val rfl rfl (fun ρ_ w_ E_ hk _ => e_move hk rfl ⟨Ext.rfl', rfl⟩) ?_
        refine dr_val rfl rfl (fun ρ_ w_ E_ hk _ => e_move hk rfl ⟨Ext.rfl', rfl⟩) ?_
        have hs12 := ho.sl.cut (0) (n) (by omega) (by omega)
        refine dr_val rfl rfl (fun ρ_ w_ E_ hk _ => e_slice (n := out.length) (a := 0) (b := n) hk rfl rfl (congrArg some (hk.op rfl)) (.inl ⟨rfl, rfl⟩) (.inr ⟨_, rfl⟩) Try.runUnderlying27 Try.sizeOf34 (ho.sl.capLe (by omega)) (by omega) ⟨Ext.rfl', rfl⟩) ?_
        refine dr_lin (φ := (fun v w => Own RowD.cs 2 34 w (w9.heap.size) v ((out.take n).drop 0))) 9 rfl rfl (fun _ _ _ E h => h.ext E) (fun ρ_ w_ E_ hk _ => e_append (cs := RowD.cs) (z := 2) (base := w9.heap.size) hk rfl rfl und_27 infz_34 rfl (by decide) (Own.nil _ (w9.heap.size)) (hs12.ext E_) (fun r hr => ⟨(hlab r (List.mem_of_mem_take (List.mem_of_mem_drop hr))).one, rfl, trivial⟩) (by unfold maxLen; simp only [List.length_append, List.length_cons, List.length_nil, List.length_take, List.length_drop]; omega) (by simp only [List.length_append, List.length_cons, List.length_nil, List.length_take, List.length_drop]; omega) E_.size (fun v_ w9 h1 h2 h3 => ⟨app_nil h2, h1⟩)) ?_
        refine dr_val rfl rfl (fun ρ_ w_ E_ hk _ => e_move hk rfl ⟨Ext.rfl', rfl⟩) ?_
        refine dr_val rfl rfl (fun ρ_ w_ E_ hk _ => e_move hk rfl ⟨Ext.rfl', rfl⟩) ?_
        have A13 := h1.sl.at_ hx1
        have qA13 := h1.sl.block (by omega)
        have hl_x1 := h1.lab x1 (mem_get hx1)
        refine dr_val rfl rfl (fun ρ_ w_ E_ hk _ => e_indexAddr (k := k) hk rfl rfl Try.runUnderlying27 Try.sizeOf34 (h1.sl.has (by omega)) (by omega) ⟨Ext.rfl', rfl⟩) ?_
        refine dr_val rfl rfl (fun ρ_ w_ E_ hk _ => e_loadA (cs := [x1.lv, .int .i64 (x1.v)]) hk rfl Try.isAgg34 Try.sizeOf34 (A13.ext E_) ⟨Ext.rfl', rfl⟩) ?_
        refine dr_lin (φ := ASl RowD.cs 2 [x1]) 9 rfl rfl ASl.mono (fun ρ_ w_ E_ hk _ => e_buildSlice [.tmp 40] [[x1.lv, .int .i64 (x1.v)]] hk rfl rfl Try.runUnderlying27 Try.sizeOf34 Try.zeroValue34 rfl rfl rfl rfl ⟨rfl, rfl, trivial⟩ (fun g w' n => ⟨n.ext, _, _, At.sl n.box.at_ rfl (by intro x _; rfl) rfl⟩)) ?_
        refine dr_linw (φ := (fun v w => Own RowD.cs 2 34 w (w9.heap.size) v (((out.take n).drop 0) ++ [x1]))) (some 13) rfl rfl (fun _ _ _ E h => h.ext E) (fun ρ_ w_ E_ hk ⟨hq36, ⟨_, _, hq41⟩, _⟩ => e_append (cs := RowD.cs) (z := 2) (base := w9.heap.size) hk rfl rfl und_27 infz_34 rfl (by decide) hq36 hq41 (by intro r_ hr_; simp at hr_; subst hr_; exact ⟨hl_x1.one, rfl, trivial⟩) (by unfold maxLen; simp only [List.length_append, List.length_cons, List.length_nil, List.length_take, List.length_drop]; omega) (by simp only [List.length_append, List.length_cons, List.length_nil, List.length_take, List.length_drop]; omega) E_.size (fun v_ w9 h1 h2 h3 => ⟨app_old E_ h2 (Nat.le_refl _), h1⟩)) ?_
        refine dr_val rfl rfl (fun ρ_ w_ E_ hk _ => e_move hk rfl ⟨Ext.rfl', rfl⟩) ?_
        refine dr_val rfl rfl (fun ρ_ w_ E_ hk _ => e_move hk rfl ⟨Ext.rfl', rfl⟩) ?_
        have hs14 := ho.sl.cut (n) (out.length) (by omega) (by omega)
        refine dr_val rfl rfl (fun ρ_ w_ E_ hk _ => e_slice (n := out.length) (a := n) (b := out.length) hk rfl (congrArg some (hk.op rfl)) rfl (.inr ⟨_, rfl⟩) (.inl ⟨rfl, rfl⟩) Try.runUnderlying27 Try.sizeOf34 (ho.sl.capLe (by omega)) (by omega) ⟨Ext.rfl', rfl⟩) ?_
        refine dr_linw (φ := (fun v w => Own RowD.cs 2 34 w (w9.heap.size) v ((((out.take n).drop 0) ++ [x1]) ++ (out.take out.length).drop n))) none rfl rfl (fun _ _ _ E h => h.ext E) (fun ρ_ w_ E_ hk ⟨hq42, _⟩ => e_append (cs := RowD.cs) (z := 2) (base := w9.heap.size) hk rfl rfl und_27 infz_34 rfl (by decide) hq42 (hs14.ext E_) (fun r hr => ⟨(hlab r (List.mem_of_mem_take (List.mem_of_mem_drop hr))).one, rfl, trivial⟩) (by unfold maxLen; simp only [List.length_append, List.length_cons, List.length_nil, List.length_take, List.length_drop]; omega) (by simp only [List.length_append, List.length_cons, List.length_nil, List.length_take, List.length_drop]; omega) E_.size (fun v_ w9 h1 h2 h3 => ⟨app_old E_ h2 (Nat.le_refl _), h1⟩)) ?_
        refine dr_end rfl (fun w15 E16 v46 hv46 v42  v41  v36  => ?_)
        have zE16 := E16.size
        replace E0 := E0.trans E16
        replace h1 := h1.ext E16
        replace ho := ho.ext E16
        replace hlab := hlab.ext E16
        replace E1 := E1.trans E16
        replace A7 := A7.ext E16
        replace hl_x2 := hl_x2.ext E16
        replace A8 := A8.ext E16
        replace hs12 := hs12.ext E16
        replace A13 := A13.ext E16
        replace hl_x1 := hl_x1.ext E16
        replace hs14 := hs14.ext E16
        have lt_hv46 := fun g h => (hv46.lt (g := g) h).2
        refine Ops.sub [(0, .int .i64 o), (1, v), (4, .slice none 0 0), (5, ov), (6, .int .i64 ((k : Nat) : Int)), (7, .int .i64 ((n : Nat) : Int)), (8, .int .i64 ((k : Nat) : Int)), (9, v), (10, .int .i64 ((l.length : Nat) : Int)), (11, .bool (decide (((k : Nat) : Int) < ((l.length : Nat) : Int)))), (14, ov), (15, .int .i64 ((out.length : Nat) : Int)), (16, .int .i64 ((n : Nat) : Int)), (17, .bool true), (18, .bool true), (19, .int .i64 o), (20, v), (21, .int .i64 ((k : Nat) : Int)), (22, .pointer (some ⟨bl v, of_ v + (k) * 2, none⟩)), (23, .agg #[x1.lv, .int .i64 (x1.v)]), (24, ov), (25, .int .i64 ((n : Nat) : Int)), (26, .int .i64 (((n : Nat) : Int) - 1)), (27, .pointer (some ⟨bl ov, of_ ov + (((((n : Nat) : Int) - 1)).toNat) * 2, none⟩)), (28, .agg #[x2.lv, .int .i64 (x2.v)]), (29, .bool (less o x1 x2)), (30, .bool (less o x1 x2)), (33, ov), (34, .int .i64 ((n : Nat) : Int)), (35, cut 2 ov 0 n), (36, v36), (37, v), (38, .int .i64 ((k : Nat) : Int)), (39, .pointer (some ⟨bl v, of_ v + (k) * 2, none⟩)), (40, .agg #[x1.lv, .int .i64 (x1.v)]), (41, v41), (42, v42), (43, ov), (44, .int .i64 ((n : Nat) : Int)), (45, cut 2 ov n out.length), (46, v46)] ⟨rfl, rfl, rfl, rfl, rfl, rfl, rfl, rfl, rfl, rfl, rfl, rfl, rfl, rfl, rfl, rfl, rfl, rfl, rfl, rfl, rfl, rfl, rfl, rfl, rfl, rfl, rfl, rfl, rfl, rfl, rfl, rfl, rfl, rfl, rfl, rfl, rfl, rfl, rfl, rfl, rfl, trivial⟩ ?_
        refine ops_val rfl rfl (fun _ hk => e_assign hk rfl ⟨rfl, rfl⟩) ?_
        refine ops_end rfl ?_
        refine post_block ?_
        refine post_seq ?_
        refine j_region rfl ?_
        refine ops_val rfl rfl (fun _ hk => e_move hk rfl ⟨rfl, rfl⟩) ?_
        refine ops_val rfl rfl (fun _ hk => e_add hk rfl rfl (w64eq (c := ((k + 1 : Nat) : Int)) (by omega) (by omega)) ⟨rfl, rfl⟩) ?_
        refine ops_val rfl rfl (fun _ hk => e_assign hk rfl ⟨rfl, rfl⟩) ?_
        refine ops_end rfl ?_
        exact post_loop ((k + 1, v46, ((((out.take n).drop 0) ++ [x1]) ++ (out.take out.length).drop n))) ⟨rfl, rfl, rfl, rfl, rfl, trivial⟩ ⟨E1, by omega, sort_eq hx1 hout (hp.trans (by first | exact posR_stop hx2 (by omega) hc11 | (have h0 : n = 0 := (by omega); rw [h0]; rfl))), hv46.base_le (by omega), labs_ins hlab hl_x1⟩ (by omega)
    · skip
      refine J.sub [(0, .int .i64 o), (1, v), (4, .slice none 0 0), (5, ov), (6, .int .i64 ((k : Nat) : Int)), (7, .int .i64 ((n : Nat) : Int)), (8, .int .i64 ((k : Nat) : Int)), (9, v), (10, .int .i64 ((l.length : Nat) : Int)), (11, .bool (decide (((k : Nat) : Int) < ((l.length : Nat) : Int)))), (14, ov), (15, .int .i64 ((out.length : Nat) : Int))] ⟨rfl, rfl, rfl, rfl, rfl, rfl, rfl, rfl, rfl, rfl, rfl, rfl, trivial⟩ ?_
      refine wp_draw 15 mixed rfl rfl ?_
      refine dr_val rfl rfl (fun ρ_ w_ E_ hk _ => e_move hk rfl ⟨Ext.rfl', rfl⟩) ?_
      refine dr_val rfl rfl (fun ρ_ w_ E_ hk _ => e_gtr hk rfl rfl (decide_eq_false hg6) ⟨Ext.rfl', rfl⟩) ?_
      refine dr_val rfl rfl (fun ρ_ w_ E_ hk _ => e_move hk rfl ⟨Ext.rfl', rfl⟩) ?_
      refine dr_skip rfl rfl rfl rfl (fun _ => rfl) ?_
      refine dr_skip rfl rfl rfl rfl (fun _ => rfl) ?_
      refine dr_skip rfl rfl rfl rfl (fun _ => rfl) ?_
      refine dr_skip rfl rfl rfl rfl (fun _ => rfl) ?_
      refine dr_skip rfl rfl rfl rfl (fun _ => rfl) ?_
      refine dr_skip rfl rfl rfl rfl (fun _ => rfl) ?_
      refine dr_skip rfl rfl rfl rfl (fun _ => rfl) ?_
      refine dr_skip rfl rfl rfl rfl (fun _ => rfl) ?_
      refine dr_skip rfl rfl rfl rfl (fun _ => rfl) ?_
      refine dr_skip rfl rfl rfl rfl (fun _ => rfl) ?_
      refine dr_skip rfl rfl rfl rfl (fun _ => rfl) ?_
      refine dr_val rfl rfl (fun ρ_ w_ E_ hk _ => e_pick_f hk rfl rfl ⟨Ext.rfl', rfl⟩) ?_
      refine dr_end rfl (fun w17 E18 => ?_)
      have zE18 := E18.size
      replace E0 := E0.trans E18
      replace h1 := h1.ext E18
      replace ho := ho.ext E18
      replace hlab := hlab.ext E18
      replace E1 := E1.trans E18
      replace hl_x1 := hl_x1.ext E18
      replace E4 := E4.trans E18
      refine Ops.sub [(0, .int .i64 o), (1, v), (4, .slice none 0 0), (5, ov), (6, .int .i64 ((k : Nat) : Int)), (7, .int .i64 ((n : Nat) : Int)), (8, .int .i64 ((k : Nat) : Int)), (9, v), (10, .int .i64 ((l.length : Nat) : Int)), (11, .bool (decide (((k : Nat) : Int) < ((l.length : Nat) : Int)))), (14, ov), (15, .int .i64 ((out.length : Nat) : Int)), (16, .int .i64 ((n : Nat) : Int)), (17, .bool false), (18, .bool false), (19, undef), (20, undef), (21, undef), (22, undef), (23, undef), (24, undef), (25, undef), (26, undef), (27, undef), (28, undef), (29, undef), (30, .bool false)] ⟨rfl, rfl, rfl, rfl, rfl, rfl, rfl, rfl, rfl, rfl, rfl, rfl, rfl, rfl, rfl, rfl, rfl, rfl, rfl, rfl, rfl, rfl, rfl, rfl, rfl, rfl, rfl, trivial⟩ ?_
      refine ops_end rfl ?_
      refine post_seq ?_
      refine jp_cond_f [true, true, false, true, false, false, true, false, false, true, false, false, false, false, true, true] rfl rfl rfl ?_
      refine jp_exit rfl ?_
      refine post_seq_exit ?_
      refine post_loop_exit ?_
      refine post_block_exit ?_
      refine post_seq ?_
      refine J.sub [(0, .int .i64 o), (1, v), (4, .slice none 0 0), (5, ov), (6, .int .i64 ((k : Nat) : Int)), (7, .int .i64 ((n : Nat) : Int)), (8, .int .i64 ((k : Nat) : Int)), (9, v), (10, .int .i64 ((l.length : Nat) : Int)), (11, .bool (decide (((k : Nat) : Int) < ((l.length : Nat) : Int)))), (14, ov), (15, .int .i64 ((out.length : Nat) : Int)), (16, .int .i64 ((n : Nat) : Int)), (17, .bool false), (18, .bool false), (19, undef), (20, undef), (21, undef), (22, undef), (23, undef), (24, undef), (25, undef), (26, undef), (27, undef), (28, undef), (29, undef), (30, .bool false)] ⟨rfl, rfl, rfl, rfl, rfl, rfl, rfl, rfl, rfl, rfl, rfl, rfl, rfl, rfl, rfl, rfl, rfl, rfl, rfl, rfl, rfl, rfl, rfl, rfl, rfl, rfl, rfl, trivial⟩ ?_
      refine wp_draw 14 mixed rfl rfl ?_
      refine dr_val rfl rfl (fun ρ_ w_ E_ hk _ => e_move hk rfl ⟨Ext.rfl', rfl⟩) ?_
      refine dr_val rfl rfl (fun ρ_ w_ E_ hk _ => e_move hk rfl ⟨Ext.rfl', rfl⟩) ?_
      have hs19 := ho.sl.cut (0) (n) (by omega) (by omega)
      refine dr_val rfl rfl (fun ρ_ w_ E_ hk _ => e_slice (n := out.length) (a := 0) (b := n) hk rfl rfl (congrArg some (hk.op rfl)) (.inl ⟨rfl, rfl⟩) (.inr ⟨_, rfl⟩) Try.runUnderlying27 Try.sizeOf34 (ho.sl.capLe (by omega)) (by omega) ⟨Ext.rfl', rfl⟩) ?_
      refine dr_lin (φ := (fun v w => Own RowD.cs 2 34 w (w17.heap.size) v ((out.take n).drop 0))) 9 rfl rfl (fun _ _ _ E h => h.ext E) (fun ρ_ w_ E_ hk _ => e_append (cs := RowD.cs) (z := 2) (base := w17.heap.size) hk rfl rfl und_27 infz_34 rfl (by decide) (Own.nil _ (w17.heap.size)) (hs19.ext E_) (fun r hr => ⟨(hlab r (List.mem_of_mem_take (List.mem_of_mem_drop hr))).one, rfl, trivial⟩) (by unfold maxLen; simp only [List.length_append, List.length_cons, List.length_nil, List.length_take, List.length_drop]; omega) (by simp only [List.length_append, List.length_cons, List.length_nil, List.length_take, List.length_drop]; omega) E_.size (fun v_ w9 h1 h2 h3 => ⟨app_nil h2, h1⟩)) ?_
      refine dr_val rfl rfl (fun ρ_ w_ E_ hk _ => e_move hk rfl ⟨Ext.rfl', rfl⟩) ?_
      refine dr_val rfl rfl (fun ρ_ w_ E_ hk _ => e_move hk rfl ⟨Ext.rfl', rfl⟩) ?_
      have A20 := h1.sl.at_ hx1
      have qA20 := h1.sl.block (by omega)
      have hl_x1 := h1.lab x1 (mem_get hx1)
      refine dr_val rfl rfl (fun ρ_ w_ E_ hk _ => e_indexAddr (k := k) hk rfl rfl Try.runUnderlying27 Try.sizeOf34 (h1.sl.has (by omega)) (by omega) ⟨Ext.rfl', rfl⟩) ?_
      refine dr_val rfl rfl (fun ρ_ w_ E_ hk _ => e_loadA (cs := [x1.lv, .int .i64 (x1.v)]) hk rfl Try.isAgg34 Try.sizeOf34 (A20.ext E_) ⟨Ext.rfl', rfl⟩) ?_
      refine dr_lin (φ := ASl RowD.cs 2 [x1]) 9 rfl rfl ASl.mono (fun ρ_ w_ E_ hk _ => e_buildSlice [.tmp 40] [[x1.lv, .int .i64 (x1.v)]] hk rfl rfl Try.runUnderlying27 Try.sizeOf34 Try.zeroValue34 rfl rfl rfl rfl ⟨rfl, rfl, trivial⟩ (fun g w' n => ⟨n.ext, _, _, At.sl n.box.at_ rfl (by intro x _; rfl) rfl⟩)) ?_
      refine dr_linw (φ := (fun v w => Own RowD.cs 2 34 w (w17.heap.size) v (((out.take n).drop 0) ++ [x1]))) (some 13) rfl rfl (fun _ _ _ E h => h.ext E) (fun ρ_ w_ E_ hk ⟨hq36, ⟨_, _, hq41⟩, _⟩ => e_append (cs := RowD.cs) (z := 2) (base := w17.heap.size) hk rfl rfl und_27 infz_34 rfl (by decide) hq36 hq41 (by intro r_ hr_; simp at hr_; subst hr_; exact ⟨hl_x1.one, rfl, trivial⟩) (by unfold maxLen; simp only [List.length_append, List.length_cons, List.length_nil, List.length_take, List.length_drop]; omega) (by simp only [List.length_append, List.length_cons, List.length_nil, List.length_take, List.length_drop]; omega) E_.size (fun v_ w9 h1 h2 h3 => ⟨app_old E_ h2 (Nat.le_refl _), h1⟩)) ?_
      refine dr_val rfl rfl (fun ρ_ w_ E_ hk _ => e_move hk rfl ⟨Ext.rfl', rfl⟩) ?_
      refine dr_val rfl rfl (fun ρ_ w_ E_ hk _ => e_move hk rfl ⟨Ext.rfl', rfl⟩) ?_
      have hs21 := ho.sl.cut (n) (out.length) (by omega) (by omega)
      refine dr_val rfl rfl (fun ρ_ w_ E_ hk _ => e_slice (n := out.length) (a := n) (b := out.length) hk rfl (congrArg some (hk.op rfl)) rfl (.inr ⟨_, rfl⟩) (.inl ⟨rfl, rfl⟩) Try.runUnderlying27 Try.sizeOf34 (ho.sl.capLe (by omega)) (by omega) ⟨Ext.rfl', rfl⟩) ?_
      refine dr_linw (φ := (fun v w => Own RowD.cs 2 34 w (w17.heap.size) v ((((out.take n).drop 0) ++ [x1]) ++ (out.take out.length).drop n))) none rfl rfl (fun _ _ _ E h => h.ext E) (fun ρ_ w_ E_ hk ⟨hq42, _⟩ => e_append (cs := RowD.cs) (z := 2) (base := w17.heap.size) hk rfl rfl und_27 infz_34 rfl (by decide) hq42 (hs21.ext E_) (fun r hr => ⟨(hlab r (List.mem_of_mem_take (List.mem_of_mem_drop hr))).one, rfl, trivial⟩) (by unfold maxLen; simp only [List.length_append, List.length_cons, List.length_nil, List.length_take, List.length_drop]; omega) (by simp only [List.length_append, List.length_cons, List.length_nil, List.length_take, List.length_drop]; omega) E_.size (fun v_ w9 h1 h2 h3 => ⟨app_old E_ h2 (Nat.le_refl _), h1⟩)) ?_
      refine dr_end rfl (fun w22 E23 v46 hv46 v42  v41  v36  => ?_)
      have zE23 := E23.size
      replace E0 := E0.trans E23
      replace h1 := h1.ext E23
      replace ho := ho.ext E23
      replace hlab := hlab.ext E23
      replace E1 := E1.trans E23
      replace hs19 := hs19.ext E23
      replace A20 := A20.ext E23
      replace hl_x1 := hl_x1.ext E23
      replace hs21 := hs21.ext E23
      have lt_hv46 := fun g h => (hv46.lt (g := g) h).2
      refine Ops.sub [(0, .int .i64 o), (1, v), (4, .slice none 0 0), (5, ov), (6, .int .i64 ((k : Nat) : Int)), (7, .int .i64 ((n : Nat) : Int)), (8, .int .i64 ((k : Nat) : Int)), (9, v), (10, .int .i64 ((l.length : Nat) : Int)), (11, .bool (decide (((k : Nat) : Int) < ((l.length : Nat) : Int)))), (14, ov), (15, .int .i64 ((out.length : Nat) : Int)), (16, .int .i64 ((n : Nat) : Int)), (17, .bool false), (18, .bool false), (19, undef), (20, undef), (21, undef), (22, undef), (23, undef), (24, undef), (25, undef), (26, undef), (27, undef), (28, undef), (29, undef), (30, .bool false), (33, ov), (34, .int .i64 ((n : Nat) : Int)), (35, cut 2 ov 0 n), (36, v36), (37, v), (38, .int .i64 ((k : Nat) : Int)), (39, .pointer (some ⟨bl v, of_ v + (k) * 2, none⟩)), (40, .agg #[x1.lv, .int .i64 (x1.v)]), (41, v41), (42, v42), (43, ov), (44, .int .i64 ((n : Nat) : Int)), (45, cut 2 ov n out.length), (46, v46)] ⟨rfl, rfl, rfl, rfl, rfl, rfl, rfl, rfl, rfl, rfl, rfl, rfl, rfl, rfl, rfl, rfl, rfl, rfl, rfl, rfl, rfl, rfl, rfl, rfl, rfl, rfl, rfl, rfl, rfl, rfl, rfl, rfl, rfl, rfl, rfl, rfl, rfl, rfl, rfl, rfl, rfl, trivial⟩ ?_
      refine ops_val rfl rfl (fun _ hk => e_assign hk rfl ⟨rfl, rfl⟩) ?_
      refine ops_end rfl ?_
      refine post_block ?_
      refine post_seq ?_
      refine j_region rfl ?_
      refine ops_val rfl rfl (fun _ hk => e_move hk rfl ⟨rfl, rfl⟩) ?_
      refine ops_val rfl rfl (fun _ hk => e_add hk rfl rfl (w64eq (c := ((k + 1 : Nat) : Int)) (by omega) (by omega)) ⟨rfl, rfl⟩) ?_
      refine ops_val rfl rfl (fun _ hk => e_assign hk rfl ⟨rfl, rfl⟩) ?_
      refine ops_end rfl ?_
      exact post_loop ((k + 1, v46, ((((out.take n).drop 0) ++ [x1]) ++ (out.take out.length).drop n))) ⟨rfl, rfl, rfl, rfl, rfl, trivial⟩ ⟨E1, by omega, sort_eq hx1 hout (hp.trans (by first | exact posR_stop hx2 (by omega) hc11 | (have h0 : n = 0 := (by omega); rw [h0]; rfl))), hv46.base_le (by omega), labs_ins hlab hl_x1⟩ (by omega)
  · replace hc3 := of_decide_eq_false hc3
    refine jp_exit rfl ?_
    refine post_seq_exit ?_
    refine post_loop_exit ?_
    refine post_block_exit ?_
    refine post_seq ?_
    refine J.sub [(4, .slice none 0 0), (5, ov)] ⟨rfl, rfl, trivial⟩ ?_
    refine jp_seq [true, true, true, false] [true, true, true, true] rfl rfl rfl ?_
    refine j_region rfl ?_
    refine ops_val rfl rfl (fun _ hk => e_move hk rfl ⟨rfl, rfl⟩) ?_
    refine ops_val rfl rfl (fun _ hk => e_assign hk rfl ⟨rfl, rfl⟩) ?_
    refine ops_end rfl ?_
    refine post_seq ?_
    refine jp_ret rfl ?_
    refine post_ret [ov] (ov) Try.results28 ⟨rfl, trivial⟩ rfl ?_
    rw [List.take_of_length_le (by omega)] at hout
    subst hout
    exact ⟨E0, ho, hlab⟩

theorem RowsS_spec (o : Int) (v : Value) (ll : List LR) (la ha lo hi : Nat) (w : World) (hL : SlT LR.cs 1 w la ha v ll) (hR : Rws w lo hi ll) (hS : Small 1000000000 (lls ll)) (nl : ll.length ≤ 1000000000) (nt : total (lls ll) ≤ 1000000000) (hH : hi ≤ w.heap.size) (hs : ∀ l ∈ lls ll, Sorted o l) :
    Calls Try.prog 16 #[.int .i64 o, v] w (Ret fun res w' => Ext w w' ∧ Own RowD.cs 2 34 w' w.heap.size res (sortR o (lls ll).flatten) ∧ Labs w' lo hi (sortR o (lls ll).flatten)) := by
  refine (Rows_spec o v ll la ha lo hi w hL hR hS nl nt hH).mono fun e W' he => ?_
  obtain ⟨res, e1, E, hv, rs, hs', hrun, ho1, ho2, hlab⟩ := he
  have := (hrun.stable hs).eq (sortR_stable o _)
  subst this
  exact ⟨res, e1, E, ho1, hlab⟩
end Lp
