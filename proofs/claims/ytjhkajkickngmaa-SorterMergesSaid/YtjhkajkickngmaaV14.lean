/- Walks, printed by a program of mine (wip/tools/dw.py): each theorem says what a function of the translation hands back. -/
import Derived.Test.YtjhkajkickngmaaV1
import Derived.Test.YtjhkajkickngmaaDK
import Derived.Test.YtjhkajkickngmaaPRow
import Derived.Test.YtjhkajkickngmaaDJ
import Derived.Test.YtjhkajkickngmaaDP
set_option linter.unusedSimpArgs false
set_option linter.unusedVariables false
namespace Lp
open Go Go.RowKit Go.Proofs

namespace HdV14
end HdV14
open HdV14

set_option maxHeartbeats 4000000 in
set_option maxRecDepth 100000 in
theorem cmpf_c (a : RowD) (b : RowD) (o : Int)  :
    CD Try.prog 175 [] [RowD.d a, RowD.d b, .el (.v (.int .i64 o)) 0] (isR (dI (cmpRow o a b))) := by
  refine cd_of_JD Try.func175 rfl (N := 10) rfl rfl (fun C => ?_)
  refine JD.keep [0, 1, 2] [(0, RowD.d a), (1, RowD.d b), (2, .el (.v (.int .i64 o)) 0)] rfl ?_
  refine JD.bd 0 rfl (fun bd0 => ?_)
  refine JD.bd 1 rfl (fun bd1 => ?_)
  refine JD.bd 2 rfl (fun bd2 => ?_)
  refine jd_seq [false] [true] rfl rfl rfl ?_
  refine jd_region rfl ?_
  refine od_step rfl rfl (ef_box rfl (CellD.agg)) ?_
  rintro _ _ ⟨g1, rfl, rfl⟩
  refine od_step rfl rfl (ef_box rfl (CellD.agg)) ?_
  rintro _ _ ⟨g2, rfl, rfl⟩
  refine od_pu rfl rfl (p_assign rfl) ?_
  refine od_nil rfl ?_
  refine pd_seq ?_
  refine jd_seq [true, false] [true, true] rfl rfl rfl ?_
  refine jd_region rfl ?_
  refine od_pu rfl rfl (p_load_el1 rfl Try.isAgg3 rfl) ?_
  refine od_pu rfl rfl (p_load_bx (d := RowD.d a) rfl (i := 1) rfl Try.isAgg34 Try.sizeOf34 rfl rfl) ?_
  refine od_pu rfl rfl (p_load_bx (d := RowD.d b) rfl (i := 0) rfl Try.isAgg34 Try.sizeOf34 rfl rfl) ?_
  refine od_step rfl rfl (ef_call [] _ [] rfl rfl (.cons ArgC.id (.cons ArgC.id (.cons ArgC.id .nil))) lend_nil Try.call110 (compare_c o a b) (.inl rfl)) ?_
  rintro _ _ ⟨_, ⟨rfl, rfl⟩, rfl⟩
  refine OpsD.norm [.bx g2 34 (RowD.d b), .bx g1 34 (RowD.d a)] rfl ?_
  refine od_pu rfl rfl (p_assign rfl) ?_
  refine od_nil rfl ?_
  refine pd_seq ?_
  refine JD.keep [5] [(5, .v (.int .i64 (cmpRow o a b)))] rfl ?_
  refine jd_ret rfl ?_
  exact pd_retH Try.results175 (.cons (ro_tmp rfl) .nil) rfl HSub.none ⟨rfl, rfl⟩

set_option maxHeartbeats 4000000 in
set_option maxRecDepth 100000 in
theorem swpR_c (v : Value) (l : List RowD) (a b n : Nat) (o : Int) (h1 : a + n ≤ b) (h2 : b + n ≤ l.length) (hl : l.length ≤ 1000000) :
    CD Try.prog 190 [.sl v 2 34 (l.map RowD.d)] [.ov v, .v (.int .i64 ((a : Nat) : Int)), .v (.int .i64 ((b : Nat) : Int)), .v (.int .i64 ((n : Nat) : Int)), .fn 175 [] [.el (.v (.int .i64 o)) 0]] (fun r H' => r = .tup [] ∧ H' = [.sl v 2 34 ((swpN n a b l).map RowD.d)]) := by
  refine cd_of_JD Try.func190 rfl (N := 38) rfl rfl (fun C => ?_)
  refine JD.keep [0, 1, 2, 3, 4] [(0, .ov v), (1, .v (.int .i64 ((a : Nat) : Int))), (2, .v (.int .i64 ((b : Nat) : Int))), (3, .v (.int .i64 ((n : Nat) : Int))), (4, .fn 175 [] [.el (.v (.int .i64 o)) 0])] rfl ?_
  refine jd_seq [false] [true] rfl rfl rfl ?_
  refine jd_region rfl ?_
  refine od_pu rfl rfl (p_assign rfl) ?_
  refine od_nil rfl ?_
  refine pd_seq ?_
  refine jd_block [true, false] rfl rfl ?_
  refine jd_loop (fun (g : Nat × Nat × List RowD) => [(0, .ov v), (1, .v (.int .i64 ((a : Nat) : Int))), (2, .v (.int .i64 ((b : Nat) : Int))), (3, .v (.int .i64 ((n : Nat) : Int))), (10, .v (.int .i64 ((g.1 : Nat) : Int)))]) (fun (g : Nat × Nat × List RowD) => [.sl v 2 34 (g.2.2.map RowD.d)]) (fun (g : Nat × Nat × List RowD) => (g.1 + g.2.1 = n) ∧ ((g.2.2).length = l.length) ∧ (swpN g.2.1 (a + g.1) (b + g.1) g.2.2 = swpN n a b l)) (fun (g : Nat × Nat × List RowD) => n - g.1) [true, false, false] (0, n, l) rfl rfl ⟨sk rfl, sk rfl, sk rfl, sk rfl, sk rfl, trivial⟩ HSub.rfl' ⟨Nat.zero_add _, rfl, rfl⟩ ?_
  rintro ⟨i, k, L⟩ ⟨hi, hL, hr⟩
  replace hi : i + k = n := hi
  replace hL : (L).length = l.length := hL
  replace hr : swpN k (a + i) (b + i) L = swpN n a b l := hr
  refine JD.keep [0, 1, 2, 3, 10] [(0, .ov v), (1, .v (.int .i64 ((a : Nat) : Int))), (2, .v (.int .i64 ((b : Nat) : Int))), (3, .v (.int .i64 ((n : Nat) : Int))), (10, .v (.int .i64 ((i : Nat) : Int)))] rfl ?_
  refine JD.norm [.sl v 2 34 (L.map RowD.d)] rfl ?_
  refine jd_seq [true, false, false, false] [true, false, false, true] rfl rfl rfl ?_
  refine jd_seq [true, false, false, false, false] [true, false, false, false, true] rfl rfl rfl ?_
  refine jd_region rfl ?_
  refine od_pu rfl rfl (p_move rfl) ?_
  refine od_pu rfl rfl (p_move rfl) ?_
  refine od_pu rfl rfl (p_lss rfl rfl rfl) ?_
  refine od_nil rfl ?_
  refine pd_seq ?_
  refine jd_cond [true, false, false, false, true, false] [true, false, false, false, true, true] rfl rfl rfl rfl (fun hc1 => ?_) (fun hc1 => ?_)
  · replace hc1 := of_decide_eq_true hc1
    refine jd_skip rfl ?_
    refine pd_seq ?_
    refine jd_seq [true, false, false, true, false] [true, false, false, true, true] rfl rfl rfl ?_
    refine jd_block [true, false, false, true, false, false] rfl rfl ?_
    refine JD.keep [0, 1, 2, 3, 10, 11, 12, 13] [(0, .ov v), (1, .v (.int .i64 ((a : Nat) : Int))), (2, .v (.int .i64 ((b : Nat) : Int))), (3, .v (.int .i64 ((n : Nat) : Int))), (10, .v (.int .i64 ((i : Nat) : Int))), (11, .v (.int .i64 ((i : Nat) : Int))), (12, .v (.int .i64 ((n : Nat) : Int))), (13, .v (.bool (decide (((i : Nat) : Int) < ((n : Nat) : Int)))))] rfl ?_
    refine JD.norm [.sl v 2 34 (L.map RowD.d)] rfl ?_
    obtain ⟨x1, hx1⟩ := get_some L (b + i) (by (try simp only [List.length_set]); omega)
    obtain ⟨x2, hx2⟩ := get_some L (a + i) (by (try simp only [List.length_set]); omega)
    refine jd_drawo 22 [(16, .q (.ov v)), (17, .q (.v (.int .i64 ((a : Nat) : Int)))), (18, .q (.v (.int .i64 ((i : Nat) : Int)))), (19, .q (.v (.int .i64 ((a + i : Nat) : Int)))), (20, .q (.ov v)), (21, .q (.v (.int .i64 ((b : Nat) : Int)))), (22, .q (.v (.int .i64 ((i : Nat) : Int)))), (23, .q (.v (.int .i64 ((b + i : Nat) : Int)))), (24, .q (.ov v)), (25, .q (.v (.int .i64 ((b : Nat) : Int)))), (26, .q (.v (.int .i64 ((i : Nat) : Int)))), (27, .q (.v (.int .i64 ((b + i : Nat) : Int)))), (28, .r (.v (.pointer (some ⟨bl v, (b + i) * 2 + 0, none⟩)))), (29, .r (RowD.d x1)), (30, .q (.ov v)), (31, .q (.v (.int .i64 ((a : Nat) : Int)))), (32, .q (.v (.int .i64 ((i : Nat) : Int)))), (33, .q (.v (.int .i64 ((a + i : Nat) : Int)))), (34, .r (.v (.pointer (some ⟨bl v, (a + i) * 2 + 0, none⟩)))), (35, .r (RowD.d x2)), (36, .r (.v (.pointer (some ⟨bl v, (a + i) * 2 + 0, none⟩)))), (59, .s (fun γ => [.sl v 2 34 ((L.set (a + i) x1).map RowD.d)]))] [] (Hn := fun γ => [.sl v 2 34 ((L.set (a + i) x1).map RowD.d)]) mixed rfl rfl (by kernel_rfl) (by kernel_rfl) (by kernel_rfl) HSub.none (fun _ => rfl) (fun γ => ⟨so_p rfl rfl rfl (p_move rfl), so_p rfl rfl rfl (p_move rfl), so_p rfl rfl rfl (p_move rfl), so_p rfl rfl rfl (p_add (c := ((a + i : Nat) : Int)) rfl rfl (w64eq (by omega) (by omega))), so_p rfl rfl rfl (p_move rfl), so_p rfl rfl rfl (p_move rfl), so_p rfl rfl rfl (p_move rfl), so_p rfl rfl rfl (p_add (c := ((b + i : Nat) : Int)) rfl rfl (w64eq (by omega) (by omega))), so_p rfl rfl rfl (p_move rfl), so_p rfl rfl rfl (p_move rfl), so_p rfl rfl rfl (p_move rfl), so_p rfl rfl rfl (p_add (c := ((b + i : Nat) : Int)) rfl rfl (w64eq (by omega) (by omega))), so_r rfl rfl rfl rfl (p_indexAddr_sl (k := b + i) (j := 0) rfl rfl rfl Try.runUnderlying27 Try.sizeOf34 (by first | rfl | omega) (get_map hx1)), so_r rfl rfl rfl rfl (p_load_sl (d := RowD.d x1) rfl (i := 0) rfl (get_map hx1) Try.isAgg34 Try.sizeOf34 rfl rfl), so_p rfl rfl rfl (p_move rfl), so_p rfl rfl rfl (p_move rfl), so_p rfl rfl rfl (p_move rfl), so_p rfl rfl rfl (p_add (c := ((a + i : Nat) : Int)) rfl rfl (w64eq (by omega) (by omega))), so_r rfl rfl rfl rfl (p_indexAddr_sl (k := a + i) (j := 0) rfl rfl rfl Try.runUnderlying27 Try.sizeOf34 (by first | rfl | omega) (get_map hx2)), so_r rfl rfl rfl rfl (p_load_sl (d := RowD.d x2) rfl (i := 0) rfl (get_map hx2) Try.isAgg34 Try.sizeOf34 rfl rfl), so_r rfl rfl rfl rfl (p_indexAddr_sl (k := a + i) (j := 0) rfl rfl rfl Try.runUnderlying27 Try.sizeOf34 (by first | rfl | omega) (get_map hx2)), so_st rfl rfl rfl rfl rfl ((ef_store_m (f := RowD.d) (k := a + i) (z := 2) (o := 0) (i := 0) (a' := x1) rfl rfl hx2 rfl (CellD.agg) Try.sizeOf34 rfl rfl rfl).mono (by rintro _ _ ⟨_, rfl⟩; rfl)) HSub.none, trivial⟩) (fun γ => ?_)
    refine OpsD.keep [0, 1, 2, 3, 10, 11, 12, 13, 16, 17, 18, 19, 20, 21, 22, 23, 24, 25, 26, 27, 28, 29, 30, 31, 32, 33, 34, 35, 36] [(0, .ov v), (1, .v (.int .i64 ((a : Nat) : Int))), (2, .v (.int .i64 ((b : Nat) : Int))), (3, .v (.int .i64 ((n : Nat) : Int))), (10, .v (.int .i64 ((i : Nat) : Int))), (11, .v (.int .i64 ((i : Nat) : Int))), (12, .v (.int .i64 ((n : Nat) : Int))), (13, .v (.bool (decide (((i : Nat) : Int) < ((n : Nat) : Int))))), (16, .ov v), (17, .v (.int .i64 ((a : Nat) : Int))), (18, .v (.int .i64 ((i : Nat) : Int))), (19, .v (.int .i64 ((a + i : Nat) : Int))), (20, .ov v), (21, .v (.int .i64 ((b : Nat) : Int))), (22, .v (.int .i64 ((i : Nat) : Int))), (23, .v (.int .i64 ((b + i : Nat) : Int))), (24, .ov v), (25, .v (.int .i64 ((b : Nat) : Int))), (26, .v (.int .i64 ((i : Nat) : Int))), (27, .v (.int .i64 ((b + i : Nat) : Int))), (28, .v (.pointer (some ⟨bl v, (b + i) * 2 + 0, none⟩))), (29, RowD.d x1), (30, .ov v), (31, .v (.int .i64 ((a : Nat) : Int))), (32, .v (.int .i64 ((i : Nat) : Int))), (33, .v (.int .i64 ((a + i : Nat) : Int))), (34, .v (.pointer (some ⟨bl v, (a + i) * 2 + 0, none⟩))), (35, RowD.d x2), (36, .v (.pointer (some ⟨bl v, (a + i) * 2 + 0, none⟩)))] rfl ?_
    obtain ⟨x3, hx3⟩ := get_some (L.set (a + i) x1) (b + i) (by (try simp only [List.length_set]); omega)
    refine od_pu rfl rfl (p_indexAddr_sl (k := b + i) (j := 0) rfl rfl rfl Try.runUnderlying27 Try.sizeOf34 (by first | rfl | omega) (get_map hx3)) ?_
    refine od_step rfl rfl (ef_store_m (f := RowD.d) (k := b + i) (z := 2) (o := 0) (i := 0) (a' := x2) rfl rfl hx3 rfl (CellD.agg) Try.sizeOf34 rfl rfl rfl) ?_
    rintro _ _ ⟨rfl, rfl⟩
    refine OpsD.norm [.sl v 2 34 (((L.set (a + i) x1).set (b + i) x2).map RowD.d)] rfl ?_
    refine od_nil rfl ?_
    refine pd_block ?_
    refine pd_seq ?_
    refine jd_region rfl ?_
    refine od_pu rfl rfl (p_move rfl) ?_
    refine od_pu rfl rfl (p_add (c := ((i + 1 : Nat) : Int)) rfl rfl (w64eq (by omega) (by omega))) ?_
    refine od_pu rfl rfl (p_assign rfl) ?_
    refine od_nil rfl ?_
    exact pd_loop (i + 1, k - 1, ((L.set (a + i) x1).set (b + i) x2)) ⟨sk rfl, sk rfl, sk rfl, sk rfl, sk rfl, trivial⟩ HSub.rfl' ⟨by show i + 1 + (k - 1) = n; omega, by simp only [List.length_set]; exact hL, by show swpN (k - 1) (a + (i + 1)) (b + (i + 1)) _ = _; rw [← hr]; obtain ⟨m, rfl⟩ : ∃ m, k = m + 1 := ⟨k - 1, by omega⟩; exact (swpN_next hx2 hx1).symm⟩ (by omega)
  · replace hc1 := of_decide_eq_false hc1
    refine jd_exit rfl ?_
    refine pd_seq_exit ?_
    refine pd_loop_exit ?_
    refine pd_block_exit ?_
    refine PD.norm [.sl v 2 34 ((swpN n a b l).map RowD.d)] (by rw [← hr, show k = 0 by omega]; rfl) ?_
    exact pd_endH Try.results190 .nil rfl (HSub.fst 1 rfl) ⟨rfl, rfl⟩

set_option maxHeartbeats 4000000 in
set_option maxRecDepth 100000 in
theorem rotR_c (v : Value) (l : List RowD) (a m b : Nat) (o : Int) (h1 : a < m) (h2 : m < b) (h3 : b ≤ l.length) (hl : l.length ≤ 1000000) :
    CD Try.prog 189 [.sl v 2 34 (l.map RowD.d)] [.ov v, .v (.int .i64 ((a : Nat) : Int)), .v (.int .i64 ((m : Nat) : Int)), .v (.int .i64 ((b : Nat) : Int)), .fn 175 [] [.el (.v (.int .i64 o)) 0]] (fun r H' => r = .tup [] ∧ H' = [.sl v 2 34 ((rotL a m b l).map RowD.d)]) := by
  refine cd_of_JD Try.func189 rfl (N := 58) rfl rfl (fun C => ?_)
  refine JD.keep [0, 1, 2, 3, 4] [(0, .ov v), (1, .v (.int .i64 ((a : Nat) : Int))), (2, .v (.int .i64 ((m : Nat) : Int))), (3, .v (.int .i64 ((b : Nat) : Int))), (4, .fn 175 [] [.el (.v (.int .i64 o)) 0])] rfl ?_
  refine jd_seq [false] [true] rfl rfl rfl ?_
  refine jd_region rfl ?_
  refine od_pu rfl rfl (p_move rfl) ?_
  refine od_pu rfl rfl (p_move rfl) ?_
  refine od_pu rfl rfl (p_sub (c := ((m - a : Nat) : Int)) rfl rfl (w64eq (by omega) (by omega))) ?_
  refine od_pu rfl rfl (p_assign rfl) ?_
  refine od_nil rfl ?_
  refine pd_seq ?_
  refine jd_seq [true, false] [true, true] rfl rfl rfl ?_
  refine jd_region rfl ?_
  refine od_pu rfl rfl (p_move rfl) ?_
  refine od_pu rfl rfl (p_move rfl) ?_
  refine od_pu rfl rfl (p_sub (c := ((b - m : Nat) : Int)) rfl rfl (w64eq (by omega) (by omega))) ?_
  refine od_pu rfl rfl (p_assign rfl) ?_
  refine od_nil rfl ?_
  refine pd_seq ?_
  refine jd_seq [true, true, false] [true, true, true] rfl rfl rfl ?_
  refine jd_block [true, true, false, false] rfl rfl ?_
  refine jd_loop (fun (g : Nat × Nat × List RowD) => [(0, .ov v), (2, .v (.int .i64 ((m : Nat) : Int))), (4, .fn 175 [] [.el (.v (.int .i64 o)) 0]), (10, .v (.int .i64 ((g.1 : Nat) : Int))), (11, .v (.int .i64 ((g.2.1 : Nat) : Int)))]) (fun (g : Nat × Nat × List RowD) => [.sl v 2 34 (g.2.2.map RowD.d)]) (fun (g : Nat × Nat × List RowD) => (1 ≤ g.1 ∧ g.1 ≤ m - a) ∧ (1 ≤ g.2.1 ∧ g.2.1 ≤ b - m) ∧ ((g.2.2).length = l.length) ∧ (rotL (m - g.1) m (m + g.2.1) g.2.2 = rotL a m b l)) (fun (g : Nat × Nat × List RowD) => g.1 + g.2.1) [true, true, false, false, false] (m - a, b - m, l) rfl rfl ⟨sk rfl, sk rfl, sk rfl, sk rfl, sk rfl, trivial⟩ HSub.rfl' ⟨by show 1 ≤ m - a ∧ m - a ≤ m - a; omega, by show 1 ≤ b - m ∧ b - m ≤ b - m; omega, rfl, by show rotL (m - (m - a)) m (m + (b - m)) l = _; congr 1 <;> omega⟩ ?_
  rintro ⟨i, j, L⟩ ⟨hi, hj, hL, hr⟩
  replace hi : 1 ≤ i ∧ i ≤ m - a := hi
  replace hj : 1 ≤ j ∧ j ≤ b - m := hj
  replace hL : (L).length = l.length := hL
  replace hr : rotL (m - i) m (m + j) L = rotL a m b l := hr
  refine JD.keep [0, 2, 4, 10, 11] [(0, .ov v), (2, .v (.int .i64 ((m : Nat) : Int))), (4, .fn 175 [] [.el (.v (.int .i64 o)) 0]), (10, .v (.int .i64 ((i : Nat) : Int))), (11, .v (.int .i64 ((j : Nat) : Int)))] rfl ?_
  refine JD.norm [.sl v 2 34 (L.map RowD.d)] rfl ?_
  refine jd_seq [true, true, false, false, false, false] [true, true, false, false, false, true] rfl rfl rfl ?_
  refine jd_seq [true, true, false, false, false, false, false] [true, true, false, false, false, false, true] rfl rfl rfl ?_
  refine jd_region rfl ?_
  refine od_pu rfl rfl (p_move rfl) ?_
  refine od_pu rfl rfl (p_move rfl) ?_
  refine od_pu rfl rfl (p_neq rfl rfl rfl) ?_
  refine od_nil rfl ?_
  refine pd_seq ?_
  refine jd_cond [true, true, false, false, false, false, true, false] [true, true, false, false, false, false, true, true] rfl rfl rfl rfl (fun hc1 => ?_) (fun hc1 => ?_)
  · replace hc1 := of_decide_eq_true hc1
    refine jd_skip rfl ?_
    refine pd_seq ?_
    refine jd_block [true, true, false, false, false, true, false] rfl rfl ?_
    refine jd_seq [true, true, false, false, false, true, false, false] [true, true, false, false, false, true, false, true] rfl rfl rfl ?_
    refine jd_region rfl ?_
    refine od_pu rfl rfl (p_move rfl) ?_
    refine od_pu rfl rfl (p_move rfl) ?_
    refine od_pu rfl rfl (p_gtr rfl rfl rfl) ?_
    refine od_nil rfl ?_
    refine pd_seq ?_
    refine jd_cond [true, true, false, false, false, true, false, true, false] [true, true, false, false, false, true, false, true, true] rfl rfl rfl rfl (fun hc2 => ?_) (fun hc2 => ?_)
    · replace hc2 := of_decide_eq_true hc2
      refine jd_seq [true, true, false, false, false, true, false, true, false, false] [true, true, false, false, false, true, false, true, false, true] rfl rfl rfl ?_
      refine jd_region rfl ?_
      refine od_pu rfl rfl (p_move rfl) ?_
      refine od_pu rfl rfl (p_move rfl) ?_
      refine od_pu rfl rfl (p_move rfl) ?_
      refine od_pu rfl rfl (p_sub (c := ((m - i : Nat) : Int)) rfl rfl (w64eq (by omega) (by omega))) ?_
      refine od_pu rfl rfl (p_move rfl) ?_
      refine od_pu rfl rfl (p_move rfl) ?_
      refine od_pu rfl rfl (p_move rfl) ?_
      refine od_step rfl rfl (ef_call [.sl v 2 34 (L.map RowD.d)] [] [] rfl rfl (.cons ArgC.id (.cons ArgC.id (.cons ArgC.id (.cons ArgC.id (.cons ArgC.id .nil))))) lend_nil Try.call190 (swpR_c v L (m - i) m j o (by omega) (by omega) (by omega)) (.inl rfl)) ?_
      rintro _ _ ⟨_, ⟨rfl, rfl⟩, rfl⟩
      refine OpsD.norm [.sl v 2 34 ((swpN j (m - i) m L).map RowD.d)] rfl ?_
      refine od_nil rfl ?_
      refine pd_seq ?_
      refine jd_region rfl ?_
      refine od_pu rfl rfl (p_move rfl) ?_
      refine od_pu rfl rfl (p_move rfl) ?_
      refine od_pu rfl rfl (p_sub (c := ((i - j : Nat) : Int)) rfl rfl (w64eq (by omega) (by omega))) ?_
      refine od_pu rfl rfl (p_assign rfl) ?_
      refine od_nil rfl ?_
      refine pd_block ?_
      exact pd_loop (i - j, j, (swpN j (m - i) m L)) ⟨sk rfl, sk rfl, sk rfl, sk rfl, sk rfl, trivial⟩ HSub.rfl' ⟨by show 1 ≤ i - j ∧ i - j ≤ m - a; omega, by show 1 ≤ j ∧ j ≤ b - m; omega, by rw [swpN_len]; exact hL, by show rotL (m - (i - j)) m (m + j) _ = _; rw [← hr, rot_gt (a := m - i) (j := j) (by omega) (by omega) (by omega) (by omega)]; congr 1; omega⟩ (by show i - j + j < i + j; omega)
    · replace hc2 := of_decide_eq_false hc2
      refine jd_seq [true, true, false, false, false, true, false, true, true, false] [true, true, false, false, false, true, false, true, true, true] rfl rfl rfl ?_
      refine jd_region rfl ?_
      refine od_pu rfl rfl (p_move rfl) ?_
      refine od_pu rfl rfl (p_move rfl) ?_
      refine od_pu rfl rfl (p_move rfl) ?_
      refine od_pu rfl rfl (p_sub (c := ((m - i : Nat) : Int)) rfl rfl (w64eq (by omega) (by omega))) ?_
      refine od_pu rfl rfl (p_move rfl) ?_
      refine od_pu rfl rfl (p_move rfl) ?_
      refine od_pu rfl rfl (p_add (c := ((m + j : Nat) : Int)) rfl rfl (w64eq (by omega) (by omega))) ?_
      refine od_pu rfl rfl (p_move rfl) ?_
      refine od_pu rfl rfl (p_sub (c := (((m + j) - i : Nat) : Int)) rfl rfl (w64eq (by omega) (by omega))) ?_
      refine od_pu rfl rfl (p_move rfl) ?_
      refine od_pu rfl rfl (p_move rfl) ?_
      refine od_step rfl rfl (ef_call [.sl v 2 34 (L.map RowD.d)] [] [] rfl rfl (.cons ArgC.id (.cons ArgC.id (.cons ArgC.id (.cons ArgC.id (.cons ArgC.id .nil))))) lend_nil Try.call190 (swpR_c v L (m - i) ((m + j) - i) i o (by omega) (by omega) (by omega)) (.inl rfl)) ?_
      rintro _ _ ⟨_, ⟨rfl, rfl⟩, rfl⟩
      refine OpsD.norm [.sl v 2 34 ((swpN i (m - i) ((m + j) - i) L).map RowD.d)] rfl ?_
      refine od_nil rfl ?_
      refine pd_seq ?_
      refine jd_region rfl ?_
      refine od_pu rfl rfl (p_move rfl) ?_
      refine od_pu rfl rfl (p_move rfl) ?_
      refine od_pu rfl rfl (p_sub (c := ((j - i : Nat) : Int)) rfl rfl (w64eq (by omega) (by omega))) ?_
      refine od_pu rfl rfl (p_assign rfl) ?_
      refine od_nil rfl ?_
      refine pd_block ?_
      exact pd_loop (i, j - i, (swpN i (m - i) ((m + j) - i) L)) ⟨sk rfl, sk rfl, sk rfl, sk rfl, sk rfl, trivial⟩ HSub.rfl' ⟨hi, by show 1 ≤ j - i ∧ j - i ≤ b - m; omega, by rw [swpN_len]; exact hL, by show rotL (m - i) m (m + (j - i)) _ = _; rw [← hr, rot_lt (a := m - i) (b := m + j) (i := i) (by omega) (by omega) (by omega) (by omega)]; congr 1; omega⟩ (by show i + (j - i) < i + j; omega)
  · replace hc1 := of_decide_eq_false hc1
    refine jd_exit rfl ?_
    refine pd_seq_exit ?_
    refine pd_loop_exit ?_
    refine pd_block_exit ?_
    refine pd_seq ?_
    refine jd_region rfl ?_
    refine od_pu rfl rfl (p_move rfl) ?_
    refine od_pu rfl rfl (p_move rfl) ?_
    refine od_pu rfl rfl (p_move rfl) ?_
    refine od_pu rfl rfl (p_sub (c := ((m - i : Nat) : Int)) rfl rfl (w64eq (by omega) (by omega))) ?_
    refine od_pu rfl rfl (p_move rfl) ?_
    refine od_pu rfl rfl (p_move rfl) ?_
    refine od_pu rfl rfl (p_move rfl) ?_
    refine od_step rfl rfl (ef_call [.sl v 2 34 (L.map RowD.d)] [] [] rfl rfl (.cons ArgC.id (.cons ArgC.id (.cons ArgC.id (.cons ArgC.id (.cons ArgC.id .nil))))) lend_nil Try.call190 (swpR_c v L (m - i) m i o (by omega) (by omega) (by omega)) (.inl rfl)) ?_
    rintro _ _ ⟨_, ⟨rfl, rfl⟩, rfl⟩
    refine OpsD.norm [.sl v 2 34 ((swpN i (m - i) m L).map RowD.d)] rfl ?_
    refine od_nil rfl ?_
    refine PD.norm [.sl v 2 34 ((rotL a m b l).map RowD.d)] (by rw [← hr, rot_eq (a := m - i) (i := i) (by omega) (by omega) (by omega) (by omega)]) ?_
    exact pd_endH Try.results189 .nil rfl (HSub.fst 1 rfl) ⟨rfl, rfl⟩

set_option maxHeartbeats 4000000 in
set_option maxRecDepth 100000 in
theorem insortR_c (v : Value) (l : List RowD) (a b : Nat) (o : Int) (ha : a ≤ b) (hb : b ≤ l.length) (hl : l.length ≤ 1000000) :
    CD Try.prog 187 [.sl v 2 34 (l.map RowD.d)] [.ov v, .v (.int .i64 ((a : Nat) : Int)), .v (.int .i64 ((b : Nat) : Int)), .fn 175 [] [.el (.v (.int .i64 o)) 0]] (fun r H' => r = .tup [] ∧ H' = [.sl v 2 34 ((fixI (cmpRow o) a b l).map RowD.d)]) := by
  refine cd_of_JD Try.func187 rfl (N := 53) rfl rfl (fun C => ?_)
  refine JD.keep [0, 1, 2, 3] [(0, .ov v), (1, .v (.int .i64 ((a : Nat) : Int))), (2, .v (.int .i64 ((b : Nat) : Int))), (3, .fn 175 [] [.el (.v (.int .i64 o)) 0])] rfl ?_
  refine jd_seq [false] [true] rfl rfl rfl ?_
  refine jd_region rfl ?_
  refine od_pu rfl rfl (p_move rfl) ?_
  refine od_pu rfl rfl (p_add (c := ((a + 1 : Nat) : Int)) rfl rfl (w64eq (by omega) (by omega))) ?_
  refine od_pu rfl rfl (p_assign rfl) ?_
  refine od_nil rfl ?_
  refine pd_seq ?_
  refine jd_block [true, false] rfl rfl ?_
  refine jd_loop (fun (g : Nat × Nat × List RowD) => [(0, .ov v), (1, .v (.int .i64 ((a : Nat) : Int))), (2, .v (.int .i64 ((b : Nat) : Int))), (3, .fn 175 [] [.el (.v (.int .i64 o)) 0]), (8, .v (.int .i64 ((g.1 : Nat) : Int)))]) (fun (g : Nat × Nat × List RowD) => [.sl v 2 34 (g.2.2.map RowD.d)]) (fun (g : Nat × Nat × List RowD) => (a + 1 ≤ g.1) ∧ (b ≤ g.1 + g.2.1) ∧ ((g.2.2).length = l.length) ∧ (isrt (cmpRow o) a b g.2.1 (g.1) g.2.2 = isrt (cmpRow o) a b b (a + 1) l)) (fun (g : Nat × Nat × List RowD) => b - g.1) [true, false, false] (a + 1, b, l) rfl rfl ⟨sk rfl, sk rfl, sk rfl, sk rfl, sk rfl, trivial⟩ HSub.rfl' ⟨Nat.le_refl _, by show b ≤ a + 1 + b; omega, rfl, rfl⟩ ?_
  rintro ⟨i, n, L⟩ ⟨hi, hn, hL, hr⟩
  replace hi : a + 1 ≤ i := hi
  replace hn : b ≤ i + n := hn
  replace hL : (L).length = l.length := hL
  replace hr : isrt (cmpRow o) a b n (i) L = isrt (cmpRow o) a b b (a + 1) l := hr
  refine JD.keep [0, 1, 2, 3, 8] [(0, .ov v), (1, .v (.int .i64 ((a : Nat) : Int))), (2, .v (.int .i64 ((b : Nat) : Int))), (3, .fn 175 [] [.el (.v (.int .i64 o)) 0]), (8, .v (.int .i64 ((i : Nat) : Int)))] rfl ?_
  refine JD.norm [.sl v 2 34 (L.map RowD.d)] rfl ?_
  refine jd_seq [true, false, false, false] [true, false, false, true] rfl rfl rfl ?_
  refine jd_seq [true, false, false, false, false] [true, false, false, false, true] rfl rfl rfl ?_
  refine jd_region rfl ?_
  refine od_pu rfl rfl (p_move rfl) ?_
  refine od_pu rfl rfl (p_move rfl) ?_
  refine od_pu rfl rfl (p_lss rfl rfl rfl) ?_
  refine od_nil rfl ?_
  refine pd_seq ?_
  refine jd_cond [true, false, false, false, true, false] [true, false, false, false, true, true] rfl rfl rfl rfl (fun hc1 => ?_) (fun hc1 => ?_)
  · replace hc1 := of_decide_eq_true hc1
    refine jd_skip rfl ?_
    refine pd_seq ?_
    refine jd_seq [true, false, false, true, false] [true, false, false, true, true] rfl rfl rfl ?_
    refine jd_block [true, false, false, true, false, false] rfl rfl ?_
    refine jd_seq [true, false, false, true, false, false, false] [true, false, false, true, false, false, true] rfl rfl rfl ?_
    refine jd_region rfl ?_
    refine od_pu rfl rfl (p_move rfl) ?_
    refine od_pu rfl rfl (p_assign rfl) ?_
    refine od_nil rfl ?_
    refine pd_seq ?_
    refine jd_block [true, false, false, true, false, false, true, false] rfl rfl ?_
    refine jd_loop (fun (g : Nat × List RowD) => [(0, .ov v), (1, .v (.int .i64 ((a : Nat) : Int))), (2, .v (.int .i64 ((b : Nat) : Int))), (3, .fn 175 [] [.el (.v (.int .i64 o)) 0]), (8, .v (.int .i64 ((i : Nat) : Int))), (12, .v (.int .i64 ((i : Nat) : Int))), (13, .v (.int .i64 ((b : Nat) : Int))), (14, .v (.bool (decide (((i : Nat) : Int) < ((b : Nat) : Int))))), (17, .v (.int .i64 ((i : Nat) : Int))), (9, .v (.int .i64 ((g.1 : Nat) : Int)))]) (fun (g : Nat × List RowD) => [.sl v 2 34 (g.2.map RowD.d)]) (fun (g : Nat × List RowD) => (g.1 ≤ i) ∧ ((g.2).length = l.length) ∧ (bub (cmpRow o) a (g.1) g.2 = bub (cmpRow o) a i L)) (fun (g : Nat × List RowD) => g.1) [true, false, false, true, false, false, true, false, false] (i, L) rfl rfl ⟨sk rfl, sk rfl, sk rfl, sk rfl, sk rfl, sk rfl, sk rfl, sk rfl, sk rfl, sk rfl, trivial⟩ HSub.rfl' ⟨Nat.le_refl _, hL, rfl⟩ ?_
    rintro ⟨j, M⟩ ⟨hj, hlM, hM⟩
    replace hj : j ≤ i := hj
    replace hlM : (M).length = l.length := hlM
    replace hM : bub (cmpRow o) a (j) M = bub (cmpRow o) a i L := hM
    refine JD.keep [0, 1, 2, 3, 8, 12, 13, 14, 17, 9] [(0, .ov v), (1, .v (.int .i64 ((a : Nat) : Int))), (2, .v (.int .i64 ((b : Nat) : Int))), (3, .fn 175 [] [.el (.v (.int .i64 o)) 0]), (8, .v (.int .i64 ((i : Nat) : Int))), (12, .v (.int .i64 ((i : Nat) : Int))), (13, .v (.int .i64 ((b : Nat) : Int))), (14, .v (.bool (decide (((i : Nat) : Int) < ((b : Nat) : Int))))), (17, .v (.int .i64 ((i : Nat) : Int))), (9, .v (.int .i64 ((j : Nat) : Int)))] rfl ?_
    refine JD.norm [.sl v 2 34 (M.map RowD.d)] rfl ?_
    refine jd_seq [true, false, false, true, false, false, true, false, false, false] [true, false, false, true, false, false, true, false, false, true] rfl rfl rfl ?_
    refine jd_seq [true, false, false, true, false, false, true, false, false, false, false] [true, false, false, true, false, false, true, false, false, false, true] rfl rfl rfl ?_
    by_cases hg2 : ((a : Nat) : Int) < ((j : Nat) : Int)
    · skip
      refine JD.keep [0, 1, 2, 3, 8, 9, 12, 13, 14, 17] [(0, .ov v), (1, .v (.int .i64 ((a : Nat) : Int))), (2, .v (.int .i64 ((b : Nat) : Int))), (3, .fn 175 [] [.el (.v (.int .i64 o)) 0]), (8, .v (.int .i64 ((i : Nat) : Int))), (9, .v (.int .i64 ((j : Nat) : Int))), (12, .v (.int .i64 ((i : Nat) : Int))), (13, .v (.int .i64 ((b : Nat) : Int))), (14, .v (.bool (decide (((i : Nat) : Int) < ((b : Nat) : Int))))), (17, .v (.int .i64 ((i : Nat) : Int)))] rfl ?_
      refine JD.norm [.sl v 2 34 (M.map RowD.d)] rfl ?_
      obtain ⟨x1, hx1⟩ := get_some M j (by (try simp only [List.length_set]); omega)
      obtain ⟨x2, hx2⟩ := get_some M (j - 1) (by (try simp only [List.length_set]); omega)
      refine jd_draw 14 [(18, .v (.int .i64 ((j : Nat) : Int)), none), (19, .v (.int .i64 ((a : Nat) : Int)), none), (20, .v (.bool true), none), (21, .v (.bool true), none), (22, .fn 175 [] [.el (.v (.int .i64 o)) 0], none), (23, .ov v, none), (24, .v (.int .i64 ((j : Nat) : Int)), none), (25, .v (.pointer (some ⟨bl v, j * 2 + 0, none⟩)), none), (26, RowD.d x1, none), (27, .ov v, none), (28, .v (.int .i64 ((j : Nat) : Int)), none), (29, .v (.int .i64 ((j - 1 : Nat) : Int)), none), (30, .v (.pointer (some ⟨bl v, (j - 1) * 2 + 0, none⟩)), none), (31, RowD.d x2, none)] [.sl v 2 34 (M.map RowD.d)] (Hn := [.sl v 2 34 (M.map RowD.d)]) mixed rfl rfl rfl rfl HSub.rfl' rfl ⟨sa_p rfl rfl rfl (p_move rfl), sa_p rfl rfl rfl (p_move rfl), sa_p rfl rfl rfl (p_gtr rfl rfl (decide_eq_true hg2)), sa_p rfl rfl rfl (p_move rfl), sa_qr rfl rfl rfl rfl rfl rfl (p_move rfl).qu, sa_qr rfl rfl rfl rfl rfl rfl (p_move rfl).qu, sa_qr rfl rfl rfl rfl rfl rfl (p_move rfl).qu, sa_qr rfl rfl rfl rfl rfl rfl (p_indexAddr_sl (k := j) (j := 0) rfl rfl rfl Try.runUnderlying27 Try.sizeOf34 (by first | rfl | omega) (get_map hx1)).qu, sa_qr rfl rfl rfl rfl rfl rfl (p_load_sl (d := RowD.d x1) rfl (i := 0) rfl (get_map hx1) Try.isAgg34 Try.sizeOf34 rfl rfl).qu, sa_qr rfl rfl rfl rfl rfl rfl (p_move rfl).qu, sa_qr rfl rfl rfl rfl rfl rfl (p_move rfl).qu, sa_qr rfl rfl rfl rfl rfl rfl (p_sub (c := ((j - 1 : Nat) : Int)) rfl rfl (w64eq (by omega) (by omega))).qu, sa_qr rfl rfl rfl rfl rfl rfl (p_indexAddr_sl (k := j - 1) (j := 0) rfl rfl rfl Try.runUnderlying27 Try.sizeOf34 (by first | rfl | omega) (get_map hx2)).qu, sa_qr rfl rfl rfl rfl rfl rfl (p_load_sl (d := RowD.d x2) rfl (i := 0) rfl (get_map hx2) Try.isAgg34 Try.sizeOf34 rfl rfl).qu, trivial⟩ ?_
      refine OpsD.keep [0, 1, 2, 3, 8, 9, 12, 13, 14, 17, 18, 19, 20, 21, 22, 23, 24, 25, 26, 27, 28, 29, 30, 31] [(0, .ov v), (1, .v (.int .i64 ((a : Nat) : Int))), (2, .v (.int .i64 ((b : Nat) : Int))), (3, .fn 175 [] [.el (.v (.int .i64 o)) 0]), (8, .v (.int .i64 ((i : Nat) : Int))), (9, .v (.int .i64 ((j : Nat) : Int))), (12, .v (.int .i64 ((i : Nat) : Int))), (13, .v (.int .i64 ((b : Nat) : Int))), (14, .v (.bool (decide (((i : Nat) : Int) < ((b : Nat) : Int))))), (17, .v (.int .i64 ((i : Nat) : Int))), (18, .v (.int .i64 ((j : Nat) : Int))), (19, .v (.int .i64 ((a : Nat) : Int))), (20, .v (.bool true)), (21, .v (.bool true)), (22, .fn 175 [] [.el (.v (.int .i64 o)) 0]), (23, .ov v), (24, .v (.int .i64 ((j : Nat) : Int))), (25, .v (.pointer (some ⟨bl v, j * 2 + 0, none⟩))), (26, RowD.d x1), (27, .ov v), (28, .v (.int .i64 ((j : Nat) : Int))), (29, .v (.int .i64 ((j - 1 : Nat) : Int))), (30, .v (.pointer (some ⟨bl v, (j - 1) * 2 + 0, none⟩))), (31, RowD.d x2)] rfl ?_
      refine od_run rfl rfl rfl rfl rfl (ef_callv [] _ [] rfl rfl rfl (.cons ArgC.id (.cons ArgC.id (.cons ArgC.id .nil))) lend_nil Try.call175 (cmpf_c x1 x2 o) (.inl rfl)) ?_
      rintro _ _ ⟨_, ⟨rfl, rfl⟩, rfl⟩
      refine OpsD.norm [.sl v 2 34 (M.map RowD.d)] rfl ?_
      refine od_runp rfl rfl rfl rfl rfl (p_lss rfl rfl rfl) ?_
      refine od_pu rfl rfl (p_pick_t rfl rfl) ?_
      refine od_nil rfl ?_
      refine pd_seq ?_
      refine jd_cond [true, false, false, true, false, false, true, false, false, false, true, false] [true, false, false, true, false, false, true, false, false, false, true, true] rfl rfl rfl rfl (fun hc3 => ?_) (fun hc3 => ?_)
      · replace hc3 := of_decide_eq_true hc3
        refine jd_skip rfl ?_
        refine pd_seq ?_
        refine jd_seq [true, false, false, true, false, false, true, false, false, true, false] [true, false, false, true, false, false, true, false, false, true, true] rfl rfl rfl ?_
        refine jd_block [true, false, false, true, false, false, true, false, false, true, false, false] rfl rfl ?_
        refine JD.keep [0, 1, 2, 3, 8, 9, 12, 13, 14, 17, 18, 19, 20, 21, 22, 23, 24, 25, 26, 27, 28, 29, 30, 31, 32, 33, 34] [(0, .ov v), (1, .v (.int .i64 ((a : Nat) : Int))), (2, .v (.int .i64 ((b : Nat) : Int))), (3, .fn 175 [] [.el (.v (.int .i64 o)) 0]), (8, .v (.int .i64 ((i : Nat) : Int))), (9, .v (.int .i64 ((j : Nat) : Int))), (12, .v (.int .i64 ((i : Nat) : Int))), (13, .v (.int .i64 ((b : Nat) : Int))), (14, .v (.bool (decide (((i : Nat) : Int) < ((b : Nat) : Int))))), (17, .v (.int .i64 ((i : Nat) : Int))), (18, .v (.int .i64 ((j : Nat) : Int))), (19, .v (.int .i64 ((a : Nat) : Int))), (20, .v (.bool true)), (21, .v (.bool true)), (22, .fn 175 [] [.el (.v (.int .i64 o)) 0]), (23, .ov v), (24, .v (.int .i64 ((j : Nat) : Int))), (25, .v (.pointer (some ⟨bl v, j * 2 + 0, none⟩))), (26, RowD.d x1), (27, .ov v), (28, .v (.int .i64 ((j : Nat) : Int))), (29, .v (.int .i64 ((j - 1 : Nat) : Int))), (30, .v (.pointer (some ⟨bl v, (j - 1) * 2 + 0, none⟩))), (31, RowD.d x2), (32, .v (.int .i64 (cmpRow o x1 x2))), (33, .v (.bool (decide (cmpRow o x1 x2 < (0 : Int))))), (34, .v (.bool (decide (cmpRow o x1 x2 < (0 : Int)))))] rfl ?_
        refine JD.norm [.sl v 2 34 (M.map RowD.d)] rfl ?_
        refine jd_drawo 16 [(37, .q (.ov v)), (38, .q (.v (.int .i64 ((j : Nat) : Int)))), (39, .q (.ov v)), (40, .q (.v (.int .i64 ((j : Nat) : Int)))), (41, .q (.v (.int .i64 ((j - 1 : Nat) : Int)))), (42, .q (.ov v)), (43, .q (.v (.int .i64 ((j : Nat) : Int)))), (44, .q (.v (.int .i64 ((j - 1 : Nat) : Int)))), (45, .r (.v (.pointer (some ⟨bl v, (j - 1) * 2 + 0, none⟩)))), (46, .r (RowD.d x2)), (47, .q (.ov v)), (48, .q (.v (.int .i64 ((j : Nat) : Int)))), (49, .r (.v (.pointer (some ⟨bl v, j * 2 + 0, none⟩)))), (50, .r (RowD.d x1)), (51, .r (.v (.pointer (some ⟨bl v, j * 2 + 0, none⟩)))), (68, .s (fun γ => [.sl v 2 34 ((M.set j x2).map RowD.d)]))] [] (Hn := fun γ => [.sl v 2 34 ((M.set j x2).map RowD.d)]) mixed rfl rfl (by kernel_rfl) (by kernel_rfl) (by kernel_rfl) HSub.none (fun _ => rfl) (fun γ => ⟨so_p rfl rfl rfl (p_move rfl), so_p rfl rfl rfl (p_move rfl), so_p rfl rfl rfl (p_move rfl), so_p rfl rfl rfl (p_move rfl), so_p rfl rfl rfl (p_sub (c := ((j - 1 : Nat) : Int)) rfl rfl (w64eq (by omega) (by omega))), so_p rfl rfl rfl (p_move rfl), so_p rfl rfl rfl (p_move rfl), so_p rfl rfl rfl (p_sub (c := ((j - 1 : Nat) : Int)) rfl rfl (w64eq (by omega) (by omega))), so_r rfl rfl rfl rfl (p_indexAddr_sl (k := j - 1) (j := 0) rfl rfl rfl Try.runUnderlying27 Try.sizeOf34 (by first | rfl | omega) (get_map hx2)), so_r rfl rfl rfl rfl (p_load_sl (d := RowD.d x2) rfl (i := 0) rfl (get_map hx2) Try.isAgg34 Try.sizeOf34 rfl rfl), so_p rfl rfl rfl (p_move rfl), so_p rfl rfl rfl (p_move rfl), so_r rfl rfl rfl rfl (p_indexAddr_sl (k := j) (j := 0) rfl rfl rfl Try.runUnderlying27 Try.sizeOf34 (by first | rfl | omega) (get_map hx1)), so_r rfl rfl rfl rfl (p_load_sl (d := RowD.d x1) rfl (i := 0) rfl (get_map hx1) Try.isAgg34 Try.sizeOf34 rfl rfl), so_r rfl rfl rfl rfl (p_indexAddr_sl (k := j) (j := 0) rfl rfl rfl Try.runUnderlying27 Try.sizeOf34 (by first | rfl | omega) (get_map hx1)), so_st rfl rfl rfl rfl rfl ((ef_store_m (f := RowD.d) (k := j) (z := 2) (o := 0) (i := 0) (a' := x2) rfl rfl hx1 rfl (CellD.agg) Try.sizeOf34 rfl rfl rfl).mono (by rintro _ _ ⟨_, rfl⟩; rfl)) HSub.none, trivial⟩) (fun γ => ?_)
        refine OpsD.keep [0, 1, 2, 3, 8, 9, 12, 13, 14, 17, 18, 19, 20, 21, 22, 23, 24, 25, 26, 27, 28, 29, 30, 31, 32, 33, 34, 37, 38, 39, 40, 41, 42, 43, 44, 45, 46, 47, 48, 49, 50, 51] [(0, .ov v), (1, .v (.int .i64 ((a : Nat) : Int))), (2, .v (.int .i64 ((b : Nat) : Int))), (3, .fn 175 [] [.el (.v (.int .i64 o)) 0]), (8, .v (.int .i64 ((i : Nat) : Int))), (9, .v (.int .i64 ((j : Nat) : Int))), (12, .v (.int .i64 ((i : Nat) : Int))), (13, .v (.int .i64 ((b : Nat) : Int))), (14, .v (.bool (decide (((i : Nat) : Int) < ((b : Nat) : Int))))), (17, .v (.int .i64 ((i : Nat) : Int))), (18, .v (.int .i64 ((j : Nat) : Int))), (19, .v (.int .i64 ((a : Nat) : Int))), (20, .v (.bool true)), (21, .v (.bool true)), (22, .fn 175 [] [.el (.v (.int .i64 o)) 0]), (23, .ov v), (24, .v (.int .i64 ((j : Nat) : Int))), (25, .v (.pointer (some ⟨bl v, j * 2 + 0, none⟩))), (26, RowD.d x1), (27, .ov v), (28, .v (.int .i64 ((j : Nat) : Int))), (29, .v (.int .i64 ((j - 1 : Nat) : Int))), (30, .v (.pointer (some ⟨bl v, (j - 1) * 2 + 0, none⟩))), (31, RowD.d x2), (32, .v (.int .i64 (cmpRow o x1 x2))), (33, .v (.bool (decide (cmpRow o x1 x2 < (0 : Int))))), (34, .v (.bool (decide (cmpRow o x1 x2 < (0 : Int))))), (37, .ov v), (38, .v (.int .i64 ((j : Nat) : Int))), (39, .ov v), (40, .v (.int .i64 ((j : Nat) : Int))), (41, .v (.int .i64 ((j - 1 : Nat) : Int))), (42, .ov v), (43, .v (.int .i64 ((j : Nat) : Int))), (44, .v (.int .i64 ((j - 1 : Nat) : Int))), (45, .v (.pointer (some ⟨bl v, (j - 1) * 2 + 0, none⟩))), (46, RowD.d x2), (47, .ov v), (48, .v (.int .i64 ((j : Nat) : Int))), (49, .v (.pointer (some ⟨bl v, j * 2 + 0, none⟩))), (50, RowD.d x1), (51, .v (.pointer (some ⟨bl v, j * 2 + 0, none⟩)))] rfl ?_
        obtain ⟨x3, hx3⟩ := get_some (M.set j x2) (j - 1) (by (try simp only [List.length_set]); omega)
        refine od_pu rfl rfl (p_indexAddr_sl (k := j - 1) (j := 0) rfl rfl rfl Try.runUnderlying27 Try.sizeOf34 (by first | rfl | omega) (get_map hx3)) ?_
        refine od_step rfl rfl (ef_store_m (f := RowD.d) (k := j - 1) (z := 2) (o := 0) (i := 0) (a' := x1) rfl rfl hx3 rfl (CellD.agg) Try.sizeOf34 rfl rfl rfl) ?_
        rintro _ _ ⟨rfl, rfl⟩
        refine OpsD.norm [.sl v 2 34 (((M.set j x2).set (j - 1) x1).map RowD.d)] rfl ?_
        refine od_nil rfl ?_
        refine pd_block ?_
        refine pd_seq ?_
        refine jd_region rfl ?_
        refine od_pu rfl rfl (p_move rfl) ?_
        refine od_pu rfl rfl (p_sub (c := ((j - 1 : Nat) : Int)) rfl rfl (w64eq (by omega) (by omega))) ?_
        refine od_pu rfl rfl (p_assign rfl) ?_
        refine od_nil rfl ?_
        exact pd_loop (j - 1, ((M.set j x2).set (j - 1) x1)) ⟨sk rfl, sk rfl, sk rfl, sk rfl, sk rfl, sk rfl, sk rfl, sk rfl, sk rfl, sk rfl, trivial⟩ HSub.rfl' ⟨by omega, by simp only [List.length_set]; omega, by rw [← hM]; exact (bub_lt' (by omega) hx1 hx2 hc3).symm⟩ (by omega)
      · replace hc3 := of_decide_eq_false hc3
        refine jd_exit rfl ?_
        refine pd_seq_exit ?_
        refine pd_loop_exit ?_
        refine pd_block_exit ?_
        refine pd_block ?_
        refine pd_seq ?_
        refine jd_region rfl ?_
        refine od_pu rfl rfl (p_move rfl) ?_
        refine od_pu rfl rfl (p_add (c := ((i + 1 : Nat) : Int)) rfl rfl (w64eq (by omega) (by omega))) ?_
        refine od_pu rfl rfl (p_assign rfl) ?_
        refine od_nil rfl ?_
        exact pd_loop (i + 1, n - 1, M) ⟨sk rfl, sk rfl, sk rfl, sk rfl, sk rfl, trivial⟩ HSub.rfl' ⟨by show a + 1 ≤ i + 1; omega, by show b ≤ i + 1 + (n - 1); omega, hlM, by show isrt (cmpRow o) a b (n - 1) (i + 1) M = _; have hb : bub (cmpRow o) a j M = M := bub_ge' hx1 hx2 hc3; rw [← hr]; obtain ⟨m, rfl⟩ : ∃ m, n = m + 1 := ⟨n - 1, by omega⟩; rw [isrt_next (by omega), ← hM, hb]; rfl⟩ (by omega)
    · skip
      refine JD.keep [0, 1, 2, 3, 8, 9, 12, 13, 14, 17] [(0, .ov v), (1, .v (.int .i64 ((a : Nat) : Int))), (2, .v (.int .i64 ((b : Nat) : Int))), (3, .fn 175 [] [.el (.v (.int .i64 o)) 0]), (8, .v (.int .i64 ((i : Nat) : Int))), (9, .v (.int .i64 ((j : Nat) : Int))), (12, .v (.int .i64 ((i : Nat) : Int))), (13, .v (.int .i64 ((b : Nat) : Int))), (14, .v (.bool (decide (((i : Nat) : Int) < ((b : Nat) : Int))))), (17, .v (.int .i64 ((i : Nat) : Int)))] rfl ?_
      refine JD.norm [.sl v 2 34 (M.map RowD.d)] rfl ?_
      refine jd_draw 14 [(18, .v (.int .i64 ((j : Nat) : Int)), none), (19, .v (.int .i64 ((a : Nat) : Int)), none), (20, .v (.bool false), none), (21, .v (.bool false), none), (22, .v undef, none), (23, .v undef, none), (24, .v undef, none), (25, .v undef, none), (26, .v undef, none), (27, .v undef, none), (28, .v undef, none), (29, .v undef, none), (30, .v undef, none), (31, .v undef, none)] [.sl v 2 34 (M.map RowD.d)] (Hn := [.sl v 2 34 (M.map RowD.d)]) mixed rfl rfl rfl rfl HSub.rfl' rfl ⟨sa_p rfl rfl rfl (p_move rfl), sa_p rfl rfl rfl (p_move rfl), sa_p rfl rfl rfl (p_gtr rfl rfl (decide_eq_false hg2)), sa_p rfl rfl rfl (p_move rfl), sa_s rfl rfl rfl rfl rfl rfl (by decide), sa_s rfl rfl rfl rfl rfl rfl (by decide), sa_s rfl rfl rfl rfl rfl rfl (by decide), sa_s rfl rfl rfl rfl rfl rfl (by decide), sa_s rfl rfl rfl rfl rfl rfl (by decide), sa_s rfl rfl rfl rfl rfl rfl (by decide), sa_s rfl rfl rfl rfl rfl rfl (by decide), sa_s rfl rfl rfl rfl rfl rfl (by decide), sa_s rfl rfl rfl rfl rfl rfl (by decide), sa_s rfl rfl rfl rfl rfl rfl (by decide), trivial⟩ ?_
      refine OpsD.keep [0, 1, 2, 3, 8, 9, 12, 13, 14, 17, 18, 19, 20, 21, 22, 23, 24, 25, 26, 27, 28, 29, 30, 31] [(0, .ov v), (1, .v (.int .i64 ((a : Nat) : Int))), (2, .v (.int .i64 ((b : Nat) : Int))), (3, .fn 175 [] [.el (.v (.int .i64 o)) 0]), (8, .v (.int .i64 ((i : Nat) : Int))), (9, .v (.int .i64 ((j : Nat) : Int))), (12, .v (.int .i64 ((i : Nat) : Int))), (13, .v (.int .i64 ((b : Nat) : Int))), (14, .v (.bool (decide (((i : Nat) : Int) < ((b : Nat) : Int))))), (17, .v (.int .i64 ((i : Nat) : Int))), (18, .v (.int .i64 ((j : Nat) : Int))), (19, .v (.int .i64 ((a : Nat) : Int))), (20, .v (.bool false)), (21, .v (.bool false)), (22, .v undef), (23, .v undef), (24, .v undef), (25, .v undef), (26, .v undef), (27, .v undef), (28, .v undef), (29, .v undef), (30, .v undef), (31, .v undef)] rfl ?_
      refine od_skip rfl rfl rfl rfl rfl (by decide) ?_
      refine od_skip rfl rfl rfl rfl rfl (by decide) ?_
      refine od_pu rfl rfl (p_pick_f rfl rfl) ?_
      refine od_nil rfl ?_
      refine pd_seq ?_
      refine jd_cond_f [true, false, false, true, false, false, true, false, false, false, true, true] rfl rfl rfl ?_
      refine jd_exit rfl ?_
      refine pd_seq_exit ?_
      refine pd_loop_exit ?_
      refine pd_block_exit ?_
      refine pd_block ?_
      refine pd_seq ?_
      refine jd_region rfl ?_
      refine od_pu rfl rfl (p_move rfl) ?_
      refine od_pu rfl rfl (p_add (c := ((i + 1 : Nat) : Int)) rfl rfl (w64eq (by omega) (by omega))) ?_
      refine od_pu rfl rfl (p_assign rfl) ?_
      refine od_nil rfl ?_
      exact pd_loop (i + 1, n - 1, M) ⟨sk rfl, sk rfl, sk rfl, sk rfl, sk rfl, trivial⟩ HSub.rfl' ⟨by show a + 1 ≤ i + 1; omega, by show b ≤ i + 1 + (n - 1); omega, hlM, by show isrt (cmpRow o) a b (n - 1) (i + 1) M = _; have hb : bub (cmpRow o) a j M = M := bub_end (by omega); rw [← hr]; obtain ⟨m, rfl⟩ : ∃ m, n = m + 1 := ⟨n - 1, by omega⟩; rw [isrt_next (by omega), ← hM, hb]; rfl⟩ (by omega)
  · replace hc1 := of_decide_eq_false hc1
    refine jd_exit rfl ?_
    refine pd_seq_exit ?_
    refine pd_loop_exit ?_
    refine pd_block_exit ?_
    refine PD.norm [.sl v 2 34 ((fixI (cmpRow o) a b l).map RowD.d)] (by rw [← isrt_fixI ha hb, ← hr, isrt_end (by omega)]) ?_
    exact pd_endH Try.results187 .nil rfl (HSub.fst 1 rfl) ⟨rfl, rfl⟩
end Lp
