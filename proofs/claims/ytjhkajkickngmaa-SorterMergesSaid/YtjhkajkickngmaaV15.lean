/- Walks, printed by a program of mine (wip/tools/dw.py): each theorem says what a function of the translation hands back. -/
import Derived.Test.YtjhkajkickngmaaV14
set_option linter.unusedSimpArgs false
set_option linter.unusedVariables false
namespace Lp
open Go Go.RowKit Go.Proofs

namespace HdV15
theorem cv_171_3 {a : Int} (h : -9223372036854775808 ≤ a ∧ a ≤ 9223372036854775807) : ∀ w, (convert 171 3 (.int .u64 a)).run Try.prog w = .ok (.int .i64 a) w := fun w => by
  have e : IntKind.i64.wrap a = a := by exact w64 (by omega)
  simp [convert, run_underlying (show Try.prog.underlying 171 = some _ by kernel_rfl), run_underlying (show Try.prog.underlying 3 = some _ by kernel_rfl), Conv.intToInt, e]
theorem cv_3_171 {a : Int} (h : 0 ≤ a ∧ a ≤ 18446744073709551615) : ∀ w, (convert 3 171 (.int .i64 a)).run Try.prog w = .ok (.int .u64 a) w := fun w => by
  have e : IntKind.u64.wrap a = a := by simp [IntKind.wrap, IntKind.bits, IntKind.signed]; omega
  simp [convert, run_underlying (show Try.prog.underlying 3 = some _ by kernel_rfl), run_underlying (show Try.prog.underlying 171 = some _ by kernel_rfl), Conv.intToInt, e]
theorem eqn_27 (x : Operand) (A : Option Addr) (n c : Nat) (w : World) : (do eqGuard .eql 27 x (.const (.slice none 0 0)) (.slice A n c) (.slice none 0 0); binOp .eql 27 (.slice A n c) (.slice none 0 0) : Sem Value).run Try.prog w = .ok (.bool A.isNone) w := by cases A <;> kernel_rfl
theorem infz_34 : ∃ i, Try.prog.info? 34 = some i ∧ i.zero = some (.agg #[(.slice none 0 0), (.int .i64 0)]) ∧ i.size = 2 ∧ i.bytes = 32 := infz_of (by kernel_rfl)
theorem und_27 : Try.prog.underlying 27 = some (.slice 34) := by kernel_rfl
end HdV15
open HdV15

set_option maxHeartbeats 4000000 in
set_option maxRecDepth 100000 in
theorem symM_s (v : Value) (l : List RowD) (a m b : Nat) (o : Int) (h1 : a < m) (h2 : m < b) (h3 : b ≤ l.length) (hl : l.length ≤ 1000000) (hA : Srt (cmpRow o) (seg l a m)) (hB : Srt (cmpRow o) (seg l m b)) (ih : ∀ (l' : List RowD) (a' m' b' : Nat), b' - a' < b - a → a' < m' → m' < b' → b' ≤ l'.length → l'.length ≤ 1000000 → Srt (cmpRow o) (seg l' a' m') → Srt (cmpRow o) (seg l' m' b') → CD Try.prog 188 [.sl v 2 34 (l'.map RowD.d)] [.ov v, .v (.int .i64 ((a' : Nat) : Int)), .v (.int .i64 ((m' : Nat) : Int)), .v (.int .i64 ((b' : Nat) : Int)), .fn 175 [] [.el (.v (.int .i64 o)) 0]] (fun r H' => r = .tup [] ∧ H' = [.sl v 2 34 ((fixI (cmpRow o) a' b' l').map RowD.d)])) :
    CD Try.prog 188 [.sl v 2 34 (l.map RowD.d)] [.ov v, .v (.int .i64 ((a : Nat) : Int)), .v (.int .i64 ((m : Nat) : Int)), .v (.int .i64 ((b : Nat) : Int)), .fn 175 [] [.el (.v (.int .i64 o)) 0]] (fun r H' => r = .tup [] ∧ H' = [.sl v 2 34 ((fixI (cmpRow o) a b l).map RowD.d)]) := by
  refine cd_of_JD Try.func188 rfl (N := 220) rfl rfl (fun C => ?_)
  refine JD.keep [0, 1, 2, 3, 4] [(0, .ov v), (1, .v (.int .i64 ((a : Nat) : Int))), (2, .v (.int .i64 ((m : Nat) : Int))), (3, .v (.int .i64 ((b : Nat) : Int))), (4, .fn 175 [] [.el (.v (.int .i64 o)) 0])] rfl ?_
  refine jd_seq [false] [true] rfl rfl rfl ?_
  refine jd_seq [false, false] [false, true] rfl rfl rfl ?_
  refine jd_region rfl ?_
  refine od_pu rfl rfl (p_move rfl) ?_
  refine od_pu rfl rfl (p_move rfl) ?_
  refine od_pu rfl rfl (p_sub (c := ((m - a : Nat) : Int)) rfl rfl (w64eq (by omega) (by omega))) ?_
  refine od_pu rfl rfl (p_eql rfl rfl rfl) ?_
  refine od_nil rfl ?_
  refine pd_seq ?_
  refine jd_cond [false, true, false] [false, true, true] rfl rfl rfl rfl (fun hc1 => ?_) (fun hc1 => ?_)
  · replace hc1 := of_decide_eq_true hc1
    refine jd_seq [false, true, false, false] [false, true, false, true] rfl rfl rfl ?_
    refine jd_region rfl ?_
    refine od_pu rfl rfl (p_move rfl) ?_
    refine od_pu rfl rfl (p_assign rfl) ?_
    refine od_nil rfl ?_
    refine pd_seq ?_
    refine jd_seq [false, true, false, true, false] [false, true, false, true, true] rfl rfl rfl ?_
    refine jd_region rfl ?_
    refine od_pu rfl rfl (p_move rfl) ?_
    refine od_pu rfl rfl (p_assign rfl) ?_
    refine od_nil rfl ?_
    refine pd_seq ?_
    refine jd_seq [false, true, false, true, true, false] [false, true, false, true, true, true] rfl rfl rfl ?_
    refine jd_block [false, true, false, true, true, false, false] rfl rfl ?_
    obtain ⟨x1, hx1⟩ := get_some l a (by (try simp only [List.length_set]); omega)
    refine jd_loop (fun (g : Nat × Nat) => [(0, .ov v), (1, .v (.int .i64 ((a : Nat) : Int))), (2, .v (.int .i64 ((m : Nat) : Int))), (3, .v (.int .i64 ((b : Nat) : Int))), (4, .fn 175 [] [.el (.v (.int .i64 o)) 0]), (10, .v (.int .i64 ((g.1 : Nat) : Int))), (11, .v (.int .i64 ((g.2 : Nat) : Int)))]) (fun (g : Nat × Nat) => [.sl v 2 34 (l.map RowD.d)]) (fun (g : Nat × Nat) => (m ≤ g.1 ∧ g.1 ≤ g.2 ∧ g.2 ≤ b) ∧ (Hid (g.1 = m ∨ ∃ y, l[g.1 - 1]? = some y ∧ cmpRow o y x1 < 0)) ∧ (Hid (g.2 = b ∨ ∃ y, l[g.2]? = some y ∧ ¬ cmpRow o y x1 < 0))) (fun (g : Nat × Nat) => g.2 - g.1) [false, true, false, true, true, false, false, false] (m, b) rfl rfl ⟨sk rfl, sk rfl, sk rfl, sk rfl, sk rfl, sk rfl, sk rfl, trivial⟩ HSub.rfl' ⟨by show m ≤ m ∧ m ≤ b ∧ b ≤ b; omega, ⟨.inl rfl⟩, ⟨.inl rfl⟩⟩ ?_
    rintro ⟨i, j⟩ ⟨hij, hlo, hhi⟩
    replace hij : m ≤ i ∧ i ≤ j ∧ j ≤ b := hij
    replace hlo : Hid (i = m ∨ ∃ y, l[i - 1]? = some y ∧ cmpRow o y x1 < 0) := hlo
    replace hhi : Hid (j = b ∨ ∃ y, l[j]? = some y ∧ ¬ cmpRow o y x1 < 0) := hhi
    refine JD.keep [0, 1, 2, 3, 4, 10, 11] [(0, .ov v), (1, .v (.int .i64 ((a : Nat) : Int))), (2, .v (.int .i64 ((m : Nat) : Int))), (3, .v (.int .i64 ((b : Nat) : Int))), (4, .fn 175 [] [.el (.v (.int .i64 o)) 0]), (10, .v (.int .i64 ((i : Nat) : Int))), (11, .v (.int .i64 ((j : Nat) : Int)))] rfl ?_
    refine JD.norm [.sl v 2 34 (l.map RowD.d)] rfl ?_
    refine jd_seq [false, true, false, true, true, false, false, false, false] [false, true, false, true, true, false, false, false, true] rfl rfl rfl ?_
    refine jd_seq [false, true, false, true, true, false, false, false, false, false] [false, true, false, true, true, false, false, false, false, true] rfl rfl rfl ?_
    refine jd_region rfl ?_
    refine od_pu rfl rfl (p_move rfl) ?_
    refine od_pu rfl rfl (p_move rfl) ?_
    refine od_pu rfl rfl (p_lss rfl rfl rfl) ?_
    refine od_nil rfl ?_
    refine pd_seq ?_
    refine jd_cond [false, true, false, true, true, false, false, false, false, true, false] [false, true, false, true, true, false, false, false, false, true, true] rfl rfl rfl rfl (fun hc2 => ?_) (fun hc2 => ?_)
    · replace hc2 := of_decide_eq_true hc2
      refine jd_skip rfl ?_
      refine pd_seq ?_
      refine jd_block [false, true, false, true, true, false, false, false, true, false] rfl rfl ?_
      refine jd_seq [false, true, false, true, true, false, false, false, true, false, false] [false, true, false, true, true, false, false, false, true, false, true] rfl rfl rfl ?_
      refine jd_region rfl ?_
      refine od_pu rfl rfl (p_move rfl) ?_
      refine od_pu rfl rfl (p_move rfl) ?_
      refine od_pu rfl rfl (p_add (c := ((i + j : Nat) : Int)) rfl rfl (w64eq (by omega) (by omega))) ?_
      refine od_pu rfl rfl (p_cast rfl (c := ((i + j : Nat) : Int)) (cv_3_171 (by omega))) ?_
      obtain ⟨q3, hq3⟩ : ∃ q, q = (i + j) / 2 := ⟨_, rfl⟩
      refine od_pu rfl rfl ((p_shr (a := i + j) (n := 1) (m := 2) rfl rfl (by decide) (by decide)).cv (Cv.eq (by rw [← hq3]))) ?_
      refine od_pu rfl rfl (p_cast rfl (c := ((q3 : Nat) : Int)) (cv_171_3 (by omega))) ?_
      refine od_pu rfl rfl (p_assign rfl) ?_
      refine od_nil rfl ?_
      refine pd_seq ?_
      refine jd_seq [false, true, false, true, true, false, false, false, true, false, true, false] [false, true, false, true, true, false, false, false, true, false, true, true] rfl rfl rfl ?_
      refine JD.keep [0, 1, 2, 3, 4, 10, 11, 12, 31, 32, 33, 34, 35, 36, 37, 38, 39] [(0, .ov v), (1, .v (.int .i64 ((a : Nat) : Int))), (2, .v (.int .i64 ((m : Nat) : Int))), (3, .v (.int .i64 ((b : Nat) : Int))), (4, .fn 175 [] [.el (.v (.int .i64 o)) 0]), (10, .v (.int .i64 ((i : Nat) : Int))), (11, .v (.int .i64 ((j : Nat) : Int))), (12, .v (.int .i64 ((q3 : Nat) : Int))), (31, .v (.int .i64 ((i : Nat) : Int))), (32, .v (.int .i64 ((j : Nat) : Int))), (33, .v (.bool (decide (((i : Nat) : Int) < ((j : Nat) : Int))))), (34, .v (.int .i64 ((i : Nat) : Int))), (35, .v (.int .i64 ((j : Nat) : Int))), (36, .v (.int .i64 ((i + j : Nat) : Int))), (37, .v (.int .u64 ((i + j : Nat) : Int))), (38, .v (.int .u64 ((q3 : Nat) : Int))), (39, .v (.int .i64 ((q3 : Nat) : Int)))] rfl ?_
      refine JD.norm [.sl v 2 34 (l.map RowD.d)] rfl ?_
      obtain ⟨x2, hx2⟩ := get_some l q3 (by (try simp only [List.length_set]); omega)
      refine jd_draw 9 [(40, .fn 175 [] [.el (.v (.int .i64 o)) 0], none), (41, .ov v, none), (42, .v (.int .i64 ((q3 : Nat) : Int)), none), (43, .v (.pointer (some ⟨bl v, q3 * 2 + 0, none⟩)), none), (44, RowD.d x2, none), (45, .ov v, none), (46, .v (.int .i64 ((a : Nat) : Int)), none), (47, .v (.pointer (some ⟨bl v, a * 2 + 0, none⟩)), none), (48, RowD.d x1, none)] [.sl v 2 34 (l.map RowD.d)] (Hn := [.sl v 2 34 (l.map RowD.d)]) mixed rfl rfl rfl rfl HSub.rfl' rfl ⟨sa_p rfl rfl rfl (p_move rfl), sa_p rfl rfl rfl (p_move rfl), sa_p rfl rfl rfl (p_move rfl), sa_p rfl rfl rfl (p_indexAddr_sl (k := q3) (j := 0) rfl rfl rfl Try.runUnderlying27 Try.sizeOf34 (by first | rfl | omega) (get_map hx2)), sa_p rfl rfl rfl (p_load_sl (d := RowD.d x2) rfl (i := 0) rfl (get_map hx2) Try.isAgg34 Try.sizeOf34 rfl rfl), sa_p rfl rfl rfl (p_move rfl), sa_p rfl rfl rfl (p_move rfl), sa_p rfl rfl rfl (p_indexAddr_sl (k := a) (j := 0) rfl rfl rfl Try.runUnderlying27 Try.sizeOf34 (by first | rfl | omega) (get_map hx1)), sa_p rfl rfl rfl (p_load_sl (d := RowD.d x1) rfl (i := 0) rfl (get_map hx1) Try.isAgg34 Try.sizeOf34 rfl rfl), trivial⟩ ?_
      refine OpsD.keep [0, 1, 2, 3, 4, 10, 11, 12, 31, 32, 33, 34, 35, 36, 37, 38, 39, 40, 41, 42, 43, 44, 45, 46, 47, 48] [(0, .ov v), (1, .v (.int .i64 ((a : Nat) : Int))), (2, .v (.int .i64 ((m : Nat) : Int))), (3, .v (.int .i64 ((b : Nat) : Int))), (4, .fn 175 [] [.el (.v (.int .i64 o)) 0]), (10, .v (.int .i64 ((i : Nat) : Int))), (11, .v (.int .i64 ((j : Nat) : Int))), (12, .v (.int .i64 ((q3 : Nat) : Int))), (31, .v (.int .i64 ((i : Nat) : Int))), (32, .v (.int .i64 ((j : Nat) : Int))), (33, .v (.bool (decide (((i : Nat) : Int) < ((j : Nat) : Int))))), (34, .v (.int .i64 ((i : Nat) : Int))), (35, .v (.int .i64 ((j : Nat) : Int))), (36, .v (.int .i64 ((i + j : Nat) : Int))), (37, .v (.int .u64 ((i + j : Nat) : Int))), (38, .v (.int .u64 ((q3 : Nat) : Int))), (39, .v (.int .i64 ((q3 : Nat) : Int))), (40, .fn 175 [] [.el (.v (.int .i64 o)) 0]), (41, .ov v), (42, .v (.int .i64 ((q3 : Nat) : Int))), (43, .v (.pointer (some ⟨bl v, q3 * 2 + 0, none⟩))), (44, RowD.d x2), (45, .ov v), (46, .v (.int .i64 ((a : Nat) : Int))), (47, .v (.pointer (some ⟨bl v, a * 2 + 0, none⟩))), (48, RowD.d x1)] rfl ?_
      refine od_step rfl rfl (ef_callv [] _ [] rfl rfl rfl (.cons ArgC.id (.cons ArgC.id (.cons ArgC.id .nil))) lend_nil Try.call175 (cmpf_c x2 x1 o) (.inl rfl)) ?_
      rintro _ _ ⟨_, ⟨rfl, rfl⟩, rfl⟩
      refine OpsD.norm [.sl v 2 34 (l.map RowD.d)] rfl ?_
      refine od_pu rfl rfl (p_lss rfl rfl rfl) ?_
      refine od_nil rfl ?_
      refine pd_seq ?_
      refine jd_cond [false, true, false, true, true, false, false, false, true, false, true, true, false] [false, true, false, true, true, false, false, false, true, false, true, true, true] rfl rfl rfl rfl (fun hc4 => ?_) (fun hc4 => ?_)
      · replace hc4 := of_decide_eq_true hc4
        refine jd_region rfl ?_
        refine od_pu rfl rfl (p_move rfl) ?_
        refine od_pu rfl rfl (p_add (c := ((q3 + 1 : Nat) : Int)) rfl rfl (w64eq (by omega) (by omega))) ?_
        refine od_pu rfl rfl (p_assign rfl) ?_
        refine od_nil rfl ?_
        refine pd_block ?_
        exact pd_loop (q3 + 1, j) ⟨sk rfl, sk rfl, sk rfl, sk rfl, sk rfl, sk rfl, sk rfl, trivial⟩ HSub.rfl' ⟨by show m ≤ q3 + 1 ∧ q3 + 1 ≤ j ∧ j ≤ b; omega, ⟨.inr ⟨_, hx2, hc4⟩⟩, hhi⟩ (by show j - (q3 + 1) < j - i; omega)
      · replace hc4 := of_decide_eq_false hc4
        refine jd_region rfl ?_
        refine od_pu rfl rfl (p_move rfl) ?_
        refine od_pu rfl rfl (p_assign rfl) ?_
        refine od_nil rfl ?_
        refine pd_block ?_
        exact pd_loop (i, q3) ⟨sk rfl, sk rfl, sk rfl, sk rfl, sk rfl, sk rfl, sk rfl, trivial⟩ HSub.rfl' ⟨by show m ≤ i ∧ i ≤ q3 ∧ q3 ≤ b; omega, hlo, ⟨.inr ⟨_, hx2, hc4⟩⟩⟩ (by show q3 - i < j - i; omega)
    · replace hc2 := of_decide_eq_false hc2
      refine jd_exit rfl ?_
      refine pd_seq_exit ?_
      refine pd_loop_exit ?_
      refine pd_block_exit ?_
      refine pd_seq ?_
      refine jd_seq [false, true, false, true, true, true, false] [false, true, false, true, true, true, true] rfl rfl rfl ?_
      refine jd_seq [false, true, false, true, true, true, false, false] [false, true, false, true, true, true, false, true] rfl rfl rfl ?_
      refine jd_region rfl ?_
      refine od_pu rfl rfl (p_move rfl) ?_
      refine od_pu rfl rfl (p_assign rfl) ?_
      refine od_nil rfl ?_
      refine pd_seq ?_
      refine jd_block [false, true, false, true, true, true, false, true, false] rfl rfl ?_
      refine jd_loop (fun (g : Nat × Nat × List RowD) => [(0, .ov v), (1, .v (.int .i64 ((a : Nat) : Int))), (2, .v (.int .i64 ((m : Nat) : Int))), (3, .v (.int .i64 ((b : Nat) : Int))), (4, .fn 175 [] [.el (.v (.int .i64 o)) 0]), (10, .v (.int .i64 ((i : Nat) : Int))), (13, .v (.int .i64 ((g.1 : Nat) : Int)))]) (fun (g : Nat × Nat × List RowD) => [.sl v 2 34 (g.2.2.map RowD.d)]) (fun (g : Nat × Nat × List RowD) => (g.1 + g.2.1 + 1 = i) ∧ ((g.2.2).length = l.length) ∧ (mvUp g.2.1 g.1 g.2.2 = mvUp (i - 1 - a) a l)) (fun (g : Nat × Nat × List RowD) => i - g.1) [false, true, false, true, true, true, false, true, false, false] (a, i - 1 - a, l) rfl rfl ⟨sk rfl, sk rfl, sk rfl, sk rfl, sk rfl, sk rfl, sk rfl, trivial⟩ HSub.rfl' ⟨by show a + (i - 1 - a) + 1 = i; omega, rfl, rfl⟩ ?_
      rintro ⟨k, n, L⟩ ⟨hk, hL, hr⟩
      replace hk : k + n + 1 = i := hk
      replace hL : (L).length = l.length := hL
      replace hr : mvUp n k L = mvUp (i - 1 - a) a l := hr
      refine JD.keep [0, 1, 2, 3, 4, 10, 13] [(0, .ov v), (1, .v (.int .i64 ((a : Nat) : Int))), (2, .v (.int .i64 ((m : Nat) : Int))), (3, .v (.int .i64 ((b : Nat) : Int))), (4, .fn 175 [] [.el (.v (.int .i64 o)) 0]), (10, .v (.int .i64 ((i : Nat) : Int))), (13, .v (.int .i64 ((k : Nat) : Int)))] rfl ?_
      refine JD.norm [.sl v 2 34 (L.map RowD.d)] rfl ?_
      refine jd_seq [false, true, false, true, true, true, false, true, false, false, false] [false, true, false, true, true, true, false, true, false, false, true] rfl rfl rfl ?_
      refine jd_seq [false, true, false, true, true, true, false, true, false, false, false, false] [false, true, false, true, true, true, false, true, false, false, false, true] rfl rfl rfl ?_
      refine jd_region rfl ?_
      refine od_pu rfl rfl (p_move rfl) ?_
      refine od_pu rfl rfl (p_move rfl) ?_
      refine od_pu rfl rfl (p_sub (c := ((i - 1 : Nat) : Int)) rfl rfl (w64eq (by omega) (by omega))) ?_
      refine od_pu rfl rfl (p_lss rfl rfl rfl) ?_
      refine od_nil rfl ?_
      refine pd_seq ?_
      refine jd_cond [false, true, false, true, true, true, false, true, false, false, false, true, false] [false, true, false, true, true, true, false, true, false, false, false, true, true] rfl rfl rfl rfl (fun hc5 => ?_) (fun hc5 => ?_)
      · replace hc5 := of_decide_eq_true hc5
        refine jd_skip rfl ?_
        refine pd_seq ?_
        refine jd_seq [false, true, false, true, true, true, false, true, false, false, true, false] [false, true, false, true, true, true, false, true, false, false, true, true] rfl rfl rfl ?_
        refine jd_block [false, true, false, true, true, true, false, true, false, false, true, false, false] rfl rfl ?_
        refine JD.keep [0, 1, 2, 3, 4, 10, 13, 55, 56, 57, 58] [(0, .ov v), (1, .v (.int .i64 ((a : Nat) : Int))), (2, .v (.int .i64 ((m : Nat) : Int))), (3, .v (.int .i64 ((b : Nat) : Int))), (4, .fn 175 [] [.el (.v (.int .i64 o)) 0]), (10, .v (.int .i64 ((i : Nat) : Int))), (13, .v (.int .i64 ((k : Nat) : Int))), (55, .v (.int .i64 ((k : Nat) : Int))), (56, .v (.int .i64 ((i : Nat) : Int))), (57, .v (.int .i64 ((i - 1 : Nat) : Int))), (58, .v (.bool (decide (((k : Nat) : Int) < ((i - 1 : Nat) : Int)))))] rfl ?_
        refine JD.norm [.sl v 2 34 (L.map RowD.d)] rfl ?_
        obtain ⟨x3, hx3⟩ := get_some L (k + 1) (by (try simp only [List.length_set]); omega)
        obtain ⟨x4, hx4⟩ := get_some L k (by (try simp only [List.length_set]); omega)
        refine jd_drawo 16 [(61, .q (.ov v)), (62, .q (.v (.int .i64 ((k : Nat) : Int)))), (63, .q (.ov v)), (64, .q (.v (.int .i64 ((k : Nat) : Int)))), (65, .q (.v (.int .i64 ((k + 1 : Nat) : Int)))), (66, .q (.ov v)), (67, .q (.v (.int .i64 ((k : Nat) : Int)))), (68, .q (.v (.int .i64 ((k + 1 : Nat) : Int)))), (69, .r (.v (.pointer (some ⟨bl v, (k + 1) * 2 + 0, none⟩)))), (70, .r (RowD.d x3)), (71, .q (.ov v)), (72, .q (.v (.int .i64 ((k : Nat) : Int)))), (73, .r (.v (.pointer (some ⟨bl v, k * 2 + 0, none⟩)))), (74, .r (RowD.d x4)), (75, .r (.v (.pointer (some ⟨bl v, k * 2 + 0, none⟩)))), (235, .s (fun γ => [.sl v 2 34 ((L.set k x3).map RowD.d)]))] [] (Hn := fun γ => [.sl v 2 34 ((L.set k x3).map RowD.d)]) mixed rfl rfl (by kernel_rfl) (by kernel_rfl) (by kernel_rfl) HSub.none (fun _ => rfl) (fun γ => ⟨so_p rfl rfl rfl (p_move rfl), so_p rfl rfl rfl (p_move rfl), so_p rfl rfl rfl (p_move rfl), so_p rfl rfl rfl (p_move rfl), so_p rfl rfl rfl (p_add (c := ((k + 1 : Nat) : Int)) rfl rfl (w64eq (by omega) (by omega))), so_p rfl rfl rfl (p_move rfl), so_p rfl rfl rfl (p_move rfl), so_p rfl rfl rfl (p_add (c := ((k + 1 : Nat) : Int)) rfl rfl (w64eq (by omega) (by omega))), so_r rfl rfl rfl rfl (p_indexAddr_sl (k := k + 1) (j := 0) rfl rfl rfl Try.runUnderlying27 Try.sizeOf34 (by first | rfl | omega) (get_map hx3)), so_r rfl rfl rfl rfl (p_load_sl (d := RowD.d x3) rfl (i := 0) rfl (get_map hx3) Try.isAgg34 Try.sizeOf34 rfl rfl), so_p rfl rfl rfl (p_move rfl), so_p rfl rfl rfl (p_move rfl), so_r rfl rfl rfl rfl (p_indexAddr_sl (k := k) (j := 0) rfl rfl rfl Try.runUnderlying27 Try.sizeOf34 (by first | rfl | omega) (get_map hx4)), so_r rfl rfl rfl rfl (p_load_sl (d := RowD.d x4) rfl (i := 0) rfl (get_map hx4) Try.isAgg34 Try.sizeOf34 rfl rfl), so_r rfl rfl rfl rfl (p_indexAddr_sl (k := k) (j := 0) rfl rfl rfl Try.runUnderlying27 Try.sizeOf34 (by first | rfl | omega) (get_map hx4)), so_st rfl rfl rfl rfl rfl ((ef_store_m (f := RowD.d) (k := k) (z := 2) (o := 0) (i := 0) (a' := x3) rfl rfl hx4 rfl (CellD.agg) Try.sizeOf34 rfl rfl rfl).mono (by rintro _ _ ⟨_, rfl⟩; rfl)) HSub.none, trivial⟩) (fun γ => ?_)
        refine OpsD.keep [0, 1, 2, 3, 4, 10, 13, 55, 56, 57, 58, 61, 62, 63, 64, 65, 66, 67, 68, 69, 70, 71, 72, 73, 74, 75] [(0, .ov v), (1, .v (.int .i64 ((a : Nat) : Int))), (2, .v (.int .i64 ((m : Nat) : Int))), (3, .v (.int .i64 ((b : Nat) : Int))), (4, .fn 175 [] [.el (.v (.int .i64 o)) 0]), (10, .v (.int .i64 ((i : Nat) : Int))), (13, .v (.int .i64 ((k : Nat) : Int))), (55, .v (.int .i64 ((k : Nat) : Int))), (56, .v (.int .i64 ((i : Nat) : Int))), (57, .v (.int .i64 ((i - 1 : Nat) : Int))), (58, .v (.bool (decide (((k : Nat) : Int) < ((i - 1 : Nat) : Int))))), (61, .ov v), (62, .v (.int .i64 ((k : Nat) : Int))), (63, .ov v), (64, .v (.int .i64 ((k : Nat) : Int))), (65, .v (.int .i64 ((k + 1 : Nat) : Int))), (66, .ov v), (67, .v (.int .i64 ((k : Nat) : Int))), (68, .v (.int .i64 ((k + 1 : Nat) : Int))), (69, .v (.pointer (some ⟨bl v, (k + 1) * 2 + 0, none⟩))), (70, RowD.d x3), (71, .ov v), (72, .v (.int .i64 ((k : Nat) : Int))), (73, .v (.pointer (some ⟨bl v, k * 2 + 0, none⟩))), (74, RowD.d x4), (75, .v (.pointer (some ⟨bl v, k * 2 + 0, none⟩)))] rfl ?_
        obtain ⟨x5, hx5⟩ := get_some (L.set k x3) (k + 1) (by (try simp only [List.length_set]); omega)
        refine od_pu rfl rfl (p_indexAddr_sl (k := k + 1) (j := 0) rfl rfl rfl Try.runUnderlying27 Try.sizeOf34 (by first | rfl | omega) (get_map hx5)) ?_
        refine od_step rfl rfl (ef_store_m (f := RowD.d) (k := k + 1) (z := 2) (o := 0) (i := 0) (a' := x4) rfl rfl hx5 rfl (CellD.agg) Try.sizeOf34 rfl rfl rfl) ?_
        rintro _ _ ⟨rfl, rfl⟩
        refine OpsD.norm [.sl v 2 34 (((L.set k x3).set (k + 1) x4).map RowD.d)] rfl ?_
        refine od_nil rfl ?_
        refine pd_block ?_
        refine pd_seq ?_
        refine jd_region rfl ?_
        refine od_pu rfl rfl (p_move rfl) ?_
        refine od_pu rfl rfl (p_add (c := ((k + 1 : Nat) : Int)) rfl rfl (w64eq (by omega) (by omega))) ?_
        refine od_pu rfl rfl (p_assign rfl) ?_
        refine od_nil rfl ?_
        exact pd_loop (k + 1, n - 1, ((L.set k x3).set (k + 1) x4)) ⟨sk rfl, sk rfl, sk rfl, sk rfl, sk rfl, sk rfl, sk rfl, trivial⟩ HSub.rfl' ⟨by show k + 1 + (n - 1) + 1 = i; omega, by simp only [List.length_set]; exact hL, by show mvUp (n - 1) (k + 1) _ = _; rw [← hr]; obtain ⟨p, rfl⟩ : ∃ p, n = p + 1 := ⟨n - 1, by omega⟩; exact (mvUp_next hx4 hx3).symm⟩ (by omega)
      · replace hc5 := of_decide_eq_false hc5
        refine jd_exit rfl ?_
        refine pd_seq_exit ?_
        refine pd_loop_exit ?_
        refine pd_block_exit ?_
        refine pd_seq ?_
        refine jd_ret rfl ?_
        refine pd_seq_ret ?_
        refine PD.norm [.sl v 2 34 ((fixI (cmpRow o) a b l).map RowD.d)] (by rw [← merge_up (i := i) (cmpRow_cmp o) h3 hx1 (by omega) (by omega) (by rw [show a + 1 = m by omega]; exact hB) (by rw [show a + 1 = m by omega]; exact hlo.out) (by rw [show i = j by omega]; exact hhi.out), ← hr, show n = 0 by omega]; rfl) ?_
        exact pd_retH Try.results188 .nil rfl (HSub.fst 1 rfl) ⟨rfl, rfl⟩
  · replace hc1 := of_decide_eq_false hc1
    refine jd_skip rfl ?_
    refine pd_seq ?_
    refine jd_seq [true, false] [true, true] rfl rfl rfl ?_
    refine jd_seq [true, false, false] [true, false, true] rfl rfl rfl ?_
    refine jd_region rfl ?_
    refine od_pu rfl rfl (p_move rfl) ?_
    refine od_pu rfl rfl (p_move rfl) ?_
    refine od_pu rfl rfl (p_sub (c := ((b - m : Nat) : Int)) rfl rfl (w64eq (by omega) (by omega))) ?_
    refine od_pu rfl rfl (p_eql rfl rfl rfl) ?_
    refine od_nil rfl ?_
    refine pd_seq ?_
    refine jd_cond [true, false, true, false] [true, false, true, true] rfl rfl rfl rfl (fun hc6 => ?_) (fun hc6 => ?_)
    · replace hc6 := of_decide_eq_true hc6
      refine jd_seq [true, false, true, false, false] [true, false, true, false, true] rfl rfl rfl ?_
      refine jd_region rfl ?_
      refine od_pu rfl rfl (p_move rfl) ?_
      refine od_pu rfl rfl (p_assign rfl) ?_
      refine od_nil rfl ?_
      refine pd_seq ?_
      refine JD.keep [0, 1, 2, 3, 4, 14] [(0, .ov v), (1, .v (.int .i64 ((a : Nat) : Int))), (2, .v (.int .i64 ((m : Nat) : Int))), (3, .v (.int .i64 ((b : Nat) : Int))), (4, .fn 175 [] [.el (.v (.int .i64 o)) 0]), (14, .v (.int .i64 ((a : Nat) : Int)))] rfl ?_
      refine jd_seq [true, false, true, false, true, false] [true, false, true, false, true, true] rfl rfl rfl ?_
      refine jd_region rfl ?_
      refine od_pu rfl rfl (p_move rfl) ?_
      refine od_pu rfl rfl (p_assign rfl) ?_
      refine od_nil rfl ?_
      refine pd_seq ?_
      refine jd_seq [true, false, true, false, true, true, false] [true, false, true, false, true, true, true] rfl rfl rfl ?_
      refine jd_block [true, false, true, false, true, true, false, false] rfl rfl ?_
      obtain ⟨x6, hx6⟩ := get_some l m (by (try simp only [List.length_set]); omega)
      refine jd_loop (fun (g : Nat × Nat) => [(0, .ov v), (1, .v (.int .i64 ((a : Nat) : Int))), (2, .v (.int .i64 ((m : Nat) : Int))), (3, .v (.int .i64 ((b : Nat) : Int))), (4, .fn 175 [] [.el (.v (.int .i64 o)) 0]), (14, .v (.int .i64 ((g.1 : Nat) : Int))), (15, .v (.int .i64 ((g.2 : Nat) : Int)))]) (fun (g : Nat × Nat) => [.sl v 2 34 (l.map RowD.d)]) (fun (g : Nat × Nat) => (a ≤ g.1 ∧ g.1 ≤ g.2 ∧ g.2 ≤ m) ∧ (Hid (g.1 = a ∨ ∃ y, l[g.1 - 1]? = some y ∧ ¬ cmpRow o x6 y < 0)) ∧ (Hid (g.2 = m ∨ ∃ y, l[g.2]? = some y ∧ cmpRow o x6 y < 0))) (fun (g : Nat × Nat) => g.2 - g.1) [true, false, true, false, true, true, false, false, false] (a, m) rfl rfl ⟨sk rfl, sk rfl, sk rfl, sk rfl, sk rfl, sk rfl, sk rfl, trivial⟩ HSub.rfl' ⟨by show a ≤ a ∧ a ≤ m ∧ m ≤ m; omega, ⟨.inl rfl⟩, ⟨.inl rfl⟩⟩ ?_
      rintro ⟨i, j⟩ ⟨hij, hlo, hhi⟩
      replace hij : a ≤ i ∧ i ≤ j ∧ j ≤ m := hij
      replace hlo : Hid (i = a ∨ ∃ y, l[i - 1]? = some y ∧ ¬ cmpRow o x6 y < 0) := hlo
      replace hhi : Hid (j = m ∨ ∃ y, l[j]? = some y ∧ cmpRow o x6 y < 0) := hhi
      refine JD.keep [0, 1, 2, 3, 4, 14, 15] [(0, .ov v), (1, .v (.int .i64 ((a : Nat) : Int))), (2, .v (.int .i64 ((m : Nat) : Int))), (3, .v (.int .i64 ((b : Nat) : Int))), (4, .fn 175 [] [.el (.v (.int .i64 o)) 0]), (14, .v (.int .i64 ((i : Nat) : Int))), (15, .v (.int .i64 ((j : Nat) : Int)))] rfl ?_
      refine JD.norm [.sl v 2 34 (l.map RowD.d)] rfl ?_
      refine jd_seq [true, false, true, false, true, true, false, false, false, false] [true, false, true, false, true, true, false, false, false, true] rfl rfl rfl ?_
      refine jd_seq [true, false, true, false, true, true, false, false, false, false, false] [true, false, true, false, true, true, false, false, false, false, true] rfl rfl rfl ?_
      refine jd_region rfl ?_
      refine od_pu rfl rfl (p_move rfl) ?_
      refine od_pu rfl rfl (p_move rfl) ?_
      refine od_pu rfl rfl (p_lss rfl rfl rfl) ?_
      refine od_nil rfl ?_
      refine pd_seq ?_
      refine jd_cond [true, false, true, false, true, true, false, false, false, false, true, false] [true, false, true, false, true, true, false, false, false, false, true, true] rfl rfl rfl rfl (fun hc7 => ?_) (fun hc7 => ?_)
      · replace hc7 := of_decide_eq_true hc7
        refine jd_skip rfl ?_
        refine pd_seq ?_
        refine jd_block [true, false, true, false, true, true, false, false, false, true, false] rfl rfl ?_
        refine jd_seq [true, false, true, false, true, true, false, false, false, true, false, false] [true, false, true, false, true, true, false, false, false, true, false, true] rfl rfl rfl ?_
        refine jd_region rfl ?_
        refine od_pu rfl rfl (p_move rfl) ?_
        refine od_pu rfl rfl (p_move rfl) ?_
        refine od_pu rfl rfl (p_add (c := ((i + j : Nat) : Int)) rfl rfl (w64eq (by omega) (by omega))) ?_
        refine od_pu rfl rfl (p_cast rfl (c := ((i + j : Nat) : Int)) (cv_3_171 (by omega))) ?_
        obtain ⟨q8, hq8⟩ : ∃ q, q = (i + j) / 2 := ⟨_, rfl⟩
        refine od_pu rfl rfl ((p_shr (a := i + j) (n := 1) (m := 2) rfl rfl (by decide) (by decide)).cv (Cv.eq (by rw [← hq8]))) ?_
        refine od_pu rfl rfl (p_cast rfl (c := ((q8 : Nat) : Int)) (cv_171_3 (by omega))) ?_
        refine od_pu rfl rfl (p_assign rfl) ?_
        refine od_nil rfl ?_
        refine pd_seq ?_
        refine jd_seq [true, false, true, false, true, true, false, false, false, true, false, true, false] [true, false, true, false, true, true, false, false, false, true, false, true, true] rfl rfl rfl ?_
        refine JD.keep [0, 1, 2, 3, 4, 14, 15, 16, 83, 84, 85, 86, 87, 88, 89, 90, 91] [(0, .ov v), (1, .v (.int .i64 ((a : Nat) : Int))), (2, .v (.int .i64 ((m : Nat) : Int))), (3, .v (.int .i64 ((b : Nat) : Int))), (4, .fn 175 [] [.el (.v (.int .i64 o)) 0]), (14, .v (.int .i64 ((i : Nat) : Int))), (15, .v (.int .i64 ((j : Nat) : Int))), (16, .v (.int .i64 ((q8 : Nat) : Int))), (83, .v (.int .i64 ((i : Nat) : Int))), (84, .v (.int .i64 ((j : Nat) : Int))), (85, .v (.bool (decide (((i : Nat) : Int) < ((j : Nat) : Int))))), (86, .v (.int .i64 ((i : Nat) : Int))), (87, .v (.int .i64 ((j : Nat) : Int))), (88, .v (.int .i64 ((i + j : Nat) : Int))), (89, .v (.int .u64 ((i + j : Nat) : Int))), (90, .v (.int .u64 ((q8 : Nat) : Int))), (91, .v (.int .i64 ((q8 : Nat) : Int)))] rfl ?_
        refine JD.norm [.sl v 2 34 (l.map RowD.d)] rfl ?_
        obtain ⟨x7, hx7⟩ := get_some l q8 (by (try simp only [List.length_set]); omega)
        refine jd_draw 9 [(92, .fn 175 [] [.el (.v (.int .i64 o)) 0], none), (93, .ov v, none), (94, .v (.int .i64 ((m : Nat) : Int)), none), (95, .v (.pointer (some ⟨bl v, m * 2 + 0, none⟩)), none), (96, RowD.d x6, none), (97, .ov v, none), (98, .v (.int .i64 ((q8 : Nat) : Int)), none), (99, .v (.pointer (some ⟨bl v, q8 * 2 + 0, none⟩)), none), (100, RowD.d x7, none)] [.sl v 2 34 (l.map RowD.d)] (Hn := [.sl v 2 34 (l.map RowD.d)]) mixed rfl rfl rfl rfl HSub.rfl' rfl ⟨sa_p rfl rfl rfl (p_move rfl), sa_p rfl rfl rfl (p_move rfl), sa_p rfl rfl rfl (p_move rfl), sa_p rfl rfl rfl (p_indexAddr_sl (k := m) (j := 0) rfl rfl rfl Try.runUnderlying27 Try.sizeOf34 (by first | rfl | omega) (get_map hx6)), sa_p rfl rfl rfl (p_load_sl (d := RowD.d x6) rfl (i := 0) rfl (get_map hx6) Try.isAgg34 Try.sizeOf34 rfl rfl), sa_p rfl rfl rfl (p_move rfl), sa_p rfl rfl rfl (p_move rfl), sa_p rfl rfl rfl (p_indexAddr_sl (k := q8) (j := 0) rfl rfl rfl Try.runUnderlying27 Try.sizeOf34 (by first | rfl | omega) (get_map hx7)), sa_p rfl rfl rfl (p_load_sl (d := RowD.d x7) rfl (i := 0) rfl (get_map hx7) Try.isAgg34 Try.sizeOf34 rfl rfl), trivial⟩ ?_
        refine OpsD.keep [0, 1, 2, 3, 4, 14, 15, 16, 83, 84, 85, 86, 87, 88, 89, 90, 91, 92, 93, 94, 95, 96, 97, 98, 99, 100] [(0, .ov v), (1, .v (.int .i64 ((a : Nat) : Int))), (2, .v (.int .i64 ((m : Nat) : Int))), (3, .v (.int .i64 ((b : Nat) : Int))), (4, .fn 175 [] [.el (.v (.int .i64 o)) 0]), (14, .v (.int .i64 ((i : Nat) : Int))), (15, .v (.int .i64 ((j : Nat) : Int))), (16, .v (.int .i64 ((q8 : Nat) : Int))), (83, .v (.int .i64 ((i : Nat) : Int))), (84, .v (.int .i64 ((j : Nat) : Int))), (85, .v (.bool (decide (((i : Nat) : Int) < ((j : Nat) : Int))))), (86, .v (.int .i64 ((i : Nat) : Int))), (87, .v (.int .i64 ((j : Nat) : Int))), (88, .v (.int .i64 ((i + j : Nat) : Int))), (89, .v (.int .u64 ((i + j : Nat) : Int))), (90, .v (.int .u64 ((q8 : Nat) : Int))), (91, .v (.int .i64 ((q8 : Nat) : Int))), (92, .fn 175 [] [.el (.v (.int .i64 o)) 0]), (93, .ov v), (94, .v (.int .i64 ((m : Nat) : Int))), (95, .v (.pointer (some ⟨bl v, m * 2 + 0, none⟩))), (96, RowD.d x6), (97, .ov v), (98, .v (.int .i64 ((q8 : Nat) : Int))), (99, .v (.pointer (some ⟨bl v, q8 * 2 + 0, none⟩))), (100, RowD.d x7)] rfl ?_
        refine od_step rfl rfl (ef_callv [] _ [] rfl rfl rfl (.cons ArgC.id (.cons ArgC.id (.cons ArgC.id .nil))) lend_nil Try.call175 (cmpf_c x6 x7 o) (.inl rfl)) ?_
        rintro _ _ ⟨_, ⟨rfl, rfl⟩, rfl⟩
        refine OpsD.norm [.sl v 2 34 (l.map RowD.d)] rfl ?_
        refine od_pu rfl rfl (p_lss rfl rfl rfl) ?_
        refine od_pu rfl rfl (p_not rfl) ?_
        refine od_nil rfl ?_
        refine pd_seq ?_
        refine jd_cond [true, false, true, false, true, true, false, false, false, true, false, true, true, false] [true, false, true, false, true, true, false, false, false, true, false, true, true, true] rfl rfl rfl rfl (fun hc9 => ?_) (fun hc9 => ?_)
        · replace hc9 := of_decide_eq_false (p := cmpRow o x6 x7 < (0 : Int)) (by simpa using hc9)
          refine jd_region rfl ?_
          refine od_pu rfl rfl (p_move rfl) ?_
          refine od_pu rfl rfl (p_add (c := ((q8 + 1 : Nat) : Int)) rfl rfl (w64eq (by omega) (by omega))) ?_
          refine od_pu rfl rfl (p_assign rfl) ?_
          refine od_nil rfl ?_
          refine pd_block ?_
          exact pd_loop (q8 + 1, j) ⟨sk rfl, sk rfl, sk rfl, sk rfl, sk rfl, sk rfl, sk rfl, trivial⟩ HSub.rfl' ⟨by show a ≤ q8 + 1 ∧ q8 + 1 ≤ j ∧ j ≤ m; omega, ⟨.inr ⟨_, hx7, hc9⟩⟩, hhi⟩ (by show j - (q8 + 1) < j - i; omega)
        · replace hc9 := of_decide_eq_true (p := cmpRow o x6 x7 < (0 : Int)) (by simpa using hc9)
          refine jd_region rfl ?_
          refine od_pu rfl rfl (p_move rfl) ?_
          refine od_pu rfl rfl (p_assign rfl) ?_
          refine od_nil rfl ?_
          refine pd_block ?_
          exact pd_loop (i, q8) ⟨sk rfl, sk rfl, sk rfl, sk rfl, sk rfl, sk rfl, sk rfl, trivial⟩ HSub.rfl' ⟨by show a ≤ i ∧ i ≤ q8 ∧ q8 ≤ m; omega, hlo, ⟨.inr ⟨_, hx7, hc9⟩⟩⟩ (by show q8 - i < j - i; omega)
      · replace hc7 := of_decide_eq_false hc7
        refine jd_exit rfl ?_
        refine pd_seq_exit ?_
        refine pd_loop_exit ?_
        refine pd_block_exit ?_
        refine pd_seq ?_
        refine jd_seq [true, false, true, false, true, true, true, false] [true, false, true, false, true, true, true, true] rfl rfl rfl ?_
        refine jd_seq [true, false, true, false, true, true, true, false, false] [true, false, true, false, true, true, true, false, true] rfl rfl rfl ?_
        refine jd_region rfl ?_
        refine od_pu rfl rfl (p_move rfl) ?_
        refine od_pu rfl rfl (p_assign rfl) ?_
        refine od_nil rfl ?_
        refine pd_seq ?_
        refine jd_block [true, false, true, false, true, true, true, false, true, false] rfl rfl ?_
        refine jd_loop (fun (g : Nat × Nat × List RowD) => [(0, .ov v), (1, .v (.int .i64 ((a : Nat) : Int))), (2, .v (.int .i64 ((m : Nat) : Int))), (3, .v (.int .i64 ((b : Nat) : Int))), (4, .fn 175 [] [.el (.v (.int .i64 o)) 0]), (14, .v (.int .i64 ((i : Nat) : Int))), (17, .v (.int .i64 ((g.1 : Nat) : Int)))]) (fun (g : Nat × Nat × List RowD) => [.sl v 2 34 (g.2.2.map RowD.d)]) (fun (g : Nat × Nat × List RowD) => (g.1 = i + g.2.1 ∧ g.1 ≤ m) ∧ ((g.2.2).length = l.length) ∧ (mvDn g.2.1 g.1 g.2.2 = mvDn (m - i) m l)) (fun (g : Nat × Nat × List RowD) => g.1) [true, false, true, false, true, true, true, false, true, false, false] (m, m - i, l) rfl rfl ⟨sk rfl, sk rfl, sk rfl, sk rfl, sk rfl, sk rfl, sk rfl, trivial⟩ HSub.rfl' ⟨by show m = i + (m - i) ∧ m ≤ m; omega, rfl, rfl⟩ ?_
        rintro ⟨k, n, L⟩ ⟨hk, hL, hr⟩
        replace hk : k = i + n ∧ k ≤ m := hk
        replace hL : (L).length = l.length := hL
        replace hr : mvDn n k L = mvDn (m - i) m l := hr
        refine JD.keep [0, 1, 2, 3, 4, 14, 17] [(0, .ov v), (1, .v (.int .i64 ((a : Nat) : Int))), (2, .v (.int .i64 ((m : Nat) : Int))), (3, .v (.int .i64 ((b : Nat) : Int))), (4, .fn 175 [] [.el (.v (.int .i64 o)) 0]), (14, .v (.int .i64 ((i : Nat) : Int))), (17, .v (.int .i64 ((k : Nat) : Int)))] rfl ?_
        refine JD.norm [.sl v 2 34 (L.map RowD.d)] rfl ?_
        refine jd_seq [true, false, true, false, true, true, true, false, true, false, false, false] [true, false, true, false, true, true, true, false, true, false, false, true] rfl rfl rfl ?_
        refine jd_seq [true, false, true, false, true, true, true, false, true, false, false, false, false] [true, false, true, false, true, true, true, false, true, false, false, false, true] rfl rfl rfl ?_
        refine jd_region rfl ?_
        refine od_pu rfl rfl (p_move rfl) ?_
        refine od_pu rfl rfl (p_move rfl) ?_
        refine od_pu rfl rfl (p_gtr rfl rfl rfl) ?_
        refine od_nil rfl ?_
        refine pd_seq ?_
        refine jd_cond [true, false, true, false, true, true, true, false, true, false, false, false, true, false] [true, false, true, false, true, true, true, false, true, false, false, false, true, true] rfl rfl rfl rfl (fun hc10 => ?_) (fun hc10 => ?_)
        · replace hc10 := of_decide_eq_true hc10
          refine jd_skip rfl ?_
          refine pd_seq ?_
          refine jd_seq [true, false, true, false, true, true, true, false, true, false, false, true, false] [true, false, true, false, true, true, true, false, true, false, false, true, true] rfl rfl rfl ?_
          refine jd_block [true, false, true, false, true, true, true, false, true, false, false, true, false, false] rfl rfl ?_
          refine JD.keep [0, 1, 2, 3, 4, 14, 17, 108, 109, 110] [(0, .ov v), (1, .v (.int .i64 ((a : Nat) : Int))), (2, .v (.int .i64 ((m : Nat) : Int))), (3, .v (.int .i64 ((b : Nat) : Int))), (4, .fn 175 [] [.el (.v (.int .i64 o)) 0]), (14, .v (.int .i64 ((i : Nat) : Int))), (17, .v (.int .i64 ((k : Nat) : Int))), (108, .v (.int .i64 ((k : Nat) : Int))), (109, .v (.int .i64 ((i : Nat) : Int))), (110, .v (.bool (decide (((i : Nat) : Int) < ((k : Nat) : Int)))))] rfl ?_
          refine JD.norm [.sl v 2 34 (L.map RowD.d)] rfl ?_
          obtain ⟨x8, hx8⟩ := get_some L (k - 1) (by (try simp only [List.length_set]); omega)
          obtain ⟨x4, hx4⟩ := get_some L k (by (try simp only [List.length_set]); omega)
          refine jd_drawo 16 [(113, .q (.ov v)), (114, .q (.v (.int .i64 ((k : Nat) : Int)))), (115, .q (.ov v)), (116, .q (.v (.int .i64 ((k : Nat) : Int)))), (117, .q (.v (.int .i64 ((k - 1 : Nat) : Int)))), (118, .q (.ov v)), (119, .q (.v (.int .i64 ((k : Nat) : Int)))), (120, .q (.v (.int .i64 ((k - 1 : Nat) : Int)))), (121, .r (.v (.pointer (some ⟨bl v, (k - 1) * 2 + 0, none⟩)))), (122, .r (RowD.d x8)), (123, .q (.ov v)), (124, .q (.v (.int .i64 ((k : Nat) : Int)))), (125, .r (.v (.pointer (some ⟨bl v, k * 2 + 0, none⟩)))), (126, .r (RowD.d x4)), (127, .r (.v (.pointer (some ⟨bl v, k * 2 + 0, none⟩)))), (235, .s (fun γ => [.sl v 2 34 ((L.set k x8).map RowD.d)]))] [] (Hn := fun γ => [.sl v 2 34 ((L.set k x8).map RowD.d)]) mixed rfl rfl (by kernel_rfl) (by kernel_rfl) (by kernel_rfl) HSub.none (fun _ => rfl) (fun γ => ⟨so_p rfl rfl rfl (p_move rfl), so_p rfl rfl rfl (p_move rfl), so_p rfl rfl rfl (p_move rfl), so_p rfl rfl rfl (p_move rfl), so_p rfl rfl rfl (p_sub (c := ((k - 1 : Nat) : Int)) rfl rfl (w64eq (by omega) (by omega))), so_p rfl rfl rfl (p_move rfl), so_p rfl rfl rfl (p_move rfl), so_p rfl rfl rfl (p_sub (c := ((k - 1 : Nat) : Int)) rfl rfl (w64eq (by omega) (by omega))), so_r rfl rfl rfl rfl (p_indexAddr_sl (k := k - 1) (j := 0) rfl rfl rfl Try.runUnderlying27 Try.sizeOf34 (by first | rfl | omega) (get_map hx8)), so_r rfl rfl rfl rfl (p_load_sl (d := RowD.d x8) rfl (i := 0) rfl (get_map hx8) Try.isAgg34 Try.sizeOf34 rfl rfl), so_p rfl rfl rfl (p_move rfl), so_p rfl rfl rfl (p_move rfl), so_r rfl rfl rfl rfl (p_indexAddr_sl (k := k) (j := 0) rfl rfl rfl Try.runUnderlying27 Try.sizeOf34 (by first | rfl | omega) (get_map hx4)), so_r rfl rfl rfl rfl (p_load_sl (d := RowD.d x4) rfl (i := 0) rfl (get_map hx4) Try.isAgg34 Try.sizeOf34 rfl rfl), so_r rfl rfl rfl rfl (p_indexAddr_sl (k := k) (j := 0) rfl rfl rfl Try.runUnderlying27 Try.sizeOf34 (by first | rfl | omega) (get_map hx4)), so_st rfl rfl rfl rfl rfl ((ef_store_m (f := RowD.d) (k := k) (z := 2) (o := 0) (i := 0) (a' := x8) rfl rfl hx4 rfl (CellD.agg) Try.sizeOf34 rfl rfl rfl).mono (by rintro _ _ ⟨_, rfl⟩; rfl)) HSub.none, trivial⟩) (fun γ => ?_)
          refine OpsD.keep [0, 1, 2, 3, 4, 14, 17, 108, 109, 110, 113, 114, 115, 116, 117, 118, 119, 120, 121, 122, 123, 124, 125, 126, 127] [(0, .ov v), (1, .v (.int .i64 ((a : Nat) : Int))), (2, .v (.int .i64 ((m : Nat) : Int))), (3, .v (.int .i64 ((b : Nat) : Int))), (4, .fn 175 [] [.el (.v (.int .i64 o)) 0]), (14, .v (.int .i64 ((i : Nat) : Int))), (17, .v (.int .i64 ((k : Nat) : Int))), (108, .v (.int .i64 ((k : Nat) : Int))), (109, .v (.int .i64 ((i : Nat) : Int))), (110, .v (.bool (decide (((i : Nat) : Int) < ((k : Nat) : Int))))), (113, .ov v), (114, .v (.int .i64 ((k : Nat) : Int))), (115, .ov v), (116, .v (.int .i64 ((k : Nat) : Int))), (117, .v (.int .i64 ((k - 1 : Nat) : Int))), (118, .ov v), (119, .v (.int .i64 ((k : Nat) : Int))), (120, .v (.int .i64 ((k - 1 : Nat) : Int))), (121, .v (.pointer (some ⟨bl v, (k - 1) * 2 + 0, none⟩))), (122, RowD.d x8), (123, .ov v), (124, .v (.int .i64 ((k : Nat) : Int))), (125, .v (.pointer (some ⟨bl v, k * 2 + 0, none⟩))), (126, RowD.d x4), (127, .v (.pointer (some ⟨bl v, k * 2 + 0, none⟩)))] rfl ?_
          obtain ⟨x9, hx9⟩ := get_some (L.set k x8) (k - 1) (by (try simp only [List.length_set]); omega)
          refine od_pu rfl rfl (p_indexAddr_sl (k := k - 1) (j := 0) rfl rfl rfl Try.runUnderlying27 Try.sizeOf34 (by first | rfl | omega) (get_map hx9)) ?_
          refine od_step rfl rfl (ef_store_m (f := RowD.d) (k := k - 1) (z := 2) (o := 0) (i := 0) (a' := x4) rfl rfl hx9 rfl (CellD.agg) Try.sizeOf34 rfl rfl rfl) ?_
          rintro _ _ ⟨rfl, rfl⟩
          refine OpsD.norm [.sl v 2 34 (((L.set k x8).set (k - 1) x4).map RowD.d)] rfl ?_
          refine od_nil rfl ?_
          refine pd_block ?_
          refine pd_seq ?_
          refine jd_region rfl ?_
          refine od_pu rfl rfl (p_move rfl) ?_
          refine od_pu rfl rfl (p_sub (c := ((k - 1 : Nat) : Int)) rfl rfl (w64eq (by omega) (by omega))) ?_
          refine od_pu rfl rfl (p_assign rfl) ?_
          refine od_nil rfl ?_
          exact pd_loop (k - 1, n - 1, ((L.set k x8).set (k - 1) x4)) ⟨sk rfl, sk rfl, sk rfl, sk rfl, sk rfl, sk rfl, sk rfl, trivial⟩ HSub.rfl' ⟨by show k - 1 = i + (n - 1) ∧ k - 1 ≤ m; omega, by simp only [List.length_set]; exact hL, by show mvDn (n - 1) (k - 1) _ = _; rw [← hr]; obtain ⟨p, rfl⟩ : ∃ p, n = p + 1 := ⟨n - 1, by omega⟩; exact (mvDn_next hx4 hx8).symm⟩ (by omega)
        · replace hc10 := of_decide_eq_false hc10
          refine jd_exit rfl ?_
          refine pd_seq_exit ?_
          refine pd_loop_exit ?_
          refine pd_block_exit ?_
          refine pd_seq ?_
          refine jd_ret rfl ?_
          refine pd_seq_ret ?_
          refine PD.norm [.sl v 2 34 ((fixI (cmpRow o) a b l).map RowD.d)] (by rw [show b = m + 1 by omega, ← merge_dn (i := i) (cmpRow_cmp o) hx6 (by omega) (by omega) hA hlo.out (by rw [show i = j by omega]; exact hhi.out), ← hr, show n = 0 by omega]; rfl) ?_
          exact pd_retH Try.results188 .nil rfl (HSub.fst 1 rfl) ⟨rfl, rfl⟩
    · replace hc6 := of_decide_eq_false hc6
      refine jd_skip rfl ?_
      refine pd_seq ?_
      refine jd_seq [true, true, false] [true, true, true] rfl rfl rfl ?_
      refine jd_region rfl ?_
      refine od_pu rfl rfl (p_move rfl) ?_
      refine od_pu rfl rfl (p_move rfl) ?_
      refine od_pu rfl rfl (p_add (c := ((a + b : Nat) : Int)) rfl rfl (w64eq (by omega) (by omega))) ?_
      refine od_pu rfl rfl (p_cast rfl (c := ((a + b : Nat) : Int)) (cv_3_171 (by omega))) ?_
      obtain ⟨q11, hq11⟩ : ∃ q, q = (a + b) / 2 := ⟨_, rfl⟩
      refine od_pu rfl rfl ((p_shr (a := a + b) (n := 1) (m := 2) rfl rfl (by decide) (by decide)).cv (Cv.eq (by rw [← hq11]))) ?_
      refine od_pu rfl rfl (p_cast rfl (c := ((q11 : Nat) : Int)) (cv_171_3 (by omega))) ?_
      refine od_pu rfl rfl (p_assign rfl) ?_
      refine od_nil rfl ?_
      refine pd_seq ?_
      refine JD.keep [0, 1, 2, 3, 4, 18] [(0, .ov v), (1, .v (.int .i64 ((a : Nat) : Int))), (2, .v (.int .i64 ((m : Nat) : Int))), (3, .v (.int .i64 ((b : Nat) : Int))), (4, .fn 175 [] [.el (.v (.int .i64 o)) 0]), (18, .v (.int .i64 ((q11 : Nat) : Int)))] rfl ?_
      refine jd_seq [true, true, true, false] [true, true, true, true] rfl rfl rfl ?_
      refine jd_region rfl ?_
      refine od_pu rfl rfl (p_move rfl) ?_
      refine od_pu rfl rfl (p_move rfl) ?_
      refine od_pu rfl rfl (p_add (c := ((q11 + m : Nat) : Int)) rfl rfl (w64eq (by omega) (by omega))) ?_
      refine od_pu rfl rfl (p_assign rfl) ?_
      refine od_nil rfl ?_
      refine pd_seq ?_
      refine jd_seq [true, true, true, true, false] [true, true, true, true, true] rfl rfl rfl ?_
      refine jd_region rfl ?_
      refine od_pu rfl rfl (p_assign rfl) ?_
      refine od_pu rfl rfl (p_assign rfl) ?_
      refine od_nil rfl ?_
      refine pd_seq ?_
      refine jd_seq [true, true, true, true, true, false] [true, true, true, true, true, true] rfl rfl rfl ?_
      refine jd_seq [true, true, true, true, true, false, false] [true, true, true, true, true, false, true] rfl rfl rfl ?_
      refine jd_region rfl ?_
      refine od_pu rfl rfl (p_move rfl) ?_
      refine od_pu rfl rfl (p_move rfl) ?_
      refine od_pu rfl rfl (p_gtr rfl rfl rfl) ?_
      refine od_nil rfl ?_
      refine pd_seq ?_
      refine jd_join (fun (g : Nat × Nat) => [(0, .ov v), (1, .v (.int .i64 ((a : Nat) : Int))), (2, .v (.int .i64 ((m : Nat) : Int))), (3, .v (.int .i64 ((b : Nat) : Int))), (4, .fn 175 [] [.el (.v (.int .i64 o)) 0]), (18, .v (.int .i64 ((q11 : Nat) : Int))), (19, .v (.int .i64 ((q11 + m : Nat) : Int))), (20, .v (.int .i64 ((g.1 : Nat) : Int))), (21, .v (.int .i64 ((g.2 : Nat) : Int)))]) (fun (g : Nat × Nat) => [.sl v 2 34 (l.map RowD.d)]) (fun (g : Nat × Nat) => ((a ≤ g.1 ∧ q11 + m ≤ g.1 + b) ∧ g.1 ≤ g.2 ∧ g.2 ≤ m ∧ g.2 ≤ q11) ∧ (Hid (g.1 = a ∨ g.1 + b = q11 + m ∨ ∃ x y, l[g.1 - 1]? = some x ∧ l[q11 + m - g.1]? = some y ∧ ¬ cmpRow o y x < 0)) ∧ (Hid (g.2 = m ∨ g.2 = q11 ∨ ∃ x y, l[g.2]? = some x ∧ l[q11 + m - g.2 - 1]? = some y ∧ cmpRow o y x < 0))) (fun _ hQ12 => ?_) ?_
      · skip
        refine jd_cond [true, true, true, true, true, false, true, false] [true, true, true, true, true, false, true, true] rfl rfl rfl rfl (fun hc13 => ?_) (fun hc13 => ?_)
        · replace hc13 := of_decide_eq_true hc13
          refine jd_seq [true, true, true, true, true, false, true, false, false] [true, true, true, true, true, false, true, false, true] rfl rfl rfl ?_
          refine jd_region rfl ?_
          refine od_pu rfl rfl (p_move rfl) ?_
          refine od_pu rfl rfl (p_move rfl) ?_
          refine od_pu rfl rfl (p_sub (c := (((q11 + m) - b : Nat) : Int)) rfl rfl (w64eq (by omega) (by omega))) ?_
          refine od_pu rfl rfl (p_assign rfl) ?_
          refine od_nil rfl ?_
          refine pd_seq ?_
          refine JD.keep [0, 1, 2, 3, 4, 18, 19, 20, 21] [(0, .ov v), (1, .v (.int .i64 ((a : Nat) : Int))), (2, .v (.int .i64 ((m : Nat) : Int))), (3, .v (.int .i64 ((b : Nat) : Int))), (4, .fn 175 [] [.el (.v (.int .i64 o)) 0]), (18, .v (.int .i64 ((q11 : Nat) : Int))), (19, .v (.int .i64 ((q11 + m : Nat) : Int))), (20, .v (.int .i64 (((q11 + m) - b : Nat) : Int))), (21, .v (.int .i64 0))] rfl ?_
          refine jd_region rfl ?_
          refine od_pu rfl rfl (p_move rfl) ?_
          refine od_pu rfl rfl (p_assign rfl) ?_
          refine od_nil rfl ?_
          exact PD.sub [(0, .ov v), (1, .v (.int .i64 ((a : Nat) : Int))), (2, .v (.int .i64 ((m : Nat) : Int))), (3, .v (.int .i64 ((b : Nat) : Int))), (4, .fn 175 [] [.el (.v (.int .i64 o)) 0]), (18, .v (.int .i64 ((q11 : Nat) : Int))), (19, .v (.int .i64 ((q11 + m : Nat) : Int))), (20, .v (.int .i64 (((q11 + m) - b : Nat) : Int))), (21, .v (.int .i64 ((q11 : Nat) : Int)))] ⟨sk rfl, sk rfl, sk rfl, sk rfl, sk rfl, sk rfl, sk rfl, sk rfl, sk rfl, trivial⟩ (hQ12 ((q11 + m) - b, q11) ⟨by show (a ≤ ((q11 + m) - b) ∧ q11 + m ≤ ((q11 + m) - b) + b) ∧ ((q11 + m) - b) ≤ q11 ∧ q11 ≤ m ∧ q11 ≤ q11; omega, by have h : ((q11 + m) - b) = a ∨ ((q11 + m) - b) + b = q11 + m := (by omega); exact h.elim (fun h => ⟨.inl h⟩) (fun h => ⟨.inr (.inl h)⟩), by have h : q11 = m ∨ q11 = q11 := (by omega); exact h.elim (fun h => ⟨.inl h⟩) (fun h => ⟨.inr (.inl h)⟩)⟩)
        · replace hc13 := of_decide_eq_false hc13
          refine jd_seq [true, true, true, true, true, false, true, true, false] [true, true, true, true, true, false, true, true, true] rfl rfl rfl ?_
          refine jd_region rfl ?_
          refine od_pu rfl rfl (p_move rfl) ?_
          refine od_pu rfl rfl (p_assign rfl) ?_
          refine od_nil rfl ?_
          refine pd_seq ?_
          refine jd_region rfl ?_
          refine od_pu rfl rfl (p_move rfl) ?_
          refine od_pu rfl rfl (p_assign rfl) ?_
          refine od_nil rfl ?_
          exact PD.sub [(0, .ov v), (1, .v (.int .i64 ((a : Nat) : Int))), (2, .v (.int .i64 ((m : Nat) : Int))), (3, .v (.int .i64 ((b : Nat) : Int))), (4, .fn 175 [] [.el (.v (.int .i64 o)) 0]), (18, .v (.int .i64 ((q11 : Nat) : Int))), (19, .v (.int .i64 ((q11 + m : Nat) : Int))), (20, .v (.int .i64 ((a : Nat) : Int))), (21, .v (.int .i64 ((m : Nat) : Int)))] ⟨sk rfl, sk rfl, sk rfl, sk rfl, sk rfl, sk rfl, sk rfl, sk rfl, sk rfl, trivial⟩ (hQ12 (a, m) ⟨by show (a ≤ a ∧ q11 + m ≤ a + b) ∧ a ≤ m ∧ m ≤ m ∧ m ≤ q11; omega, by have h : a = a ∨ a + b = q11 + m := (by omega); exact h.elim (fun h => ⟨.inl h⟩) (fun h => ⟨.inr (.inl h)⟩), by have h : m = m ∨ m = q11 := (by omega); exact h.elim (fun h => ⟨.inl h⟩) (fun h => ⟨.inr (.inl h)⟩)⟩)
      · skip
        rintro ⟨s, r⟩ ⟨hbd, hlo, hhi⟩
        replace hbd : (a ≤ s ∧ q11 + m ≤ s + b) ∧ s ≤ r ∧ r ≤ m ∧ r ≤ q11 := hbd
        replace hlo : Hid (s = a ∨ s + b = q11 + m ∨ ∃ x y, l[s - 1]? = some x ∧ l[q11 + m - s]? = some y ∧ ¬ cmpRow o y x < 0) := hlo
        replace hhi : Hid (r = m ∨ r = q11 ∨ ∃ x y, l[r]? = some x ∧ l[q11 + m - r - 1]? = some y ∧ cmpRow o y x < 0) := hhi
        refine PD.keep [0, 1, 2, 3, 4, 18, 19, 20, 21] [(0, .ov v), (1, .v (.int .i64 ((a : Nat) : Int))), (2, .v (.int .i64 ((m : Nat) : Int))), (3, .v (.int .i64 ((b : Nat) : Int))), (4, .fn 175 [] [.el (.v (.int .i64 o)) 0]), (18, .v (.int .i64 ((q11 : Nat) : Int))), (19, .v (.int .i64 ((q11 + m : Nat) : Int))), (20, .v (.int .i64 ((s : Nat) : Int))), (21, .v (.int .i64 ((r : Nat) : Int)))] rfl ?_
        refine PD.norm [.sl v 2 34 (l.map RowD.d)] rfl ?_
        refine pd_seq ?_
        refine jd_seq [true, true, true, true, true, true, false] [true, true, true, true, true, true, true] rfl rfl rfl ?_
        refine jd_region rfl ?_
        refine od_pu rfl rfl (p_move rfl) ?_
        refine od_pu rfl rfl (p_sub (c := (((q11 + m) - 1 : Nat) : Int)) rfl rfl (w64eq (by omega) (by omega))) ?_
        refine od_pu rfl rfl (p_assign rfl) ?_
        refine od_nil rfl ?_
        refine pd_seq ?_
        refine jd_seq [true, true, true, true, true, true, true, false] [true, true, true, true, true, true, true, true] rfl rfl rfl ?_
        refine jd_block [true, true, true, true, true, true, true, false, false] rfl rfl ?_
        refine jd_loop (fun (g : Nat × Nat) => [(0, .ov v), (1, .v (.int .i64 ((a : Nat) : Int))), (2, .v (.int .i64 ((m : Nat) : Int))), (3, .v (.int .i64 ((b : Nat) : Int))), (4, .fn 175 [] [.el (.v (.int .i64 o)) 0]), (18, .v (.int .i64 ((q11 : Nat) : Int))), (19, .v (.int .i64 ((q11 + m : Nat) : Int))), (22, .v (.int .i64 (((q11 + m) - 1 : Nat) : Int))), (20, .v (.int .i64 ((g.1 : Nat) : Int))), (21, .v (.int .i64 ((g.2 : Nat) : Int)))]) (fun (g : Nat × Nat) => [.sl v 2 34 (l.map RowD.d)]) (fun (g : Nat × Nat) => ((a ≤ g.1 ∧ q11 + m ≤ g.1 + b) ∧ g.1 ≤ g.2 ∧ g.2 ≤ m ∧ g.2 ≤ q11) ∧ (Hid (g.1 = a ∨ g.1 + b = q11 + m ∨ ∃ x y, l[g.1 - 1]? = some x ∧ l[q11 + m - g.1]? = some y ∧ ¬ cmpRow o y x < 0)) ∧ (Hid (g.2 = m ∨ g.2 = q11 ∨ ∃ x y, l[g.2]? = some x ∧ l[q11 + m - g.2 - 1]? = some y ∧ cmpRow o y x < 0))) (fun (g : Nat × Nat) => g.2 - g.1) [true, true, true, true, true, true, true, false, false, false] (s, r) rfl rfl ⟨sk rfl, sk rfl, sk rfl, sk rfl, sk rfl, sk rfl, sk rfl, sk rfl, sk rfl, sk rfl, trivial⟩ HSub.rfl' ⟨hbd, hlo, hhi⟩ ?_
        rintro ⟨s, r⟩ ⟨hbd, hlo, hhi⟩
        replace hbd : (a ≤ s ∧ q11 + m ≤ s + b) ∧ s ≤ r ∧ r ≤ m ∧ r ≤ q11 := hbd
        replace hlo : Hid (s = a ∨ s + b = q11 + m ∨ ∃ x y, l[s - 1]? = some x ∧ l[q11 + m - s]? = some y ∧ ¬ cmpRow o y x < 0) := hlo
        replace hhi : Hid (r = m ∨ r = q11 ∨ ∃ x y, l[r]? = some x ∧ l[q11 + m - r - 1]? = some y ∧ cmpRow o y x < 0) := hhi
        refine JD.keep [0, 1, 2, 3, 4, 18, 19, 22, 20, 21] [(0, .ov v), (1, .v (.int .i64 ((a : Nat) : Int))), (2, .v (.int .i64 ((m : Nat) : Int))), (3, .v (.int .i64 ((b : Nat) : Int))), (4, .fn 175 [] [.el (.v (.int .i64 o)) 0]), (18, .v (.int .i64 ((q11 : Nat) : Int))), (19, .v (.int .i64 ((q11 + m : Nat) : Int))), (22, .v (.int .i64 (((q11 + m) - 1 : Nat) : Int))), (20, .v (.int .i64 ((s : Nat) : Int))), (21, .v (.int .i64 ((r : Nat) : Int)))] rfl ?_
        refine JD.norm [.sl v 2 34 (l.map RowD.d)] rfl ?_
        refine jd_seq [true, true, true, true, true, true, true, false, false, false, false] [true, true, true, true, true, true, true, false, false, false, true] rfl rfl rfl ?_
        refine jd_seq [true, true, true, true, true, true, true, false, false, false, false, false] [true, true, true, true, true, true, true, false, false, false, false, true] rfl rfl rfl ?_
        refine jd_region rfl ?_
        refine od_pu rfl rfl (p_move rfl) ?_
        refine od_pu rfl rfl (p_move rfl) ?_
        refine od_pu rfl rfl (p_lss rfl rfl rfl) ?_
        refine od_nil rfl ?_
        refine pd_seq ?_
        refine jd_cond [true, true, true, true, true, true, true, false, false, false, false, true, false] [true, true, true, true, true, true, true, false, false, false, false, true, true] rfl rfl rfl rfl (fun hc14 => ?_) (fun hc14 => ?_)
        · replace hc14 := of_decide_eq_true hc14
          refine jd_skip rfl ?_
          refine pd_seq ?_
          refine jd_block [true, true, true, true, true, true, true, false, false, false, true, false] rfl rfl ?_
          refine jd_seq [true, true, true, true, true, true, true, false, false, false, true, false, false] [true, true, true, true, true, true, true, false, false, false, true, false, true] rfl rfl rfl ?_
          refine jd_region rfl ?_
          refine od_pu rfl rfl (p_move rfl) ?_
          refine od_pu rfl rfl (p_move rfl) ?_
          refine od_pu rfl rfl (p_add (c := ((s + r : Nat) : Int)) rfl rfl (w64eq (by omega) (by omega))) ?_
          refine od_pu rfl rfl (p_cast rfl (c := ((s + r : Nat) : Int)) (cv_3_171 (by omega))) ?_
          obtain ⟨q15, hq15⟩ : ∃ q, q = (s + r) / 2 := ⟨_, rfl⟩
          refine od_pu rfl rfl ((p_shr (a := s + r) (n := 1) (m := 2) rfl rfl (by decide) (by decide)).cv (Cv.eq (by rw [← hq15]))) ?_
          refine od_pu rfl rfl (p_cast rfl (c := ((q15 : Nat) : Int)) (cv_171_3 (by omega))) ?_
          refine od_pu rfl rfl (p_assign rfl) ?_
          refine od_nil rfl ?_
          refine pd_seq ?_
          refine jd_seq [true, true, true, true, true, true, true, false, false, false, true, false, true, false] [true, true, true, true, true, true, true, false, false, false, true, false, true, true] rfl rfl rfl ?_
          refine JD.keep [0, 1, 2, 3, 4, 18, 19, 20, 21, 22, 23, 149, 150, 151, 152, 153, 154, 155, 156, 157] [(0, .ov v), (1, .v (.int .i64 ((a : Nat) : Int))), (2, .v (.int .i64 ((m : Nat) : Int))), (3, .v (.int .i64 ((b : Nat) : Int))), (4, .fn 175 [] [.el (.v (.int .i64 o)) 0]), (18, .v (.int .i64 ((q11 : Nat) : Int))), (19, .v (.int .i64 ((q11 + m : Nat) : Int))), (20, .v (.int .i64 ((s : Nat) : Int))), (21, .v (.int .i64 ((r : Nat) : Int))), (22, .v (.int .i64 (((q11 + m) - 1 : Nat) : Int))), (23, .v (.int .i64 ((q15 : Nat) : Int))), (149, .v (.int .i64 ((s : Nat) : Int))), (150, .v (.int .i64 ((r : Nat) : Int))), (151, .v (.bool (decide (((s : Nat) : Int) < ((r : Nat) : Int))))), (152, .v (.int .i64 ((s : Nat) : Int))), (153, .v (.int .i64 ((r : Nat) : Int))), (154, .v (.int .i64 ((s + r : Nat) : Int))), (155, .v (.int .u64 ((s + r : Nat) : Int))), (156, .v (.int .u64 ((q15 : Nat) : Int))), (157, .v (.int .i64 ((q15 : Nat) : Int)))] rfl ?_
          refine JD.norm [.sl v 2 34 (l.map RowD.d)] rfl ?_
          obtain ⟨x10, hx10⟩ := get_some l (((q11 + m) - 1) - q15) (by (try simp only [List.length_set]); omega)
          obtain ⟨x11, hx11⟩ := get_some l q15 (by (try simp only [List.length_set]); omega)
          refine jd_draw 11 [(158, .fn 175 [] [.el (.v (.int .i64 o)) 0], none), (159, .ov v, none), (160, .v (.int .i64 (((q11 + m) - 1 : Nat) : Int)), none), (161, .v (.int .i64 ((q15 : Nat) : Int)), none), (162, .v (.int .i64 ((((q11 + m) - 1) - q15 : Nat) : Int)), none), (163, .v (.pointer (some ⟨bl v, (((q11 + m) - 1) - q15) * 2 + 0, none⟩)), none), (164, RowD.d x10, none), (165, .ov v, none), (166, .v (.int .i64 ((q15 : Nat) : Int)), none), (167, .v (.pointer (some ⟨bl v, q15 * 2 + 0, none⟩)), none), (168, RowD.d x11, none)] [.sl v 2 34 (l.map RowD.d)] (Hn := [.sl v 2 34 (l.map RowD.d)]) mixed rfl rfl rfl rfl HSub.rfl' rfl ⟨sa_p rfl rfl rfl (p_move rfl), sa_p rfl rfl rfl (p_move rfl), sa_p rfl rfl rfl (p_move rfl), sa_p rfl rfl rfl (p_move rfl), sa_p rfl rfl rfl (p_sub (c := ((((q11 + m) - 1) - q15 : Nat) : Int)) rfl rfl (w64eq (by omega) (by omega))), sa_p rfl rfl rfl (p_indexAddr_sl (k := ((q11 + m) - 1) - q15) (j := 0) rfl rfl rfl Try.runUnderlying27 Try.sizeOf34 (by first | rfl | omega) (get_map hx10)), sa_p rfl rfl rfl (p_load_sl (d := RowD.d x10) rfl (i := 0) rfl (get_map hx10) Try.isAgg34 Try.sizeOf34 rfl rfl), sa_p rfl rfl rfl (p_move rfl), sa_p rfl rfl rfl (p_move rfl), sa_p rfl rfl rfl (p_indexAddr_sl (k := q15) (j := 0) rfl rfl rfl Try.runUnderlying27 Try.sizeOf34 (by first | rfl | omega) (get_map hx11)), sa_p rfl rfl rfl (p_load_sl (d := RowD.d x11) rfl (i := 0) rfl (get_map hx11) Try.isAgg34 Try.sizeOf34 rfl rfl), trivial⟩ ?_
          refine OpsD.keep [0, 1, 2, 3, 4, 18, 19, 20, 21, 22, 23, 149, 150, 151, 152, 153, 154, 155, 156, 157, 158, 159, 160, 161, 162, 163, 164, 165, 166, 167, 168] [(0, .ov v), (1, .v (.int .i64 ((a : Nat) : Int))), (2, .v (.int .i64 ((m : Nat) : Int))), (3, .v (.int .i64 ((b : Nat) : Int))), (4, .fn 175 [] [.el (.v (.int .i64 o)) 0]), (18, .v (.int .i64 ((q11 : Nat) : Int))), (19, .v (.int .i64 ((q11 + m : Nat) : Int))), (20, .v (.int .i64 ((s : Nat) : Int))), (21, .v (.int .i64 ((r : Nat) : Int))), (22, .v (.int .i64 (((q11 + m) - 1 : Nat) : Int))), (23, .v (.int .i64 ((q15 : Nat) : Int))), (149, .v (.int .i64 ((s : Nat) : Int))), (150, .v (.int .i64 ((r : Nat) : Int))), (151, .v (.bool (decide (((s : Nat) : Int) < ((r : Nat) : Int))))), (152, .v (.int .i64 ((s : Nat) : Int))), (153, .v (.int .i64 ((r : Nat) : Int))), (154, .v (.int .i64 ((s + r : Nat) : Int))), (155, .v (.int .u64 ((s + r : Nat) : Int))), (156, .v (.int .u64 ((q15 : Nat) : Int))), (157, .v (.int .i64 ((q15 : Nat) : Int))), (158, .fn 175 [] [.el (.v (.int .i64 o)) 0]), (159, .ov v), (160, .v (.int .i64 (((q11 + m) - 1 : Nat) : Int))), (161, .v (.int .i64 ((q15 : Nat) : Int))), (162, .v (.int .i64 ((((q11 + m) - 1) - q15 : Nat) : Int))), (163, .v (.pointer (some ⟨bl v, (((q11 + m) - 1) - q15) * 2 + 0, none⟩))), (164, RowD.d x10), (165, .ov v), (166, .v (.int .i64 ((q15 : Nat) : Int))), (167, .v (.pointer (some ⟨bl v, q15 * 2 + 0, none⟩))), (168, RowD.d x11)] rfl ?_
          refine od_step rfl rfl (ef_callv [] _ [] rfl rfl rfl (.cons ArgC.id (.cons ArgC.id (.cons ArgC.id .nil))) lend_nil Try.call175 (cmpf_c x10 x11 o) (.inl rfl)) ?_
          rintro _ _ ⟨_, ⟨rfl, rfl⟩, rfl⟩
          refine OpsD.norm [.sl v 2 34 (l.map RowD.d)] rfl ?_
          refine od_pu rfl rfl (p_lss rfl rfl rfl) ?_
          refine od_pu rfl rfl (p_not rfl) ?_
          refine od_nil rfl ?_
          refine pd_seq ?_
          refine jd_cond [true, true, true, true, true, true, true, false, false, false, true, false, true, true, false] [true, true, true, true, true, true, true, false, false, false, true, false, true, true, true] rfl rfl rfl rfl (fun hc16 => ?_) (fun hc16 => ?_)
          · replace hc16 := of_decide_eq_false (p := cmpRow o x10 x11 < (0 : Int)) (by simpa using hc16)
            refine jd_region rfl ?_
            refine od_pu rfl rfl (p_move rfl) ?_
            refine od_pu rfl rfl (p_add (c := ((q15 + 1 : Nat) : Int)) rfl rfl (w64eq (by omega) (by omega))) ?_
            refine od_pu rfl rfl (p_assign rfl) ?_
            refine od_nil rfl ?_
            refine pd_block ?_
            exact pd_loop (q15 + 1, r) ⟨sk rfl, sk rfl, sk rfl, sk rfl, sk rfl, sk rfl, sk rfl, sk rfl, sk rfl, sk rfl, trivial⟩ HSub.rfl' ⟨by show (a ≤ (q15 + 1) ∧ q11 + m ≤ (q15 + 1) + b) ∧ (q15 + 1) ≤ r ∧ r ≤ m ∧ r ≤ q11; omega, ⟨.inr (.inr ⟨_, _, hx11, by rw [show q11 + m - (q15 + 1) = q11 + m - 1 - q15 by omega]; exact hx10, hc16⟩)⟩, hhi⟩ (by show r - (q15 + 1) < r - s; omega)
          · replace hc16 := of_decide_eq_true (p := cmpRow o x10 x11 < (0 : Int)) (by simpa using hc16)
            refine jd_region rfl ?_
            refine od_pu rfl rfl (p_move rfl) ?_
            refine od_pu rfl rfl (p_assign rfl) ?_
            refine od_nil rfl ?_
            refine pd_block ?_
            exact pd_loop (s, q15) ⟨sk rfl, sk rfl, sk rfl, sk rfl, sk rfl, sk rfl, sk rfl, sk rfl, sk rfl, sk rfl, trivial⟩ HSub.rfl' ⟨by show (a ≤ s ∧ q11 + m ≤ s + b) ∧ s ≤ q15 ∧ q15 ≤ m ∧ q15 ≤ q11; omega, hlo, ⟨.inr (.inr ⟨_, _, hx11, by rw [show q11 + m - q15 - 1 = q11 + m - 1 - q15 by omega]; exact hx10, hc16⟩)⟩⟩ (by show q15 - s < r - s; omega)
        · replace hc14 := of_decide_eq_false hc14
          refine jd_exit rfl ?_
          refine pd_seq_exit ?_
          refine pd_loop_exit ?_
          refine pd_block_exit ?_
          refine pd_seq ?_
          refine jd_seq [true, true, true, true, true, true, true, true, false] [true, true, true, true, true, true, true, true, true] rfl rfl rfl ?_
          refine jd_region rfl ?_
          refine od_pu rfl rfl (p_move rfl) ?_
          refine od_pu rfl rfl (p_move rfl) ?_
          refine od_pu rfl rfl (p_sub (c := (((q11 + m) - s : Nat) : Int)) rfl rfl (w64eq (by omega) (by omega))) ?_
          refine od_pu rfl rfl (p_assign rfl) ?_
          refine od_nil rfl ?_
          refine pd_seq ?_
          refine JD.keep [0, 1, 2, 3, 4, 18, 20, 24] [(0, .ov v), (1, .v (.int .i64 ((a : Nat) : Int))), (2, .v (.int .i64 ((m : Nat) : Int))), (3, .v (.int .i64 ((b : Nat) : Int))), (4, .fn 175 [] [.el (.v (.int .i64 o)) 0]), (18, .v (.int .i64 ((q11 : Nat) : Int))), (20, .v (.int .i64 ((s : Nat) : Int))), (24, .v (.int .i64 (((q11 + m) - s : Nat) : Int)))] rfl ?_
          refine jd_seq [true, true, true, true, true, true, true, true, true, false] [true, true, true, true, true, true, true, true, true, true] rfl rfl rfl ?_
          refine jd_seq [true, true, true, true, true, true, true, true, true, false, false] [true, true, true, true, true, true, true, true, true, false, true] rfl rfl rfl ?_
          refine JD.keep [0, 1, 2, 3, 4, 18, 20, 24] [(0, .ov v), (1, .v (.int .i64 ((a : Nat) : Int))), (2, .v (.int .i64 ((m : Nat) : Int))), (3, .v (.int .i64 ((b : Nat) : Int))), (4, .fn 175 [] [.el (.v (.int .i64 o)) 0]), (18, .v (.int .i64 ((q11 : Nat) : Int))), (20, .v (.int .i64 ((s : Nat) : Int))), (24, .v (.int .i64 (((q11 + m) - s : Nat) : Int)))] rfl ?_
          refine jd_sum 185 ((decide (((s : Nat) : Int) < ((m : Nat) : Int)) && decide (((m : Nat) : Int) < (((q11 + m) - s : Nat) : Int)))) [.sl v 2 34 (l.map RowD.d)] (fun _ hQ17 => ?_) ?_
          · skip
            by_cases hg18 : ((s : Nat) : Int) < ((m : Nat) : Int)
            · skip
              refine jd_region rfl ?_
              refine od_pu rfl rfl (p_move rfl) ?_
              refine od_pu rfl rfl (p_move rfl) ?_
              refine od_pu rfl rfl (p_lss rfl rfl (decide_eq_true hg18)) ?_
              refine od_pu rfl rfl (p_move rfl) ?_
              refine od_runp rfl rfl rfl rfl rfl (p_move rfl) ?_
              refine od_runp rfl rfl rfl rfl rfl (p_move rfl) ?_
              refine od_runp rfl rfl rfl rfl rfl (p_lss rfl rfl rfl) ?_
              refine od_pu rfl rfl (p_pick_t rfl rfl) ?_
              refine od_nil rfl ?_
              exact PD.sub ((185, .v (.bool (decide (((s : Nat) : Int) < ((m : Nat) : Int)) && decide (((m : Nat) : Int) < (((q11 + m) - s : Nat) : Int))))) :: [(0, .ov v), (1, .v (.int .i64 ((a : Nat) : Int))), (2, .v (.int .i64 ((m : Nat) : Int))), (3, .v (.int .i64 ((b : Nat) : Int))), (4, .fn 175 [] [.el (.v (.int .i64 o)) 0]), (18, .v (.int .i64 ((q11 : Nat) : Int))), (20, .v (.int .i64 ((s : Nat) : Int))), (24, .v (.int .i64 (((q11 + m) - s : Nat) : Int)))]) ⟨sc rfl (Cv.eq (congrArg (fun b => D.v (.bool b)) (by first | (simp [hc14, hg18]; done) | (simp_all; done)))), sk rfl, sk rfl, sk rfl, sk rfl, sk rfl, sk rfl, sk rfl, sk rfl, trivial⟩ hQ17
            · skip
              refine jd_region rfl ?_
              refine od_pu rfl rfl (p_move rfl) ?_
              refine od_pu rfl rfl (p_move rfl) ?_
              refine od_pu rfl rfl (p_lss rfl rfl (decide_eq_false hg18)) ?_
              refine od_pu rfl rfl (p_move rfl) ?_
              refine od_skip rfl rfl rfl rfl rfl (by decide) ?_
              refine od_skip rfl rfl rfl rfl rfl (by decide) ?_
              refine od_skip rfl rfl rfl rfl rfl (by decide) ?_
              refine od_pu rfl rfl (p_pick_f rfl rfl) ?_
              refine od_nil rfl ?_
              exact PD.sub ((185, .v (.bool (decide (((s : Nat) : Int) < ((m : Nat) : Int)) && decide (((m : Nat) : Int) < (((q11 + m) - s : Nat) : Int))))) :: [(0, .ov v), (1, .v (.int .i64 ((a : Nat) : Int))), (2, .v (.int .i64 ((m : Nat) : Int))), (3, .v (.int .i64 ((b : Nat) : Int))), (4, .fn 175 [] [.el (.v (.int .i64 o)) 0]), (18, .v (.int .i64 ((q11 : Nat) : Int))), (20, .v (.int .i64 ((s : Nat) : Int))), (24, .v (.int .i64 (((q11 + m) - s : Nat) : Int)))]) ⟨sc rfl (Cv.eq (congrArg (fun b => D.v (.bool b)) (by first | (simp [hc14, hg18]; done) | (simp_all; done)))), sk rfl, sk rfl, sk rfl, sk rfl, sk rfl, sk rfl, sk rfl, sk rfl, trivial⟩ hQ17
          · skip
            refine pd_seq ?_
            have hsr : r = s := by omega
            have hfo : Found (cmpRow o) l a m b s (q11 + m - s) q11 := Found.of (cmpRow_cmp o) hA hB h3 (by omega) (by omega) (by omega) (by omega) (by omega) (hlo.out.elim (fun h => .inl h) (fun h => h.elim (fun h => .inr (.inl (by omega))) (fun ⟨x, y, e1, e2, e3⟩ => .inr (.inr ⟨x, y, e1, e2, e3⟩)))) (by rw [hsr] at hhi; exact hhi.out.elim (fun h => .inl h) (fun h => h.elim (fun h => .inr (.inl (by omega))) (fun ⟨x, y, e1, e2, e3⟩ => .inr (.inr ⟨x, y, e1, e2, e3⟩))))
            obtain ⟨g1, g2, g3, g4, g5⟩ := hfo.segs h3 hA hB
            refine jd_join (fun (g : Unit) => [(0, .ov v), (1, .v (.int .i64 ((a : Nat) : Int))), (3, .v (.int .i64 ((b : Nat) : Int))), (4, .fn 175 [] [.el (.v (.int .i64 o)) 0]), (18, .v (.int .i64 ((q11 : Nat) : Int))), (20, .v (.int .i64 ((s : Nat) : Int))), (24, .v (.int .i64 (((q11 + m) - s : Nat) : Int)))]) (fun (g : Unit) => [.sl v 2 34 ((rotL s m (q11 + m - s) l).map RowD.d)]) (fun (g : Unit) => True) (fun _ hQ19 => ?_) ?_
            · skip
              refine jd_cond [true, true, true, true, true, true, true, true, true, false, true, false] [true, true, true, true, true, true, true, true, true, false, true, true] rfl rfl rfl rfl (fun hc20 => ?_) (fun hc20 => ?_)
              · simp only [Bool.and_eq_true, Bool.or_eq_true, Bool.not_eq_true', Bool.not_eq_false', Bool.and_eq_false_iff, Bool.or_eq_false_iff, decide_eq_true_eq, decide_eq_false_iff_not, Decidable.not_not, ne_eq] at hc20
                refine jd_region rfl ?_
                refine od_pu rfl rfl (p_move rfl) ?_
                refine od_pu rfl rfl (p_move rfl) ?_
                refine od_pu rfl rfl (p_move rfl) ?_
                refine od_pu rfl rfl (p_move rfl) ?_
                refine od_pu rfl rfl (p_move rfl) ?_
                refine od_step rfl rfl (ef_call [.sl v 2 34 (l.map RowD.d)] [] [] rfl rfl (.cons ArgC.id (.cons ArgC.id (.cons ArgC.id (.cons ArgC.id (.cons ArgC.id .nil))))) lend_nil Try.call189 (rotR_c v l s m ((q11 + m) - s) o (by omega) (by omega) (by omega) (by omega)) (.inl rfl)) ?_
                rintro _ _ ⟨_, ⟨rfl, rfl⟩, rfl⟩
                refine OpsD.norm [.sl v 2 34 ((rotL s m ((q11 + m) - s) l).map RowD.d)] rfl ?_
                refine od_nil rfl ?_
                exact PD.sub [(0, .ov v), (1, .v (.int .i64 ((a : Nat) : Int))), (3, .v (.int .i64 ((b : Nat) : Int))), (4, .fn 175 [] [.el (.v (.int .i64 o)) 0]), (18, .v (.int .i64 ((q11 : Nat) : Int))), (20, .v (.int .i64 ((s : Nat) : Int))), (24, .v (.int .i64 (((q11 + m) - s : Nat) : Int)))] ⟨sk rfl, sk rfl, sk rfl, sk rfl, sk rfl, sk rfl, sk rfl, trivial⟩ (hQ19 () trivial)
              · simp only [Bool.and_eq_true, Bool.or_eq_true, Bool.not_eq_true', Bool.not_eq_false', Bool.and_eq_false_iff, Bool.or_eq_false_iff, decide_eq_true_eq, decide_eq_false_iff_not, Decidable.not_not, ne_eq] at hc20
                refine jd_skip rfl ?_
                refine PD.norm [.sl v 2 34 ((rotL s m (q11 + m - s) l).map RowD.d)] (by rw [rot_none (by omega) (by omega) (by omega) (by omega)]) ?_
                exact PD.sub [(0, .ov v), (1, .v (.int .i64 ((a : Nat) : Int))), (3, .v (.int .i64 ((b : Nat) : Int))), (4, .fn 175 [] [.el (.v (.int .i64 o)) 0]), (18, .v (.int .i64 ((q11 : Nat) : Int))), (20, .v (.int .i64 ((s : Nat) : Int))), (24, .v (.int .i64 (((q11 + m) - s : Nat) : Int)))] ⟨sk rfl, sk rfl, sk rfl, sk rfl, sk rfl, sk rfl, sk rfl, trivial⟩ (hQ19 () trivial)
            · skip
              rintro _ _
              refine PD.keep [0, 1, 3, 4, 18, 20, 24] [(0, .ov v), (1, .v (.int .i64 ((a : Nat) : Int))), (3, .v (.int .i64 ((b : Nat) : Int))), (4, .fn 175 [] [.el (.v (.int .i64 o)) 0]), (18, .v (.int .i64 ((q11 : Nat) : Int))), (20, .v (.int .i64 ((s : Nat) : Int))), (24, .v (.int .i64 (((q11 + m) - s : Nat) : Int)))] rfl ?_
              refine PD.norm [.sl v 2 34 ((rotL s m (q11 + m - s) l).map RowD.d)] rfl ?_
              refine pd_seq ?_
              refine jd_seq [true, true, true, true, true, true, true, true, true, true, false] [true, true, true, true, true, true, true, true, true, true, true] rfl rfl rfl ?_
              refine jd_seq [true, true, true, true, true, true, true, true, true, true, false, false] [true, true, true, true, true, true, true, true, true, true, false, true] rfl rfl rfl ?_
              refine JD.keep [0, 1, 3, 4, 18, 20, 24] [(0, .ov v), (1, .v (.int .i64 ((a : Nat) : Int))), (3, .v (.int .i64 ((b : Nat) : Int))), (4, .fn 175 [] [.el (.v (.int .i64 o)) 0]), (18, .v (.int .i64 ((q11 : Nat) : Int))), (20, .v (.int .i64 ((s : Nat) : Int))), (24, .v (.int .i64 (((q11 + m) - s : Nat) : Int)))] rfl ?_
              refine jd_sum 199 ((decide (((a : Nat) : Int) < ((s : Nat) : Int)) && decide (((s : Nat) : Int) < ((q11 : Nat) : Int)))) [.sl v 2 34 ((rotL s m (q11 + m - s) l).map RowD.d)] (fun _ hQ21 => ?_) ?_
              · skip
                by_cases hg22 : ((a : Nat) : Int) < ((s : Nat) : Int)
                · skip
                  refine jd_region rfl ?_
                  refine od_pu rfl rfl (p_move rfl) ?_
                  refine od_pu rfl rfl (p_move rfl) ?_
                  refine od_pu rfl rfl (p_lss rfl rfl (decide_eq_true hg22)) ?_
                  refine od_pu rfl rfl (p_move rfl) ?_
                  refine od_runp rfl rfl rfl rfl rfl (p_move rfl) ?_
                  refine od_runp rfl rfl rfl rfl rfl (p_move rfl) ?_
                  refine od_runp rfl rfl rfl rfl rfl (p_lss rfl rfl rfl) ?_
                  refine od_pu rfl rfl (p_pick_t rfl rfl) ?_
                  refine od_nil rfl ?_
                  exact PD.sub ((199, .v (.bool (decide (((a : Nat) : Int) < ((s : Nat) : Int)) && decide (((s : Nat) : Int) < ((q11 : Nat) : Int))))) :: [(0, .ov v), (1, .v (.int .i64 ((a : Nat) : Int))), (3, .v (.int .i64 ((b : Nat) : Int))), (4, .fn 175 [] [.el (.v (.int .i64 o)) 0]), (18, .v (.int .i64 ((q11 : Nat) : Int))), (20, .v (.int .i64 ((s : Nat) : Int))), (24, .v (.int .i64 (((q11 + m) - s : Nat) : Int)))]) ⟨sc rfl (Cv.eq (congrArg (fun b => D.v (.bool b)) (by first | (simp [hc14, hg22]; done) | (simp_all; done)))), sk rfl, sk rfl, sk rfl, sk rfl, sk rfl, sk rfl, sk rfl, trivial⟩ hQ21
                · skip
                  refine jd_region rfl ?_
                  refine od_pu rfl rfl (p_move rfl) ?_
                  refine od_pu rfl rfl (p_move rfl) ?_
                  refine od_pu rfl rfl (p_lss rfl rfl (decide_eq_false hg22)) ?_
                  refine od_pu rfl rfl (p_move rfl) ?_
                  refine od_skip rfl rfl rfl rfl rfl (by decide) ?_
                  refine od_skip rfl rfl rfl rfl rfl (by decide) ?_
                  refine od_skip rfl rfl rfl rfl rfl (by decide) ?_
                  refine od_pu rfl rfl (p_pick_f rfl rfl) ?_
                  refine od_nil rfl ?_
                  exact PD.sub ((199, .v (.bool (decide (((a : Nat) : Int) < ((s : Nat) : Int)) && decide (((s : Nat) : Int) < ((q11 : Nat) : Int))))) :: [(0, .ov v), (1, .v (.int .i64 ((a : Nat) : Int))), (3, .v (.int .i64 ((b : Nat) : Int))), (4, .fn 175 [] [.el (.v (.int .i64 o)) 0]), (18, .v (.int .i64 ((q11 : Nat) : Int))), (20, .v (.int .i64 ((s : Nat) : Int))), (24, .v (.int .i64 (((q11 + m) - s : Nat) : Int)))]) ⟨sc rfl (Cv.eq (congrArg (fun b => D.v (.bool b)) (by first | (simp [hc14, hg22]; done) | (simp_all; done)))), sk rfl, sk rfl, sk rfl, sk rfl, sk rfl, sk rfl, sk rfl, trivial⟩ hQ21
              · skip
                refine pd_seq ?_
                refine jd_join (fun (g : Unit) => [(0, .ov v), (3, .v (.int .i64 ((b : Nat) : Int))), (4, .fn 175 [] [.el (.v (.int .i64 o)) 0]), (18, .v (.int .i64 ((q11 : Nat) : Int))), (24, .v (.int .i64 (((q11 + m) - s : Nat) : Int)))]) (fun (g : Unit) => [.sl v 2 34 ((fixI (cmpRow o) a q11 (rotL s m (q11 + m - s) l)).map RowD.d)]) (fun (g : Unit) => True) (fun _ hQ23 => ?_) ?_
                · skip
                  refine jd_cond [true, true, true, true, true, true, true, true, true, true, false, true, false] [true, true, true, true, true, true, true, true, true, true, false, true, true] rfl rfl rfl rfl (fun hc24 => ?_) (fun hc24 => ?_)
                  · simp only [Bool.and_eq_true, Bool.or_eq_true, Bool.not_eq_true', Bool.not_eq_false', Bool.and_eq_false_iff, Bool.or_eq_false_iff, decide_eq_true_eq, decide_eq_false_iff_not, Decidable.not_not, ne_eq] at hc24
                    refine jd_region rfl ?_
                    refine od_pu rfl rfl (p_move rfl) ?_
                    refine od_pu rfl rfl (p_move rfl) ?_
                    refine od_pu rfl rfl (p_move rfl) ?_
                    refine od_pu rfl rfl (p_move rfl) ?_
                    refine od_pu rfl rfl (p_move rfl) ?_
                    refine od_step rfl rfl (ef_call [.sl v 2 34 ((rotL s m (q11 + m - s) l).map RowD.d)] [] [] rfl rfl (.cons ArgC.id (.cons ArgC.id (.cons ArgC.id (.cons ArgC.id (.cons ArgC.id .nil))))) lend_nil Try.call188 (ih (rotL s m (q11 + m - s) l) a s q11 (by omega) (by omega) (by omega) (by omega) (by omega) g1 g2) (.inl rfl)) ?_
                    rintro _ _ ⟨_, ⟨rfl, rfl⟩, rfl⟩
                    refine OpsD.norm [.sl v 2 34 ((fixI (cmpRow o) a q11 (rotL s m (q11 + m - s) l)).map RowD.d)] rfl ?_
                    refine od_nil rfl ?_
                    exact PD.sub [(0, .ov v), (3, .v (.int .i64 ((b : Nat) : Int))), (4, .fn 175 [] [.el (.v (.int .i64 o)) 0]), (18, .v (.int .i64 ((q11 : Nat) : Int))), (24, .v (.int .i64 (((q11 + m) - s : Nat) : Int)))] ⟨sk rfl, sk rfl, sk rfl, sk rfl, sk rfl, trivial⟩ (hQ23 () trivial)
                  · simp only [Bool.and_eq_true, Bool.or_eq_true, Bool.not_eq_true', Bool.not_eq_false', Bool.and_eq_false_iff, Bool.or_eq_false_iff, decide_eq_true_eq, decide_eq_false_iff_not, Decidable.not_not, ne_eq] at hc24
                    refine jd_skip rfl ?_
                    refine PD.norm [.sl v 2 34 ((fixI (cmpRow o) a q11 (rotL s m (q11 + m - s) l)).map RowD.d)] (by rw [fixI_id (cmpRow_cmp o) (by omega) (by omega) (half_srt g1 g2 (by omega) (by omega) (by omega) (by omega))]) ?_
                    exact PD.sub [(0, .ov v), (3, .v (.int .i64 ((b : Nat) : Int))), (4, .fn 175 [] [.el (.v (.int .i64 o)) 0]), (18, .v (.int .i64 ((q11 : Nat) : Int))), (24, .v (.int .i64 (((q11 + m) - s : Nat) : Int)))] ⟨sk rfl, sk rfl, sk rfl, sk rfl, sk rfl, trivial⟩ (hQ23 () trivial)
                · skip
                  rintro _ _
                  refine PD.keep [0, 3, 4, 18, 24] [(0, .ov v), (3, .v (.int .i64 ((b : Nat) : Int))), (4, .fn 175 [] [.el (.v (.int .i64 o)) 0]), (18, .v (.int .i64 ((q11 : Nat) : Int))), (24, .v (.int .i64 (((q11 + m) - s : Nat) : Int)))] rfl ?_
                  refine PD.norm [.sl v 2 34 ((fixI (cmpRow o) a q11 (rotL s m (q11 + m - s) l)).map RowD.d)] rfl ?_
                  refine pd_seq ?_
                  refine jd_seq [true, true, true, true, true, true, true, true, true, true, true, false] [true, true, true, true, true, true, true, true, true, true, true, true] rfl rfl rfl ?_
                  refine JD.keep [0, 3, 4, 18, 24] [(0, .ov v), (3, .v (.int .i64 ((b : Nat) : Int))), (4, .fn 175 [] [.el (.v (.int .i64 o)) 0]), (18, .v (.int .i64 ((q11 : Nat) : Int))), (24, .v (.int .i64 (((q11 + m) - s : Nat) : Int)))] rfl ?_
                  refine jd_sum 213 ((decide (((q11 : Nat) : Int) < (((q11 + m) - s : Nat) : Int)) && decide ((((q11 + m) - s : Nat) : Int) < ((b : Nat) : Int)))) [.sl v 2 34 ((fixI (cmpRow o) a q11 (rotL s m (q11 + m - s) l)).map RowD.d)] (fun _ hQ25 => ?_) ?_
                  · skip
                    by_cases hg26 : ((q11 : Nat) : Int) < (((q11 + m) - s : Nat) : Int)
                    · skip
                      refine jd_region rfl ?_
                      refine od_pu rfl rfl (p_move rfl) ?_
                      refine od_pu rfl rfl (p_move rfl) ?_
                      refine od_pu rfl rfl (p_lss rfl rfl (decide_eq_true hg26)) ?_
                      refine od_pu rfl rfl (p_move rfl) ?_
                      refine od_runp rfl rfl rfl rfl rfl (p_move rfl) ?_
                      refine od_runp rfl rfl rfl rfl rfl (p_move rfl) ?_
                      refine od_runp rfl rfl rfl rfl rfl (p_lss rfl rfl rfl) ?_
                      refine od_pu rfl rfl (p_pick_t rfl rfl) ?_
                      refine od_nil rfl ?_
                      exact PD.sub ((213, .v (.bool (decide (((q11 : Nat) : Int) < (((q11 + m) - s : Nat) : Int)) && decide ((((q11 + m) - s : Nat) : Int) < ((b : Nat) : Int))))) :: [(0, .ov v), (3, .v (.int .i64 ((b : Nat) : Int))), (4, .fn 175 [] [.el (.v (.int .i64 o)) 0]), (18, .v (.int .i64 ((q11 : Nat) : Int))), (24, .v (.int .i64 (((q11 + m) - s : Nat) : Int)))]) ⟨sc rfl (Cv.eq (congrArg (fun b => D.v (.bool b)) (by first | (simp [hc14, hg26]; done) | (simp_all; done)))), sk rfl, sk rfl, sk rfl, sk rfl, sk rfl, trivial⟩ hQ25
                    · skip
                      refine jd_region rfl ?_
                      refine od_pu rfl rfl (p_move rfl) ?_
                      refine od_pu rfl rfl (p_move rfl) ?_
                      refine od_pu rfl rfl (p_lss rfl rfl (decide_eq_false hg26)) ?_
                      refine od_pu rfl rfl (p_move rfl) ?_
                      refine od_skip rfl rfl rfl rfl rfl (by decide) ?_
                      refine od_skip rfl rfl rfl rfl rfl (by decide) ?_
                      refine od_skip rfl rfl rfl rfl rfl (by decide) ?_
                      refine od_pu rfl rfl (p_pick_f rfl rfl) ?_
                      refine od_nil rfl ?_
                      exact PD.sub ((213, .v (.bool (decide (((q11 : Nat) : Int) < (((q11 + m) - s : Nat) : Int)) && decide ((((q11 + m) - s : Nat) : Int) < ((b : Nat) : Int))))) :: [(0, .ov v), (3, .v (.int .i64 ((b : Nat) : Int))), (4, .fn 175 [] [.el (.v (.int .i64 o)) 0]), (18, .v (.int .i64 ((q11 : Nat) : Int))), (24, .v (.int .i64 (((q11 + m) - s : Nat) : Int)))]) ⟨sc rfl (Cv.eq (congrArg (fun b => D.v (.bool b)) (by first | (simp [hc14, hg26]; done) | (simp_all; done)))), sk rfl, sk rfl, sk rfl, sk rfl, sk rfl, trivial⟩ hQ25
                  · skip
                    refine pd_seq ?_
                    have k3 := seg_fixI_right (c := cmpRow o) (L := (rotL s m (q11 + m - s) l)) (a := a) (b := q11) (d := q11) (e := (q11 + m - s)) (by omega) (by omega) (Nat.le_refl _)
                    have k4 := seg_fixI_right (c := cmpRow o) (L := (rotL s m (q11 + m - s) l)) (a := a) (b := q11) (d := (q11 + m - s)) (e := b) (by omega) (by omega) (by omega)
                    have k5 := fixI_len (c := cmpRow o) (L := (rotL s m (q11 + m - s) l)) (a := a) (b := q11) (by omega) (by omega)
                    rw [← k3] at g3
                    rw [← k4] at g4
                    refine jd_join (fun (g : Unit) => []) (fun (g : Unit) => [.sl v 2 34 ((fixI (cmpRow o) q11 b (fixI (cmpRow o) a q11 (rotL s m (q11 + m - s) l))).map RowD.d)]) (fun (g : Unit) => True) (fun _ hQ27 => ?_) ?_
                    · skip
                      refine jd_cond [true, true, true, true, true, true, true, true, true, true, true, true, false] [true, true, true, true, true, true, true, true, true, true, true, true, true] rfl rfl rfl rfl (fun hc28 => ?_) (fun hc28 => ?_)
                      · simp only [Bool.and_eq_true, Bool.or_eq_true, Bool.not_eq_true', Bool.not_eq_false', Bool.and_eq_false_iff, Bool.or_eq_false_iff, decide_eq_true_eq, decide_eq_false_iff_not, Decidable.not_not, ne_eq] at hc28
                        refine jd_region rfl ?_
                        refine od_pu rfl rfl (p_move rfl) ?_
                        refine od_pu rfl rfl (p_move rfl) ?_
                        refine od_pu rfl rfl (p_move rfl) ?_
                        refine od_pu rfl rfl (p_move rfl) ?_
                        refine od_pu rfl rfl (p_move rfl) ?_
                        refine od_step rfl rfl (ef_call [.sl v 2 34 ((fixI (cmpRow o) a q11 (rotL s m (q11 + m - s) l)).map RowD.d)] [] [] rfl rfl (.cons ArgC.id (.cons ArgC.id (.cons ArgC.id (.cons ArgC.id (.cons ArgC.id .nil))))) lend_nil Try.call188 (ih (fixI (cmpRow o) a q11 (rotL s m (q11 + m - s) l)) q11 ((q11 + m) - s) b (by omega) (by omega) (by omega) (by omega) (by omega) g3 g4) (.inl rfl)) ?_
                        rintro _ _ ⟨_, ⟨rfl, rfl⟩, rfl⟩
                        refine OpsD.norm [.sl v 2 34 ((fixI (cmpRow o) q11 b (fixI (cmpRow o) a q11 (rotL s m (q11 + m - s) l))).map RowD.d)] rfl ?_
                        refine od_nil rfl ?_
                        exact PD.sub [] trivial (hQ27 () trivial)
                      · simp only [Bool.and_eq_true, Bool.or_eq_true, Bool.not_eq_true', Bool.not_eq_false', Bool.and_eq_false_iff, Bool.or_eq_false_iff, decide_eq_true_eq, decide_eq_false_iff_not, Decidable.not_not, ne_eq] at hc28
                        refine jd_skip rfl ?_
                        refine PD.norm [.sl v 2 34 ((fixI (cmpRow o) q11 b (fixI (cmpRow o) a q11 (rotL s m (q11 + m - s) l))).map RowD.d)] (by rw [fixI_id (cmpRow_cmp o) (by omega) (by omega) (half_srt g3 g4 (by omega) (by omega) (by omega) (by omega))]) ?_
                        exact PD.sub [] trivial (hQ27 () trivial)
                    · skip
                      rintro _ _
                      refine PD.keep [] [] rfl ?_
                      refine PD.norm [.sl v 2 34 ((fixI (cmpRow o) q11 b (fixI (cmpRow o) a q11 (rotL s m (q11 + m - s) l))).map RowD.d)] rfl ?_
                      refine PD.norm [.sl v 2 34 ((fixI (cmpRow o) a b l).map RowD.d)] (by rw [hfo.merge (cmpRow_cmp o) h3 hA hB]) ?_
                      exact pd_endH Try.results188 .nil rfl (HSub.fst 1 rfl) ⟨rfl, rfl⟩

theorem symM_c (v : Value) (o : Int) : ∀ (n : Nat) (l : List RowD) (a m b : Nat), b - a = n → a < m → m < b → b ≤ l.length → l.length ≤ 1000000 → Srt (cmpRow o) (seg l a m) → Srt (cmpRow o) (seg l m b) →
    CD Try.prog 188 [.sl v 2 34 (l.map RowD.d)] [.ov v, .v (.int .i64 ((a : Nat) : Int)), .v (.int .i64 ((m : Nat) : Int)), .v (.int .i64 ((b : Nat) : Int)), .fn 175 [] [.el (.v (.int .i64 o)) 0]] (fun r H' => r = .tup [] ∧ H' = [.sl v 2 34 ((fixI (cmpRow o) a b l).map RowD.d)]) := by
  intro n
  induction n using Nat.strongRecOn with
  | _ n ih =>
    intro l a m b hn h1 h2 h3 hl hA hB
    exact symM_s v l a m b o h1 h2 h3 hl hA hB (fun l' a' m' b' h k1 k2 k3 kl kA kB => ih (b' - a') (by omega) l' a' m' b' rfl k1 k2 k3 kl kA kB)

set_option maxHeartbeats 4000000 in
set_option maxRecDepth 100000 in
theorem stabR_c (v : Value) (l : List RowD) (o : Int) (hl : l.length ≤ 1000000) :
    CD Try.prog 185 [.sl v 2 34 (l.map RowD.d)] [.ov v, .v (.int .i64 ((l.length : Nat) : Int)), .fn 175 [] [.el (.v (.int .i64 o)) 0]] (fun r H' => r = .tup [] ∧ H' = [.sl v 2 34 ((isort (cmpRow o) l).map RowD.d)]) := by
  refine cd_of_JD Try.func185 rfl (N := 63) rfl rfl (fun C => ?_)
  refine JD.keep [0, 1, 2] [(0, .ov v), (1, .v (.int .i64 ((l.length : Nat) : Int))), (2, .fn 175 [] [.el (.v (.int .i64 o)) 0])] rfl ?_
  refine jd_seq [false] [true] rfl rfl rfl ?_
  refine jd_region rfl ?_
  refine od_pu rfl rfl (p_assign rfl) ?_
  refine od_nil rfl ?_
  refine pd_seq ?_
  refine jd_seq [true, false] [true, true] rfl rfl rfl ?_
  refine jd_region rfl ?_
  refine od_pu rfl rfl (p_move rfl) ?_
  refine od_pu rfl rfl (p_assign rfl) ?_
  refine od_pu rfl rfl (p_assign rfl) ?_
  refine od_nil rfl ?_
  refine pd_seq ?_
  refine jd_seq [true, true, false] [true, true, true] rfl rfl rfl ?_
  refine jd_block [true, true, false, false] rfl rfl ?_
  refine jd_loop (fun (g : Nat × List RowD) => [(0, .ov v), (1, .v (.int .i64 ((l.length : Nat) : Int))), (2, .fn 175 [] [.el (.v (.int .i64 o)) 0]), (6, .v (.int .i64 20)), (7, .v (.int .i64 ((g.1 : Nat) : Int))), (8, .v (.int .i64 ((g.1 + 20 : Nat) : Int)))]) (fun (g : Nat × List RowD) => [.sl v 2 34 (g.2.map RowD.d)]) (fun (g : Nat × List RowD) => (g.1 ≤ l.length) ∧ (Ahead (cmpRow o) 20 g.1 g.2) ∧ (Like (cmpRow o) l g.2) ∧ ((g.2).length = l.length)) (fun (g : Nat × List RowD) => l.length - g.1) [true, true, false, false, false] (0, l) rfl rfl ⟨sk rfl, sk rfl, sk rfl, sk rfl, sk rfl, sk rfl, trivial⟩ HSub.rfl' ⟨Nat.zero_le _, Ahead.zero _ _, Like.rfl' _, rfl⟩ ?_
  rintro ⟨a, L⟩ ⟨ha, hah, hlk, hlen⟩
  replace ha : a ≤ l.length := ha
  replace hah : Ahead (cmpRow o) 20 a L := hah
  replace hlk : Like (cmpRow o) l L := hlk
  replace hlen : (L).length = l.length := hlen
  refine JD.keep [0, 1, 2, 6, 7, 8] [(0, .ov v), (1, .v (.int .i64 ((l.length : Nat) : Int))), (2, .fn 175 [] [.el (.v (.int .i64 o)) 0]), (6, .v (.int .i64 20)), (7, .v (.int .i64 ((a : Nat) : Int))), (8, .v (.int .i64 ((a + 20 : Nat) : Int)))] rfl ?_
  refine JD.norm [.sl v 2 34 (L.map RowD.d)] rfl ?_
  refine jd_seq [true, true, false, false, false, false] [true, true, false, false, false, true] rfl rfl rfl ?_
  refine jd_seq [true, true, false, false, false, false, false] [true, true, false, false, false, false, true] rfl rfl rfl ?_
  refine jd_region rfl ?_
  refine od_pu rfl rfl (p_move rfl) ?_
  refine od_pu rfl rfl (p_move rfl) ?_
  refine od_pu rfl rfl (p_leq rfl rfl rfl) ?_
  refine od_nil rfl ?_
  refine pd_seq ?_
  refine jd_cond [true, true, false, false, false, false, true, false] [true, true, false, false, false, false, true, true] rfl rfl rfl rfl (fun hc1 => ?_) (fun hc1 => ?_)
  · replace hc1 := of_decide_eq_true hc1
    refine jd_skip rfl ?_
    refine pd_seq ?_
    refine jd_block [true, true, false, false, false, true, false] rfl rfl ?_
    refine jd_seq [true, true, false, false, false, true, false, false] [true, true, false, false, false, true, false, true] rfl rfl rfl ?_
    refine jd_region rfl ?_
    refine od_pu rfl rfl (p_move rfl) ?_
    refine od_pu rfl rfl (p_move rfl) ?_
    refine od_pu rfl rfl (p_move rfl) ?_
    refine od_pu rfl rfl (p_move rfl) ?_
    refine od_step rfl rfl (ef_call [.sl v 2 34 (L.map RowD.d)] [] [] rfl rfl (.cons ArgC.id (.cons ArgC.id (.cons ArgC.id (.cons ArgC.id .nil)))) lend_nil Try.call187 (insortR_c v L a (a + 20) o (by omega) (by omega) (by omega)) (.inl rfl)) ?_
    rintro _ _ ⟨_, ⟨rfl, rfl⟩, rfl⟩
    refine OpsD.norm [.sl v 2 34 ((fixI (cmpRow o) a (a + 20) L).map RowD.d)] rfl ?_
    refine od_nil rfl ?_
    refine pd_seq ?_
    refine jd_seq [true, true, false, false, false, true, false, true, false] [true, true, false, false, false, true, false, true, true] rfl rfl rfl ?_
    refine jd_region rfl ?_
    refine od_pu rfl rfl (p_move rfl) ?_
    refine od_pu rfl rfl (p_assign rfl) ?_
    refine od_nil rfl ?_
    refine pd_seq ?_
    refine jd_region rfl ?_
    refine od_pu rfl rfl (p_move rfl) ?_
    refine od_pu rfl rfl (p_move rfl) ?_
    refine od_pu rfl rfl (p_add (c := (((a + 20) + 20 : Nat) : Int)) rfl rfl (w64eq (by omega) (by omega))) ?_
    refine od_pu rfl rfl (p_assign rfl) ?_
    refine od_nil rfl ?_
    refine pd_block ?_
    exact pd_loop (a + 20, (fixI (cmpRow o) a (a + 20) L)) ⟨sk rfl, sk rfl, sk rfl, sk rfl, sk rfl, sk rfl, trivial⟩ HSub.rfl' ⟨by show a + 20 ≤ l.length; omega, hah.next (cmpRow_cmp o) (by omega), hlk.fix (cmpRow_cmp o) (by omega) (by omega), (hlk.fix (cmpRow_cmp o) (by omega) (by omega)).len⟩ (by omega)
  · replace hc1 := of_decide_eq_false hc1
    refine jd_exit rfl ?_
    refine pd_seq_exit ?_
    refine pd_loop_exit ?_
    refine pd_block_exit ?_
    refine pd_seq ?_
    refine jd_seq [true, true, true, false] [true, true, true, true] rfl rfl rfl ?_
    refine jd_region rfl ?_
    refine od_pu rfl rfl (p_move rfl) ?_
    refine od_pu rfl rfl (p_move rfl) ?_
    refine od_pu rfl rfl (p_move rfl) ?_
    refine od_pu rfl rfl (p_move rfl) ?_
    refine od_step rfl rfl (ef_call [.sl v 2 34 (L.map RowD.d)] [] [] rfl rfl (.cons ArgC.id (.cons ArgC.id (.cons ArgC.id (.cons ArgC.id .nil)))) lend_nil Try.call187 (insortR_c v L a l.length o (by omega) (by omega) (by omega)) (.inl rfl)) ?_
    rintro _ _ ⟨_, ⟨rfl, rfl⟩, rfl⟩
    refine OpsD.norm [.sl v 2 34 ((fixI (cmpRow o) a l.length L).map RowD.d)] rfl ?_
    refine od_nil rfl ?_
    refine pd_seq ?_
    refine jd_block [true, true, true, true, false] rfl rfl ?_
    have hall := hah.last (cmpRow_cmp o) (by omega) (by omega)
    rw [hlk.len] at hall
    refine jd_loop (fun (g : Nat × List RowD) => [(0, .ov v), (1, .v (.int .i64 ((l.length : Nat) : Int))), (2, .fn 175 [] [.el (.v (.int .i64 o)) 0]), (6, .v (.int .i64 ((g.1 : Nat) : Int)))]) (fun (g : Nat × List RowD) => [.sl v 2 34 (g.2.map RowD.d)]) (fun (g : Nat × List RowD) => (20 ≤ g.1 ∧ g.1 ≤ 2000000) ∧ (AllB (cmpRow o) g.1 g.2) ∧ (Like (cmpRow o) l g.2) ∧ ((g.2).length = l.length)) (fun (g : Nat × List RowD) => l.length - g.1) [true, true, true, true, false, false] (20, (fixI (cmpRow o) a l.length L)) rfl rfl ⟨sk rfl, sk rfl, sk rfl, sk rfl, trivial⟩ HSub.rfl' ⟨by show 20 ≤ 20 ∧ 20 ≤ 2000000; omega, hall, hlk.fix (cmpRow_cmp o) (by omega) (by omega), (hlk.fix (cmpRow_cmp o) (by omega) (by omega)).len⟩ ?_
    rintro ⟨bs, L⟩ ⟨hbs, hall, hlk, hlen⟩
    replace hbs : 20 ≤ bs ∧ bs ≤ 2000000 := hbs
    replace hall : AllB (cmpRow o) bs L := hall
    replace hlk : Like (cmpRow o) l L := hlk
    replace hlen : (L).length = l.length := hlen
    refine JD.keep [0, 1, 2, 6] [(0, .ov v), (1, .v (.int .i64 ((l.length : Nat) : Int))), (2, .fn 175 [] [.el (.v (.int .i64 o)) 0]), (6, .v (.int .i64 ((bs : Nat) : Int)))] rfl ?_
    refine JD.norm [.sl v 2 34 (L.map RowD.d)] rfl ?_
    refine jd_seq [true, true, true, true, false, false, false] [true, true, true, true, false, false, true] rfl rfl rfl ?_
    refine jd_seq [true, true, true, true, false, false, false, false] [true, true, true, true, false, false, false, true] rfl rfl rfl ?_
    refine jd_region rfl ?_
    refine od_pu rfl rfl (p_move rfl) ?_
    refine od_pu rfl rfl (p_move rfl) ?_
    refine od_pu rfl rfl (p_lss rfl rfl rfl) ?_
    refine od_nil rfl ?_
    refine pd_seq ?_
    refine jd_cond [true, true, true, true, false, false, false, true, false] [true, true, true, true, false, false, false, true, true] rfl rfl rfl rfl (fun hc2 => ?_) (fun hc2 => ?_)
    · replace hc2 := of_decide_eq_true hc2
      refine jd_skip rfl ?_
      refine pd_seq ?_
      refine jd_block [true, true, true, true, false, false, true, false] rfl rfl ?_
      refine jd_seq [true, true, true, true, false, false, true, false, false] [true, true, true, true, false, false, true, false, true] rfl rfl rfl ?_
      refine jd_region rfl ?_
      refine od_pu rfl rfl (p_move rfl) ?_
      refine od_pu rfl rfl (p_mul (c := ((2 * bs : Nat) : Int)) rfl rfl (w64eq (by omega) (by omega))) ?_
      refine od_pu rfl rfl (p_assign rfl) ?_
      refine od_pu rfl rfl (p_assign rfl) ?_
      refine od_nil rfl ?_
      refine pd_seq ?_
      refine jd_seq [true, true, true, true, false, false, true, false, true, false] [true, true, true, true, false, false, true, false, true, true] rfl rfl rfl ?_
      refine jd_block [true, true, true, true, false, false, true, false, true, false, false] rfl rfl ?_
      refine jd_loop (fun (g : Nat × List RowD) => [(0, .ov v), (1, .v (.int .i64 ((l.length : Nat) : Int))), (2, .fn 175 [] [.el (.v (.int .i64 o)) 0]), (6, .v (.int .i64 ((bs : Nat) : Int))), (28, .v (.int .i64 ((bs : Nat) : Int))), (29, .v (.int .i64 ((l.length : Nat) : Int))), (30, .v (.bool (decide (((bs : Nat) : Int) < ((l.length : Nat) : Int))))), (31, .v (.int .i64 ((bs : Nat) : Int))), (32, .v (.int .i64 ((2 * bs : Nat) : Int))), (7, .v (.int .i64 ((g.1 : Nat) : Int))), (8, .v (.int .i64 ((g.1 + 2 * bs : Nat) : Int)))]) (fun (g : Nat × List RowD) => [.sl v 2 34 (g.2.map RowD.d)]) (fun (g : Nat × List RowD) => (g.1 ≤ l.length) ∧ (Half (cmpRow o) bs g.1 g.2) ∧ (Like (cmpRow o) l g.2) ∧ ((g.2).length = l.length)) (fun (g : Nat × List RowD) => l.length - g.1) [true, true, true, true, false, false, true, false, true, false, false, false] (0, L) rfl rfl ⟨sk rfl, sk rfl, sk rfl, sk rfl, sk rfl, sk rfl, sk rfl, sk rfl, sk rfl, sk rfl, sc rfl (Cv.eq (congrArg (fun n => D.v (.int .i64 n)) (by omega))), trivial⟩ HSub.rfl' ⟨Nat.zero_le _, Half.zero hall, hlk, hlen⟩ ?_
      rintro ⟨a, M⟩ ⟨ha, hha, hlk2, hlen2⟩
      replace ha : a ≤ l.length := ha
      replace hha : Half (cmpRow o) bs a M := hha
      replace hlk2 : Like (cmpRow o) l M := hlk2
      replace hlen2 : (M).length = l.length := hlen2
      refine JD.keep [0, 1, 2, 6, 28, 29, 30, 31, 32, 7, 8] [(0, .ov v), (1, .v (.int .i64 ((l.length : Nat) : Int))), (2, .fn 175 [] [.el (.v (.int .i64 o)) 0]), (6, .v (.int .i64 ((bs : Nat) : Int))), (28, .v (.int .i64 ((bs : Nat) : Int))), (29, .v (.int .i64 ((l.length : Nat) : Int))), (30, .v (.bool (decide (((bs : Nat) : Int) < ((l.length : Nat) : Int))))), (31, .v (.int .i64 ((bs : Nat) : Int))), (32, .v (.int .i64 ((2 * bs : Nat) : Int))), (7, .v (.int .i64 ((a : Nat) : Int))), (8, .v (.int .i64 ((a + 2 * bs : Nat) : Int)))] rfl ?_
      refine JD.norm [.sl v 2 34 (M.map RowD.d)] rfl ?_
      refine jd_seq [true, true, true, true, false, false, true, false, true, false, false, false, false] [true, true, true, true, false, false, true, false, true, false, false, false, true] rfl rfl rfl ?_
      refine jd_seq [true, true, true, true, false, false, true, false, true, false, false, false, false, false] [true, true, true, true, false, false, true, false, true, false, false, false, false, true] rfl rfl rfl ?_
      refine jd_region rfl ?_
      refine od_pu rfl rfl (p_move rfl) ?_
      refine od_pu rfl rfl (p_move rfl) ?_
      refine od_pu rfl rfl (p_leq rfl rfl rfl) ?_
      refine od_nil rfl ?_
      refine pd_seq ?_
      refine jd_cond [true, true, true, true, false, false, true, false, true, false, false, false, false, true, false] [true, true, true, true, false, false, true, false, true, false, false, false, false, true, true] rfl rfl rfl rfl (fun hc3 => ?_) (fun hc3 => ?_)
      · replace hc3 := of_decide_eq_true hc3
        refine jd_skip rfl ?_
        refine pd_seq ?_
        refine jd_block [true, true, true, true, false, false, true, false, true, false, false, false, true, false] rfl rfl ?_
        refine jd_seq [true, true, true, true, false, false, true, false, true, false, false, false, true, false, false] [true, true, true, true, false, false, true, false, true, false, false, false, true, false, true] rfl rfl rfl ?_
        refine jd_region rfl ?_
        refine od_pu rfl rfl (p_move rfl) ?_
        refine od_pu rfl rfl (p_move rfl) ?_
        refine od_pu rfl rfl (p_move rfl) ?_
        refine od_pu rfl rfl (p_move rfl) ?_
        refine od_pu rfl rfl (p_add (c := ((a + bs : Nat) : Int)) rfl rfl (w64eq (by omega) (by omega))) ?_
        refine od_pu rfl rfl (p_move rfl) ?_
        refine od_pu rfl rfl (p_move rfl) ?_
        refine od_step rfl rfl (ef_call [.sl v 2 34 (M.map RowD.d)] [] [] rfl rfl (.cons ArgC.id (.cons ArgC.id (.cons ArgC.id (.cons ArgC.id (.cons ArgC.id .nil))))) lend_nil Try.call188 (symM_c v o _ M a (a + bs) (a + 2 * bs) rfl (by omega) (by omega) (by omega) (by omega) hha.one.1 hha.one.2) (.inl rfl)) ?_
        rintro _ _ ⟨_, ⟨rfl, rfl⟩, rfl⟩
        refine OpsD.norm [.sl v 2 34 ((fixI (cmpRow o) a (a + 2 * bs) M).map RowD.d)] rfl ?_
        refine od_nil rfl ?_
        refine pd_seq ?_
        refine jd_seq [true, true, true, true, false, false, true, false, true, false, false, false, true, false, true, false] [true, true, true, true, false, false, true, false, true, false, false, false, true, false, true, true] rfl rfl rfl ?_
        refine jd_region rfl ?_
        refine od_pu rfl rfl (p_move rfl) ?_
        refine od_pu rfl rfl (p_assign rfl) ?_
        refine od_nil rfl ?_
        refine pd_seq ?_
        refine jd_region rfl ?_
        refine od_pu rfl rfl (p_move rfl) ?_
        refine od_pu rfl rfl (p_move rfl) ?_
        refine od_pu rfl rfl (p_mul (c := ((2 * bs : Nat) : Int)) rfl rfl (w64eq (by omega) (by omega))) ?_
        refine od_pu rfl rfl (p_add (c := (((a + 2 * bs) + (2 * bs) : Nat) : Int)) rfl rfl (w64eq (by omega) (by omega))) ?_
        refine od_pu rfl rfl (p_assign rfl) ?_
        refine od_nil rfl ?_
        refine pd_block ?_
        exact pd_loop (a + 2 * bs, (fixI (cmpRow o) a (a + 2 * bs) M)) ⟨sk rfl, sk rfl, sk rfl, sk rfl, sk rfl, sk rfl, sk rfl, sk rfl, sk rfl, sk rfl, sk rfl, trivial⟩ HSub.rfl' ⟨by show a + 2 * bs ≤ l.length; omega, hha.next (cmpRow_cmp o) (by omega), hlk2.fix (cmpRow_cmp o) (by omega) (by omega), (hlk2.fix (cmpRow_cmp o) (by omega) (by omega)).len⟩ (by omega)
      · replace hc3 := of_decide_eq_false hc3
        refine jd_exit rfl ?_
        refine pd_seq_exit ?_
        refine pd_loop_exit ?_
        refine pd_block_exit ?_
        refine pd_seq ?_
        refine jd_seq [true, true, true, true, false, false, true, false, true, true, false] [true, true, true, true, false, false, true, false, true, true, true] rfl rfl rfl ?_
        refine jd_seq [true, true, true, true, false, false, true, false, true, true, false, false] [true, true, true, true, false, false, true, false, true, true, false, true] rfl rfl rfl ?_
        refine jd_region rfl ?_
        refine od_pu rfl rfl (p_move rfl) ?_
        refine od_pu rfl rfl (p_move rfl) ?_
        refine od_pu rfl rfl (p_add (c := ((a + bs : Nat) : Int)) rfl rfl (w64eq (by omega) (by omega))) ?_
        refine od_pu rfl rfl (p_assign rfl) ?_
        refine od_nil rfl ?_
        refine pd_seq ?_
        refine jd_seq [true, true, true, true, false, false, true, false, true, true, false, true, false] [true, true, true, true, false, false, true, false, true, true, false, true, true] rfl rfl rfl ?_
        refine jd_region rfl ?_
        refine od_pu rfl rfl (p_move rfl) ?_
        refine od_pu rfl rfl (p_move rfl) ?_
        refine od_pu rfl rfl (p_lss rfl rfl rfl) ?_
        refine od_nil rfl ?_
        refine pd_seq ?_
        refine jd_join (fun (g : List RowD) => [(0, .ov v), (1, .v (.int .i64 ((l.length : Nat) : Int))), (2, .fn 175 [] [.el (.v (.int .i64 o)) 0]), (6, .v (.int .i64 ((bs : Nat) : Int))), (7, .v (.int .i64 ((a : Nat) : Int))), (8, .v (.int .i64 ((a + 2 * bs : Nat) : Int))), (9, .v (.int .i64 ((a + bs : Nat) : Int))), (28, .v (.int .i64 ((bs : Nat) : Int))), (29, .v (.int .i64 ((l.length : Nat) : Int))), (30, .v (.bool (decide (((bs : Nat) : Int) < ((l.length : Nat) : Int))))), (31, .v (.int .i64 ((bs : Nat) : Int))), (32, .v (.int .i64 ((2 * bs : Nat) : Int))), (33, .v (.int .i64 ((a + 2 * bs : Nat) : Int))), (34, .v (.int .i64 ((l.length : Nat) : Int))), (35, .v (.bool (decide (((a + 2 * bs : Nat) : Int) ≤ ((l.length : Nat) : Int))))), (49, .v (.int .i64 ((a : Nat) : Int))), (50, .v (.int .i64 ((bs : Nat) : Int))), (51, .v (.int .i64 ((a + bs : Nat) : Int))), (52, .v (.int .i64 ((a + bs : Nat) : Int))), (53, .v (.int .i64 ((l.length : Nat) : Int))), (54, .v (.bool (decide (((a + bs : Nat) : Int) < ((l.length : Nat) : Int)))))]) (fun (g : List RowD) => [.sl v 2 34 (g.map RowD.d)]) (fun (g : List RowD) => (AllB (cmpRow o) (2 * bs) g) ∧ (Like (cmpRow o) l g) ∧ ((g).length = l.length)) (fun _ hQ4 => ?_) ?_
        · skip
          refine jd_cond [true, true, true, true, false, false, true, false, true, true, false, true, true, false] [true, true, true, true, false, false, true, false, true, true, false, true, true, true] rfl rfl rfl rfl (fun hc5 => ?_) (fun hc5 => ?_)
          · replace hc5 := of_decide_eq_true hc5
            refine jd_region rfl ?_
            refine od_pu rfl rfl (p_move rfl) ?_
            refine od_pu rfl rfl (p_move rfl) ?_
            refine od_pu rfl rfl (p_move rfl) ?_
            refine od_pu rfl rfl (p_move rfl) ?_
            refine od_pu rfl rfl (p_move rfl) ?_
            refine od_step rfl rfl (ef_call [.sl v 2 34 (M.map RowD.d)] [] [] rfl rfl (.cons ArgC.id (.cons ArgC.id (.cons ArgC.id (.cons ArgC.id (.cons ArgC.id .nil))))) lend_nil Try.call188 (symM_c v o _ M a (a + bs) l.length rfl (by omega) (by omega) (by omega) (by omega) hha.one.1 (by have k := hha.one.2; rwa [seg_over (by omega), hlk2.len] at k)) (.inl rfl)) ?_
            rintro _ _ ⟨_, ⟨rfl, rfl⟩, rfl⟩
            refine OpsD.norm [.sl v 2 34 ((fixI (cmpRow o) a l.length M).map RowD.d)] rfl ?_
            refine od_nil rfl ?_
            exact PD.sub [(0, .ov v), (1, .v (.int .i64 ((l.length : Nat) : Int))), (2, .fn 175 [] [.el (.v (.int .i64 o)) 0]), (6, .v (.int .i64 ((bs : Nat) : Int))), (7, .v (.int .i64 ((a : Nat) : Int))), (8, .v (.int .i64 ((a + 2 * bs : Nat) : Int))), (9, .v (.int .i64 ((a + bs : Nat) : Int))), (28, .v (.int .i64 ((bs : Nat) : Int))), (29, .v (.int .i64 ((l.length : Nat) : Int))), (30, .v (.bool (decide (((bs : Nat) : Int) < ((l.length : Nat) : Int))))), (31, .v (.int .i64 ((bs : Nat) : Int))), (32, .v (.int .i64 ((2 * bs : Nat) : Int))), (33, .v (.int .i64 ((a + 2 * bs : Nat) : Int))), (34, .v (.int .i64 ((l.length : Nat) : Int))), (35, .v (.bool (decide (((a + 2 * bs : Nat) : Int) ≤ ((l.length : Nat) : Int))))), (49, .v (.int .i64 ((a : Nat) : Int))), (50, .v (.int .i64 ((bs : Nat) : Int))), (51, .v (.int .i64 ((a + bs : Nat) : Int))), (52, .v (.int .i64 ((a + bs : Nat) : Int))), (53, .v (.int .i64 ((l.length : Nat) : Int))), (54, .v (.bool (decide (((a + bs : Nat) : Int) < ((l.length : Nat) : Int)))))] ⟨sk rfl, sk rfl, sk rfl, sk rfl, sk rfl, sk rfl, sk rfl, sk rfl, sk rfl, sk rfl, sk rfl, sk rfl, sk rfl, sk rfl, sk rfl, sk rfl, sk rfl, sk rfl, sk rfl, sk rfl, sk rfl, trivial⟩ (hQ4 (fixI (cmpRow o) a l.length M) ⟨by have k := hha.last2 (cmpRow_cmp o) (by omega) (by omega); rwa [hlk2.len] at k, hlk2.fix (cmpRow_cmp o) (by omega) (by omega), (hlk2.fix (cmpRow_cmp o) (by omega) (by omega)).len⟩)
          · replace hc5 := of_decide_eq_false hc5
            refine jd_skip rfl ?_
            exact PD.sub [(0, .ov v), (1, .v (.int .i64 ((l.length : Nat) : Int))), (2, .fn 175 [] [.el (.v (.int .i64 o)) 0]), (6, .v (.int .i64 ((bs : Nat) : Int))), (7, .v (.int .i64 ((a : Nat) : Int))), (8, .v (.int .i64 ((a + 2 * bs : Nat) : Int))), (9, .v (.int .i64 ((a + bs : Nat) : Int))), (28, .v (.int .i64 ((bs : Nat) : Int))), (29, .v (.int .i64 ((l.length : Nat) : Int))), (30, .v (.bool (decide (((bs : Nat) : Int) < ((l.length : Nat) : Int))))), (31, .v (.int .i64 ((bs : Nat) : Int))), (32, .v (.int .i64 ((2 * bs : Nat) : Int))), (33, .v (.int .i64 ((a + 2 * bs : Nat) : Int))), (34, .v (.int .i64 ((l.length : Nat) : Int))), (35, .v (.bool (decide (((a + 2 * bs : Nat) : Int) ≤ ((l.length : Nat) : Int))))), (49, .v (.int .i64 ((a : Nat) : Int))), (50, .v (.int .i64 ((bs : Nat) : Int))), (51, .v (.int .i64 ((a + bs : Nat) : Int))), (52, .v (.int .i64 ((a + bs : Nat) : Int))), (53, .v (.int .i64 ((l.length : Nat) : Int))), (54, .v (.bool (decide (((a + bs : Nat) : Int) < ((l.length : Nat) : Int)))))] ⟨sk rfl, sk rfl, sk rfl, sk rfl, sk rfl, sk rfl, sk rfl, sk rfl, sk rfl, sk rfl, sk rfl, sk rfl, sk rfl, sk rfl, sk rfl, sk rfl, sk rfl, sk rfl, sk rfl, sk rfl, sk rfl, trivial⟩ (hQ4 M ⟨hha.last (by omega), hlk2, hlen2⟩)
        · skip
          rintro L2 ⟨hb2, hlk3, hlen3⟩
          refine PD.keep [0, 1, 2, 6, 7, 8, 9, 28, 29, 30, 31, 32, 33, 34, 35, 49, 50, 51, 52, 53, 54] [(0, .ov v), (1, .v (.int .i64 ((l.length : Nat) : Int))), (2, .fn 175 [] [.el (.v (.int .i64 o)) 0]), (6, .v (.int .i64 ((bs : Nat) : Int))), (7, .v (.int .i64 ((a : Nat) : Int))), (8, .v (.int .i64 ((a + 2 * bs : Nat) : Int))), (9, .v (.int .i64 ((a + bs : Nat) : Int))), (28, .v (.int .i64 ((bs : Nat) : Int))), (29, .v (.int .i64 ((l.length : Nat) : Int))), (30, .v (.bool (decide (((bs : Nat) : Int) < ((l.length : Nat) : Int))))), (31, .v (.int .i64 ((bs : Nat) : Int))), (32, .v (.int .i64 ((2 * bs : Nat) : Int))), (33, .v (.int .i64 ((a + 2 * bs : Nat) : Int))), (34, .v (.int .i64 ((l.length : Nat) : Int))), (35, .v (.bool (decide (((a + 2 * bs : Nat) : Int) ≤ ((l.length : Nat) : Int))))), (49, .v (.int .i64 ((a : Nat) : Int))), (50, .v (.int .i64 ((bs : Nat) : Int))), (51, .v (.int .i64 ((a + bs : Nat) : Int))), (52, .v (.int .i64 ((a + bs : Nat) : Int))), (53, .v (.int .i64 ((l.length : Nat) : Int))), (54, .v (.bool (decide (((a + bs : Nat) : Int) < ((l.length : Nat) : Int)))))] rfl ?_
          refine PD.norm [.sl v 2 34 (L2.map RowD.d)] rfl ?_
          refine pd_seq ?_
          refine jd_region rfl ?_
          refine od_pu rfl rfl (p_move rfl) ?_
          refine od_pu rfl rfl (p_mul (c := ((bs * 2 : Nat) : Int)) rfl rfl (w64eq (by omega) (by omega))) ?_
          refine od_pu rfl rfl (p_assign rfl) ?_
          refine od_nil rfl ?_
          refine pd_block ?_
          exact pd_loop (bs * 2, L2) ⟨sk rfl, sk rfl, sk rfl, sk rfl, trivial⟩ HSub.rfl' ⟨by show 20 ≤ bs * 2 ∧ bs * 2 ≤ 2000000; omega, by rw [Nat.mul_comm]; exact hb2, hlk3, hlk3.len⟩ (by omega)
    · replace hc2 := of_decide_eq_false hc2
      refine jd_exit rfl ?_
      refine pd_seq_exit ?_
      refine pd_loop_exit ?_
      refine pd_block_exit ?_
      refine PD.norm [.sl v 2 34 ((isort (cmpRow o) l).map RowD.d)] (by rw [hlk.sorted (cmpRow_cmp o) (hall.sorted (by omega))]) ?_
      exact pd_endH Try.results185 .nil rfl (HSub.fst 1 rfl) ⟨rfl, rfl⟩

set_option maxHeartbeats 4000000 in
set_option maxRecDepth 100000 in
theorem sortstR_c (v : Value) (l : List RowD) (o : Int) (hl : l.length ≤ 1000000) :
    CD Try.prog 174 [.sl v 2 34 (l.map RowD.d)] [.ov v, .fn 175 [] [.el (.v (.int .i64 o)) 0]] (fun r H' => r = .tup [] ∧ H' = [.sl v 2 34 ((isort (cmpRow o) l).map RowD.d)]) := by
  refine cd_of_JD Try.func174 rfl (N := 9) rfl rfl (fun C => ?_)
  refine JD.keep [0, 1] [(0, .ov v), (1, .fn 175 [] [.el (.v (.int .i64 o)) 0])] rfl ?_
  refine jd_region rfl ?_
  refine od_pu rfl rfl (p_move rfl) ?_
  refine od_pu rfl rfl (p_move rfl) ?_
  refine od_pu rfl rfl (p_len_own (n := l.length) (j := 0) rfl rfl Try.runUnderlying27 (List.length_map _)) ?_
  refine od_pu rfl rfl (p_move rfl) ?_
  refine od_step rfl rfl (ef_call [.sl v 2 34 (l.map RowD.d)] [] [] rfl rfl (.cons ArgC.id (.cons ArgC.id (.cons ArgC.id .nil))) lend_nil Try.call185 (stabR_c v l o (by omega)) (.inl rfl)) ?_
  rintro _ _ ⟨_, ⟨rfl, rfl⟩, rfl⟩
  refine OpsD.norm [.sl v 2 34 ((isort (cmpRow o) l).map RowD.d)] rfl ?_
  refine od_nil rfl ?_
  exact pd_endH Try.results174 .nil rfl (HSub.fst 1 rfl) ⟨rfl, rfl⟩

set_option maxHeartbeats 4000000 in
set_option maxRecDepth 100000 in
theorem cloneR_c (l : List RowD) (hl : l.length ≤ 1000000) :
    CD Try.prog 173 [] [.sh 2 (l.map RowD.d)] (isOwn 2 34 (l.map RowD.d)) := by
  refine cd_of_JD Try.func173 rfl (N := 8) rfl rfl (fun C => ?_)
  refine JD.keep [0] [(0, .sh 2 (l.map RowD.d))] rfl ?_
  refine JD.bd 0 rfl (fun bd0 => ?_)
  have nl0 := bd_len bd0
  refine jd_seq [false] [true] rfl rfl rfl ?_
  refine jd_region rfl ?_
  refine od_pu rfl rfl (p_assign rfl) ?_
  refine od_nil rfl ?_
  refine pd_seq ?_
  refine jd_seq [true, false] [true, true] rfl rfl rfl ?_
  refine jd_seq [true, false, false] [true, false, true] rfl rfl rfl ?_
  refine jd_region rfl ?_
  refine od_pu rfl rfl (p_move rfl) ?_
  refine od_step rfl rfl (ef_isNil rfl (eqn_27 _)) ?_
  rintro _ _ ⟨b1, rfl, rfl, hb1⟩
  refine od_nil rfl ?_
  refine pd_seq ?_
  refine jd_cond [true, false, true, false] [true, false, true, true] rfl rfl rfl rfl (fun hc2 => ?_) (fun hc2 => ?_)
  · skip
    refine jd_seq [true, false, true, false, false] [true, false, true, false, true] rfl rfl rfl ?_
    refine jd_region rfl ?_
    refine od_pu rfl rfl (p_assign rfl) ?_
    refine od_nil rfl ?_
    refine pd_seq ?_
    refine jd_ret rfl ?_
    refine pd_seq_ret ?_
    refine PD.drop (PD.subH (HSub.nil 2 34) ?_)
    refine PD.subH (HSub.turn (h' := .sl (.slice none 0 0) 2 34 (l.map RowD.d)) rfl (Hp.eq_sl (show List.map RowD.d [] = List.map RowD.d l from congrArg _ (by exact (List.map_eq_nil_iff.1 (hb1 hc2)).symm)))) ?_
    exact pd_ret Try.results173 (.cons (ro_cv (ro_tmp rfl) (Cv.ov rfl)) .nil) rfl ⟨_, rfl, rfl⟩
  · skip
    refine jd_skip rfl ?_
    refine pd_seq ?_
    refine jd_seq [true, true, false] [true, true, true] rfl rfl rfl ?_
    refine jd_region rfl ?_
    refine od_step rfl rfl (ef_buildSlice0 Try.runUnderlying27 Try.sizeOf34) ?_
    rintro _ _ ⟨g3, rfl, rfl⟩
    refine od_pu rfl rfl (p_move rfl) ?_
    refine od_step rfl rfl (ef_append_m (f := RowD.d) (l := []) (l' := l) (i := 0) rfl rfl rfl (SrcD.sh) und_27 infz_34 rfl rfl (by unfold maxLen; (try simp only [List.length_append, List.length_cons, List.length_nil, List.length_map, List.length_take, List.length_drop, List.length_set, List.length_replicate]); omega) (by (try simp only [List.length_append, List.length_cons, List.length_nil, List.length_map, List.length_take, List.length_drop, List.length_set, List.length_replicate]); omega)) ?_
    rintro _ _ ⟨v4, rfl, rfl⟩
    refine OpsD.norm [.sl v4 2 34 (([] ++ l).map RowD.d)] rfl ?_
    refine od_pu rfl rfl (p_assign rfl) ?_
    refine od_nil rfl ?_
    refine pd_seq ?_
    refine jd_ret rfl ?_
    refine PD.subH (HSub.less (sub_one (i := 0) rfl)) ?_
    refine PD.subH (HSub.turn (h' := .sl v4 2 34 (l.map RowD.d)) rfl (Hp.eq_sl (show List.map RowD.d ([] ++ l) = List.map RowD.d l from congrArg _ (by rfl)))) ?_
    exact pd_ret Try.results173 (.cons (ro_tmp rfl) .nil) rfl ⟨_, rfl, rfl⟩

set_option maxHeartbeats 4000000 in
set_option maxRecDepth 100000 in
theorem SortR_c (o : Int) (l : List RowD) (hl : l.length ≤ 1000000) :
    CD Try.prog 153 [] [.v (.int .i64 o), .sh 2 (l.map RowD.d)] (isOwn 2 34 ((isort (cmpRow o) l).map RowD.d)) := by
  refine cd_of_JD Try.func153 rfl (N := 12) rfl rfl (fun C => ?_)
  refine JD.keep [0, 1] [(0, .v (.int .i64 o)), (1, .sh 2 (l.map RowD.d))] rfl ?_
  refine JD.bd 1 rfl (fun bd1 => ?_)
  have nl1 := bd_len bd1
  refine jd_seq [false] [true] rfl rfl rfl ?_
  refine jd_region rfl ?_
  refine od_step rfl rfl (ef_box rfl (CellD.v rfl)) ?_
  rintro _ _ ⟨g1, rfl, rfl⟩
  refine od_pu rfl rfl (p_assign rfl) ?_
  refine od_nil rfl ?_
  refine pd_seq ?_
  refine jd_seq [true, false] [true, true] rfl rfl rfl ?_
  refine jd_region rfl ?_
  refine od_pu rfl rfl (p_move rfl) ?_
  refine od_step rfl rfl (ef_call [] _ [] rfl rfl (.cons ArgC.id .nil) lend_nil Try.call173 (cloneR_c l (by omega)) (.inl rfl)) ?_
  rintro _ _ ⟨_, ⟨v2, rfl, rfl⟩, rfl⟩
  refine OpsD.norm [.sl v2 2 34 (l.map RowD.d), .bx g1 3 (.v (.int .i64 o))] rfl ?_
  refine od_pu rfl rfl (p_assign rfl) ?_
  refine od_nil rfl ?_
  refine pd_seq ?_
  refine jd_seq [true, true, false] [true, true, true] rfl rfl rfl ?_
  refine JD.mv (Mv.subH (HSub.perm (perm_front (i := 1) rfl))) ?_
  refine JD.norm [.bx g1 3 (.v (.int .i64 o)), .sl v2 2 34 (l.map RowD.d)] rfl ?_
  refine JD.mv (Mv.freeze (K' := [(0, .v (.int .i64 o)), (1, .sh 2 (l.map RowD.d)), (2, .el (.v (.int .i64 o)) 0), (4, .v (.slice none 0 0)), (5, .ov v2), (6, .sh 2 (l.map RowD.d)), (7, .ov v2)]) [.bx g1 3 (.v (.int .i64 o))] (H1 := [.sl v2 2 34 (l.map RowD.d)]) (H1' := [.sl v2 2 34 (l.map RowD.d)]) ⟨⟨_, rfl, ArgC.id⟩, ⟨_, rfl, ArgC.id⟩, ⟨_, rfl, ArgC.boxC (j := 0) rfl ArgC.id⟩, ⟨_, rfl, ArgC.id⟩, ⟨_, rfl, ArgC.id⟩, ⟨_, rfl, ArgC.id⟩, ⟨_, rfl, ArgC.id⟩, trivial⟩ (.same .nil)) ?_
  refine jd_region rfl ?_
  refine od_pu rfl rfl (p_move rfl) ?_
  refine od_pu rfl rfl (p_makeFunc rfl rfl) ?_
  refine od_step rfl rfl (ef_call [.sl v2 2 34 (l.map RowD.d)] [] [] rfl rfl (.cons ArgC.id (.cons ArgC.id .nil)) lend_nil Try.call174 (sortstR_c v2 l o (by omega)) (.inl rfl)) ?_
  rintro _ _ ⟨_, ⟨rfl, rfl⟩, rfl⟩
  refine OpsD.norm [.sl v2 2 34 ((isort (cmpRow o) l).map RowD.d)] rfl ?_
  refine od_nil rfl ?_
  refine pd_seq ?_
  refine jd_seq [true, true, true, false] [true, true, true, true] rfl rfl rfl ?_
  refine jd_region rfl ?_
  refine od_pu rfl rfl (p_move rfl) ?_
  refine od_pu rfl rfl (p_assign rfl) ?_
  refine od_nil rfl ?_
  refine pd_seq ?_
  refine JD.keep [4] [(4, .ov v2)] rfl ?_
  refine jd_ret rfl ?_
  refine PD.subH (HSub.less (sub_one (i := 0) rfl)) ?_
  refine PD.subH (HSub.turn (h' := .sl v2 2 34 ((isort (cmpRow o) l).map RowD.d)) rfl (Hp.eq_sl (show List.map RowD.d (isort (cmpRow o) l) = List.map RowD.d (isort (cmpRow o) l) from congrArg _ (by rfl)))) ?_
  exact pd_ret Try.results153 (.cons (ro_tmp rfl) .nil) rfl ⟨_, rfl, rfl⟩
end Lp
