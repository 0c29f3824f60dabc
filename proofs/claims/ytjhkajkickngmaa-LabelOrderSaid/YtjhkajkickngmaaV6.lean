/- Walks, printed by a program of mine (wip/tools/dw.py): each theorem says what a function of the translation hands back. -/
import Derived.Test.YtjhkajkickngmaaV1
import Derived.Test.YtjhkajkickngmaaV5
import Derived.Test.YtjhkajkickngmaaDI
import Derived.Test.YtjhkajkickngmaaPLbl
set_option linter.unusedSimpArgs false
set_option linter.unusedVariables false
namespace Lp
open Go Go.RowKit Go.Proofs

namespace HdV6
theorem cv_209_5 {a : Int} (h : 0 ≤ a ∧ a ≤ 255) : ∀ w, (convert 209 5 (.int .u64 a)).run Try.prog w = .ok (.int .u8 a) w := fun w => by
  have e : IntKind.u8.wrap a = a := by simp [IntKind.wrap, IntKind.bits, IntKind.signed]; omega
  simp [convert, run_underlying (show Try.prog.underlying 209 = some _ by kernel_rfl), run_underlying (show Try.prog.underlying 5 = some _ by kernel_rfl), Conv.intToInt, e]
theorem cv_3_171 {a : Int} (h : 0 ≤ a ∧ a ≤ 18446744073709551615) : ∀ w, (convert 3 171 (.int .i64 a)).run Try.prog w = .ok (.int .u64 a) w := fun w => by
  have e : IntKind.u64.wrap a = a := by simp [IntKind.wrap, IntKind.bits, IntKind.signed]; omega
  simp [convert, run_underlying (show Try.prog.underlying 3 = some _ by kernel_rfl), run_underlying (show Try.prog.underlying 171 = some _ by kernel_rfl), Conv.intToInt, e]
theorem cv_5_3 {a : Int} (h : -9223372036854775808 ≤ a ∧ a ≤ 9223372036854775807) : ∀ w, (convert 5 3 (.int .u8 a)).run Try.prog w = .ok (.int .i64 a) w := fun w => by
  have e : IntKind.i64.wrap a = a := by exact w64 (by omega)
  simp [convert, run_underlying (show Try.prog.underlying 5 = some _ by kernel_rfl), run_underlying (show Try.prog.underlying 3 = some _ by kernel_rfl), Conv.intToInt, e]
theorem eqn_32 (x : Operand) (A : Option Addr) (n c : Nat) (w : World) : (do eqGuard .eql 32 x (.const (.slice none 0 0)) (.slice A n c) (.slice none 0 0); binOp .eql 32 (.slice A n c) (.slice none 0 0) : Sem Value).run Try.prog w = .ok (.bool A.isNone) w := by cases A <;> kernel_rfl
theorem fa_74_0 (b o : Nat) : ∀ w, (Instr.fieldAt 74 (.pointer (some ⟨b, o, none⟩)) 0).run Try.prog w = .ok (.pointer (some ⟨b, o + 0, none⟩)) w := fun _ => by kernel_rfl
theorem fa_74_1 (b o : Nat) : ∀ w, (Instr.fieldAt 74 (.pointer (some ⟨b, o, none⟩)) 1).run Try.prog w = .ok (.pointer (some ⟨b, o + 1, none⟩)) w := fun _ => by kernel_rfl
theorem infz_74 : ∃ i, Try.prog.info? 74 = some i ∧ i.zero = some (.agg #[(.string ByteArray.empty), (.string ByteArray.empty)]) ∧ i.size = 2 ∧ i.bytes = 32 := infz_of (by kernel_rfl)
theorem und_32 : Try.prog.underlying 32 = some (.slice 74) := by kernel_rfl
end HdV6
open HdV6

set_option maxHeartbeats 4000000 in
set_option maxRecDepth 100000 in
theorem len64_c (x : Nat) (hx : x < 256) :
    CD Try.prog 165 [] [.v (.int .u64 ((x : Nat) : Int))] (fun r H' => ∃ k : Nat, r = dN k ∧ H' = []) := by
  refine cd_of_JD Try.func165 rfl (N := 25) rfl rfl (fun C => ?_)
  refine JD.keep [0] [(0, .v (.int .u64 ((x : Nat) : Int)))] rfl ?_
  refine jd_seq [false] [true] rfl rfl rfl ?_
  refine jd_region rfl ?_
  refine od_pu rfl rfl (p_assign rfl) ?_
  refine od_nil rfl ?_
  refine pd_seq ?_
  refine jd_seq [true, false] [true, true] rfl rfl rfl ?_
  refine jd_seq [true, false, false] [true, false, true] rfl rfl rfl ?_
  refine jd_region rfl ?_
  refine od_pu rfl rfl (p_move rfl) ?_
  refine od_pu rfl rfl (p_geq rfl rfl rfl) ?_
  refine od_nil rfl ?_
  refine pd_seq ?_
  refine jd_cond [true, false, true, false] [true, false, true, true] rfl rfl rfl rfl (fun hc1 => ?_) (fun hc1 => ?_)
  · replace hc1 := of_decide_eq_true hc1
    exfalso; omega
  · replace hc1 := of_decide_eq_false hc1
    refine jd_skip rfl ?_
    refine pd_seq ?_
    refine jd_seq [true, true, false] [true, true, true] rfl rfl rfl ?_
    refine jd_seq [true, true, false, false] [true, true, false, true] rfl rfl rfl ?_
    refine jd_region rfl ?_
    refine od_pu rfl rfl (p_move rfl) ?_
    refine od_pu rfl rfl (p_geq rfl rfl rfl) ?_
    refine od_nil rfl ?_
    refine pd_seq ?_
    refine jd_cond [true, true, false, true, false] [true, true, false, true, true] rfl rfl rfl rfl (fun hc2 => ?_) (fun hc2 => ?_)
    · replace hc2 := of_decide_eq_true hc2
      exfalso; omega
    · replace hc2 := of_decide_eq_false hc2
      refine jd_skip rfl ?_
      refine pd_seq ?_
      refine jd_seq [true, true, true, false] [true, true, true, true] rfl rfl rfl ?_
      refine jd_seq [true, true, true, false, false] [true, true, true, false, true] rfl rfl rfl ?_
      refine jd_region rfl ?_
      refine od_pu rfl rfl (p_move rfl) ?_
      refine od_pu rfl rfl (p_geq rfl rfl rfl) ?_
      refine od_nil rfl ?_
      refine pd_seq ?_
      refine jd_cond [true, true, true, false, true, false] [true, true, true, false, true, true] rfl rfl rfl rfl (fun hc3 => ?_) (fun hc3 => ?_)
      · replace hc3 := of_decide_eq_true hc3
        exfalso; omega
      · replace hc3 := of_decide_eq_false hc3
        refine jd_skip rfl ?_
        refine pd_seq ?_
        refine jd_seq [true, true, true, true, false] [true, true, true, true, true] rfl rfl rfl ?_
        refine jd_region rfl ?_
        refine od_pu rfl rfl (p_move rfl) ?_
        refine od_pu rfl rfl (p_move rfl) ?_
        refine od_pu rfl rfl (p_cast rfl (c := ((x : Nat) : Int)) (cv_209_5 (by omega))) ?_
        obtain ⟨u1, hu1⟩ := get_byte (⟨#[0, 1, 2, 2, 3, 3, 3, 3, 4, 4, 4, 4, 4, 4, 4, 4, 5, 5, 5, 5, 5, 5, 5, 5, 5, 5, 5, 5, 5, 5, 5, 5, 6, 6, 6, 6, 6, 6, 6, 6, 6, 6, 6, 6, 6, 6, 6, 6, 6, 6, 6, 6, 6, 6, 6, 6, 6, 6, 6, 6, 6, 6, 6, 6, 7, 7, 7, 7, 7, 7, 7, 7, 7, 7, 7, 7, 7, 7, 7, 7, 7, 7, 7, 7, 7, 7, 7, 7, 7, 7, 7, 7, 7, 7, 7, 7, 7, 7, 7, 7, 7, 7, 7, 7, 7, 7, 7, 7, 7, 7, 7, 7, 7, 7, 7, 7, 7, 7, 7, 7, 7, 7, 7, 7, 7, 7, 7, 7, 8, 8, 8, 8, 8, 8, 8, 8, 8, 8, 8, 8, 8, 8, 8, 8, 8, 8, 8, 8, 8, 8, 8, 8, 8, 8, 8, 8, 8, 8, 8, 8, 8, 8, 8, 8, 8, 8, 8, 8, 8, 8, 8, 8, 8, 8, 8, 8, 8, 8, 8, 8, 8, 8, 8, 8, 8, 8, 8, 8, 8, 8, 8, 8, 8, 8, 8, 8, 8, 8, 8, 8, 8, 8, 8, 8, 8, 8, 8, 8, 8, 8, 8, 8, 8, 8, 8, 8, 8, 8, 8, 8, 8, 8, 8, 8, 8, 8, 8, 8, 8, 8, 8, 8, 8, 8, 8, 8, 8, 8, 8, 8, 8, 8, 8, 8, 8, 8, 8, 8, 8, 8, 8, 8, 8, 8, 8, 8]⟩ : ByteArray) x (by show _ < 256; omega)
        have hlu1 := u1.toNat_lt
        refine od_pu rfl rfl (p_index_str (k := x) rfl rfl Try.runUnderlying9 (by first | rfl | omega) hu1) ?_
        refine od_pu rfl rfl (p_cast rfl (c := ((u1.toNat : Nat) : Int)) (cv_5_3 (by omega))) ?_
        refine od_pu rfl rfl (p_add (c := ((0 + u1.toNat : Nat) : Int)) rfl rfl (w64eq (by omega) (by omega))) ?_
        refine od_pu rfl rfl (p_assign rfl) ?_
        refine od_nil rfl ?_
        refine pd_seq ?_
        refine JD.keep [2] [(2, .v (.int .i64 ((0 + u1.toNat : Nat) : Int)))] rfl ?_
        refine jd_ret rfl ?_
        exact pd_retH Try.results165 (.cons (ro_tmp rfl) .nil) rfl (HSub.fst 0 rfl) ⟨_, rfl, rfl⟩

set_option maxHeartbeats 4000000 in
set_option maxRecDepth 100000 in
theorem len_c (x : Nat) (hx : x < 256) :
    CD Try.prog 135 [] [.v (.int .u64 ((x : Nat) : Int))] (fun r H' => ∃ k : Nat, r = dN k ∧ H' = []) := by
  refine cd_of_JD Try.func135 rfl (N := 8) rfl rfl (fun C => ?_)
  refine JD.keep [0] [(0, .v (.int .u64 ((x : Nat) : Int)))] rfl ?_
  refine jd_seq [false] [true] rfl rfl rfl ?_
  refine jd_region rfl ?_
  refine od_pu rfl rfl (p_assign rfl) ?_
  refine od_nil rfl ?_
  refine pd_seq ?_
  refine jd_seq [true, false] [true, true] rfl rfl rfl ?_
  refine jd_cond_f [true, false, true] rfl rfl rfl ?_
  refine jd_skip rfl ?_
  refine pd_seq ?_
  refine jd_seq [true, true, false] [true, true, true] rfl rfl rfl ?_
  refine jd_region rfl ?_
  refine od_pu rfl rfl (p_move rfl) ?_
  refine od_step rfl rfl (ef_call [] [] [] rfl rfl (.cons ArgC.id .nil) lend_nil Try.call165 (len64_c x (by omega)) (.inl rfl)) ?_
  rintro _ _ ⟨_, ⟨k, rfl, rfl⟩, rfl⟩
  refine OpsD.norm [] rfl ?_
  refine od_pu rfl rfl (p_assign rfl) ?_
  refine od_nil rfl ?_
  refine pd_seq ?_
  refine jd_ret rfl ?_
  exact pd_retH Try.results135 (.cons (ro_tmp rfl) .nil) rfl (HSub.fst 0 rfl) ⟨_, rfl, rfl⟩

set_option maxHeartbeats 4000000 in
set_option maxRecDepth 100000 in
theorem cloneL_c (l : List Lbl) (hl : l.length ≤ 1000000) :
    CD Try.prog 98 [] [.sh 2 (l.map Lbl.d)] (isOwn 2 74 (l.map Lbl.d)) := by
  refine cd_of_JD Try.func98 rfl (N := 8) rfl rfl (fun C => ?_)
  refine JD.keep [0] [(0, .sh 2 (l.map Lbl.d))] rfl ?_
  refine JD.bd 0 rfl (fun bd0 => ?_)
  have nl0 := bd_len bd0
  refine jd_seq [false] [true] rfl rfl rfl ?_
  refine jd_region rfl ?_
  refine od_pu rfl rfl (p_assign rfl) ?_
  refine od_nil rfl ?_
  refine pd_seq ?_
  refine jd_seq [true, false] [true, true] rfl rfl rfl ?_
  refine jd_seq [true, false, false] [true, false, true] rfl rfl rfl ?_
  refine jd_region rfl ?_
  refine od_pu rfl rfl (p_move rfl) ?_
  refine od_step rfl rfl (ef_isNil rfl (eqn_32 _)) ?_
  rintro _ _ ⟨b1, rfl, rfl, hb1⟩
  refine od_nil rfl ?_
  refine pd_seq ?_
  refine jd_cond [true, false, true, false] [true, false, true, true] rfl rfl rfl rfl (fun hc2 => ?_) (fun hc2 => ?_)
  · skip
    refine jd_seq [true, false, true, false, false] [true, false, true, false, true] rfl rfl rfl ?_
    refine jd_region rfl ?_
    refine od_pu rfl rfl (p_assign rfl) ?_
    refine od_nil rfl ?_
    refine pd_seq ?_
    refine jd_ret rfl ?_
    refine pd_seq_ret ?_
    refine PD.drop (PD.subH (HSub.nil 2 74) ?_)
    refine PD.subH (HSub.turn (h' := .sl (.slice none 0 0) 2 74 (l.map Lbl.d)) rfl (Hp.eq_sl (show List.map Lbl.d [] = List.map Lbl.d l from congrArg _ (by exact (List.map_eq_nil_iff.1 (hb1 hc2)).symm)))) ?_
    exact pd_ret Try.results98 (.cons (ro_cv (ro_tmp rfl) (Cv.ov rfl)) .nil) rfl ⟨_, rfl, rfl⟩
  · skip
    refine jd_skip rfl ?_
    refine pd_seq ?_
    refine jd_seq [true, true, false] [true, true, true] rfl rfl rfl ?_
    refine jd_region rfl ?_
    refine od_step rfl rfl (ef_buildSlice0 Try.runUnderlying32 Try.sizeOf74) ?_
    rintro _ _ ⟨g3, rfl, rfl⟩
    refine od_pu rfl rfl (p_move rfl) ?_
    refine od_step rfl rfl (ef_append_m (f := Lbl.d) (l := []) (l' := l) (i := 0) rfl rfl rfl (SrcD.sh) und_32 infz_74 rfl rfl (by unfold maxLen; (try simp only [List.length_append, List.length_cons, List.length_nil, List.length_map, List.length_take, List.length_drop, List.length_set, List.length_replicate]); omega) (by (try simp only [List.length_append, List.length_cons, List.length_nil, List.length_map, List.length_take, List.length_drop, List.length_set, List.length_replicate]); omega)) ?_
    rintro _ _ ⟨v4, rfl, rfl⟩
    refine OpsD.norm [.sl v4 2 74 (([] ++ l).map Lbl.d)] rfl ?_
    refine od_pu rfl rfl (p_assign rfl) ?_
    refine od_nil rfl ?_
    refine pd_seq ?_
    refine jd_ret rfl ?_
    refine PD.subH (HSub.less (sub_one (i := 0) rfl)) ?_
    refine PD.subH (HSub.turn (h' := .sl v4 2 74 (l.map Lbl.d)) rfl (Hp.eq_sl (show List.map Lbl.d ([] ++ l) = List.map Lbl.d l from congrArg _ (by rfl)))) ?_
    exact pd_ret Try.results98 (.cons (ro_tmp rfl) .nil) rfl ⟨_, rfl, rfl⟩

set_option maxHeartbeats 4000000 in
set_option maxRecDepth 100000 in
theorem insortL_c (v : Value) (l : List Lbl) (a b : Nat) (ha : a ≤ 1000000) (hb : b ≤ l.length) (hl : l.length ≤ 1000000) :
    CD Try.prog 156 [.sl v 2 74 (l.map Lbl.d)] [.ov v, .v (.int .i64 ((a : Nat) : Int)), .v (.int .i64 ((b : Nat) : Int)), .fn 100 [] []] (fun r H' => r = .tup [] ∧ H' = [.sl v 2 74 ((isrt cmpLbl a b b (a + 1) l).map Lbl.d)]) := by
  refine cd_of_JD Try.func156 rfl (N := 53) rfl rfl (fun C => ?_)
  refine JD.keep [0, 1, 2, 3] [(0, .ov v), (1, .v (.int .i64 ((a : Nat) : Int))), (2, .v (.int .i64 ((b : Nat) : Int))), (3, .fn 100 [] [])] rfl ?_
  refine jd_seq [false] [true] rfl rfl rfl ?_
  refine jd_region rfl ?_
  refine od_pu rfl rfl (p_move rfl) ?_
  refine od_pu rfl rfl (p_add (c := ((a + 1 : Nat) : Int)) rfl rfl (w64eq (by omega) (by omega))) ?_
  refine od_pu rfl rfl (p_assign rfl) ?_
  refine od_nil rfl ?_
  refine pd_seq ?_
  refine jd_block [true, false] rfl rfl ?_
  refine jd_loop (fun (g : Nat × Nat × List Lbl) => [(0, .ov v), (1, .v (.int .i64 ((a : Nat) : Int))), (2, .v (.int .i64 ((b : Nat) : Int))), (3, .fn 100 [] []), (8, .v (.int .i64 ((g.1 : Nat) : Int)))]) (fun (g : Nat × Nat × List Lbl) => [.sl v 2 74 (g.2.2.map Lbl.d)]) (fun (g : Nat × Nat × List Lbl) => (a + 1 ≤ g.1) ∧ (b ≤ g.1 + g.2.1) ∧ ((g.2.2).length = l.length) ∧ (isrt cmpLbl a b g.2.1 (g.1) g.2.2 = isrt cmpLbl a b b (a + 1) l)) (fun (g : Nat × Nat × List Lbl) => b - g.1) [true, false, false] (a + 1, b, l) rfl rfl ⟨sk rfl, sk rfl, sk rfl, sk rfl, sk rfl, trivial⟩ HSub.rfl' ⟨Nat.le_refl _, by show b ≤ a + 1 + b; omega, rfl, rfl⟩ ?_
  rintro ⟨i, n, L⟩ ⟨hi, hn, hL, hr⟩
  replace hi : a + 1 ≤ i := hi
  replace hn : b ≤ i + n := hn
  replace hL : (L).length = l.length := hL
  replace hr : isrt cmpLbl a b n (i) L = isrt cmpLbl a b b (a + 1) l := hr
  refine JD.keep [0, 1, 2, 3, 8] [(0, .ov v), (1, .v (.int .i64 ((a : Nat) : Int))), (2, .v (.int .i64 ((b : Nat) : Int))), (3, .fn 100 [] []), (8, .v (.int .i64 ((i : Nat) : Int)))] rfl ?_
  refine JD.norm [.sl v 2 74 (L.map Lbl.d)] rfl ?_
  refine jd_seq [true, false, false, false] [true, false, false, true] rfl rfl rfl ?_
  refine jd_seq [true, false, false, false, false] [true, false, false, false, true] rfl rfl rfl ?_
  refine jd_region rfl ?_
  refine od_pu rfl rfl (p_move rfl) ?_
  refine od_pu rfl rfl (p_move rfl) ?_
  refine od_pu rfl rfl (p_lss rfl rfl rfl) ?_
  refine od_nil rfl ?_
  refine pd_seq ?_
  refine jd_cond [true, false, false, false, true, false] [true, false, false, false, true, true] rfl rfl rfl rfl (fun hc1 => ?_) (fun hc1 => ?_)
  · replace hc1 := of_decide_eq_true hc1
    refine jd_skip rfl ?_
    refine pd_seq ?_
    refine jd_seq [true, false, false, true, false] [true, false, false, true, true] rfl rfl rfl ?_
    refine jd_block [true, false, false, true, false, false] rfl rfl ?_
    refine jd_seq [true, false, false, true, false, false, false] [true, false, false, true, false, false, true] rfl rfl rfl ?_
    refine jd_region rfl ?_
    refine od_pu rfl rfl (p_move rfl) ?_
    refine od_pu rfl rfl (p_assign rfl) ?_
    refine od_nil rfl ?_
    refine pd_seq ?_
    refine jd_block [true, false, false, true, false, false, true, false] rfl rfl ?_
    refine jd_loop (fun (g : Nat × List Lbl) => [(0, .ov v), (1, .v (.int .i64 ((a : Nat) : Int))), (2, .v (.int .i64 ((b : Nat) : Int))), (3, .fn 100 [] []), (8, .v (.int .i64 ((i : Nat) : Int))), (12, .v (.int .i64 ((i : Nat) : Int))), (13, .v (.int .i64 ((b : Nat) : Int))), (14, .v (.bool (decide (((i : Nat) : Int) < ((b : Nat) : Int))))), (17, .v (.int .i64 ((i : Nat) : Int))), (9, .v (.int .i64 ((g.1 : Nat) : Int)))]) (fun (g : Nat × List Lbl) => [.sl v 2 74 (g.2.map Lbl.d)]) (fun (g : Nat × List Lbl) => (g.1 ≤ i) ∧ ((g.2).length = l.length) ∧ (bub cmpLbl a (g.1) g.2 = bub cmpLbl a i L)) (fun (g : Nat × List Lbl) => g.1) [true, false, false, true, false, false, true, false, false] (i, L) rfl rfl ⟨sk rfl, sk rfl, sk rfl, sk rfl, sk rfl, sk rfl, sk rfl, sk rfl, sk rfl, sk rfl, trivial⟩ HSub.rfl' ⟨Nat.le_refl _, hL, rfl⟩ ?_
    rintro ⟨j, M⟩ ⟨hj, hlM, hM⟩
    replace hj : j ≤ i := hj
    replace hlM : (M).length = l.length := hlM
    replace hM : bub cmpLbl a (j) M = bub cmpLbl a i L := hM
    refine JD.keep [0, 1, 2, 3, 8, 12, 13, 14, 17, 9] [(0, .ov v), (1, .v (.int .i64 ((a : Nat) : Int))), (2, .v (.int .i64 ((b : Nat) : Int))), (3, .fn 100 [] []), (8, .v (.int .i64 ((i : Nat) : Int))), (12, .v (.int .i64 ((i : Nat) : Int))), (13, .v (.int .i64 ((b : Nat) : Int))), (14, .v (.bool (decide (((i : Nat) : Int) < ((b : Nat) : Int))))), (17, .v (.int .i64 ((i : Nat) : Int))), (9, .v (.int .i64 ((j : Nat) : Int)))] rfl ?_
    refine JD.norm [.sl v 2 74 (M.map Lbl.d)] rfl ?_
    refine jd_seq [true, false, false, true, false, false, true, false, false, false] [true, false, false, true, false, false, true, false, false, true] rfl rfl rfl ?_
    refine jd_seq [true, false, false, true, false, false, true, false, false, false, false] [true, false, false, true, false, false, true, false, false, false, true] rfl rfl rfl ?_
    by_cases hg2 : ((a : Nat) : Int) < ((j : Nat) : Int)
    · skip
      refine JD.keep [0, 1, 2, 3, 8, 9, 12, 13, 14, 17] [(0, .ov v), (1, .v (.int .i64 ((a : Nat) : Int))), (2, .v (.int .i64 ((b : Nat) : Int))), (3, .fn 100 [] []), (8, .v (.int .i64 ((i : Nat) : Int))), (9, .v (.int .i64 ((j : Nat) : Int))), (12, .v (.int .i64 ((i : Nat) : Int))), (13, .v (.int .i64 ((b : Nat) : Int))), (14, .v (.bool (decide (((i : Nat) : Int) < ((b : Nat) : Int))))), (17, .v (.int .i64 ((i : Nat) : Int)))] rfl ?_
      refine JD.norm [.sl v 2 74 (M.map Lbl.d)] rfl ?_
      obtain ⟨x1, hx1⟩ := get_some M j (by (try simp only [List.length_set]); omega)
      obtain ⟨x2, hx2⟩ := get_some M (j - 1) (by (try simp only [List.length_set]); omega)
      refine jd_draw 14 [(18, .v (.int .i64 ((j : Nat) : Int)), none), (19, .v (.int .i64 ((a : Nat) : Int)), none), (20, .v (.bool true), none), (21, .v (.bool true), none), (22, .fn 100 [] [], none), (23, .ov v, none), (24, .v (.int .i64 ((j : Nat) : Int)), none), (25, .v (.pointer (some ⟨bl v, j * 2 + 0, none⟩)), none), (26, Lbl.d x1, none), (27, .ov v, none), (28, .v (.int .i64 ((j : Nat) : Int)), none), (29, .v (.int .i64 ((j - 1 : Nat) : Int)), none), (30, .v (.pointer (some ⟨bl v, (j - 1) * 2 + 0, none⟩)), none), (31, Lbl.d x2, none)] [.sl v 2 74 (M.map Lbl.d)] (Hn := [.sl v 2 74 (M.map Lbl.d)]) mixed rfl rfl rfl rfl HSub.rfl' rfl ⟨sa_p rfl rfl rfl (p_move rfl), sa_p rfl rfl rfl (p_move rfl), sa_p rfl rfl rfl (p_gtr rfl rfl (decide_eq_true hg2)), sa_p rfl rfl rfl (p_move rfl), sa_qr rfl rfl rfl rfl rfl rfl (p_move rfl).qu, sa_qr rfl rfl rfl rfl rfl rfl (p_move rfl).qu, sa_qr rfl rfl rfl rfl rfl rfl (p_move rfl).qu, sa_qr rfl rfl rfl rfl rfl rfl (p_indexAddr_sl (k := j) (j := 0) rfl rfl rfl Try.runUnderlying32 Try.sizeOf74 (by first | rfl | omega) (get_map hx1)).qu, sa_qr rfl rfl rfl rfl rfl rfl (p_load_sl (d := Lbl.d x1) rfl (i := 0) rfl (get_map hx1) Try.isAgg74 Try.sizeOf74 rfl rfl).qu, sa_qr rfl rfl rfl rfl rfl rfl (p_move rfl).qu, sa_qr rfl rfl rfl rfl rfl rfl (p_move rfl).qu, sa_qr rfl rfl rfl rfl rfl rfl (p_sub (c := ((j - 1 : Nat) : Int)) rfl rfl (w64eq (by omega) (by omega))).qu, sa_qr rfl rfl rfl rfl rfl rfl (p_indexAddr_sl (k := j - 1) (j := 0) rfl rfl rfl Try.runUnderlying32 Try.sizeOf74 (by first | rfl | omega) (get_map hx2)).qu, sa_qr rfl rfl rfl rfl rfl rfl (p_load_sl (d := Lbl.d x2) rfl (i := 0) rfl (get_map hx2) Try.isAgg74 Try.sizeOf74 rfl rfl).qu, trivial⟩ ?_
      refine OpsD.keep [0, 1, 2, 3, 8, 9, 12, 13, 14, 17, 18, 19, 20, 21, 22, 23, 24, 25, 26, 27, 28, 29, 30, 31] [(0, .ov v), (1, .v (.int .i64 ((a : Nat) : Int))), (2, .v (.int .i64 ((b : Nat) : Int))), (3, .fn 100 [] []), (8, .v (.int .i64 ((i : Nat) : Int))), (9, .v (.int .i64 ((j : Nat) : Int))), (12, .v (.int .i64 ((i : Nat) : Int))), (13, .v (.int .i64 ((b : Nat) : Int))), (14, .v (.bool (decide (((i : Nat) : Int) < ((b : Nat) : Int))))), (17, .v (.int .i64 ((i : Nat) : Int))), (18, .v (.int .i64 ((j : Nat) : Int))), (19, .v (.int .i64 ((a : Nat) : Int))), (20, .v (.bool true)), (21, .v (.bool true)), (22, .fn 100 [] []), (23, .ov v), (24, .v (.int .i64 ((j : Nat) : Int))), (25, .v (.pointer (some ⟨bl v, j * 2 + 0, none⟩))), (26, Lbl.d x1), (27, .ov v), (28, .v (.int .i64 ((j : Nat) : Int))), (29, .v (.int .i64 ((j - 1 : Nat) : Int))), (30, .v (.pointer (some ⟨bl v, (j - 1) * 2 + 0, none⟩))), (31, Lbl.d x2)] rfl ?_
      refine od_run rfl rfl rfl rfl rfl (ef_callv [] _ [] rfl rfl rfl (.cons ArgC.id (.cons ArgC.id .nil)) lend_nil Try.call100 (order_c x1 x2) (.inl rfl)) ?_
      rintro _ _ ⟨_, ⟨rfl, rfl⟩, rfl⟩
      refine OpsD.norm [.sl v 2 74 (M.map Lbl.d)] rfl ?_
      refine od_runp rfl rfl rfl rfl rfl (p_lss rfl rfl rfl) ?_
      refine od_pu rfl rfl (p_pick_t rfl rfl) ?_
      refine od_nil rfl ?_
      refine pd_seq ?_
      refine jd_cond [true, false, false, true, false, false, true, false, false, false, true, false] [true, false, false, true, false, false, true, false, false, false, true, true] rfl rfl rfl rfl (fun hc3 => ?_) (fun hc3 => ?_)
      · replace hc3 := of_decide_eq_true hc3
        refine jd_skip rfl ?_
        refine pd_seq ?_
        refine jd_seq [true, false, false, true, false, false, true, false, false, true, false] [true, false, false, true, false, false, true, false, false, true, true] rfl rfl rfl ?_
        refine jd_block [true, false, false, true, false, false, true, false, false, true, false, false] rfl rfl ?_
        refine JD.keep [0, 1, 2, 3, 8, 9, 12, 13, 14, 17, 18, 19, 20, 21, 22, 23, 24, 25, 26, 27, 28, 29, 30, 31, 32, 33, 34] [(0, .ov v), (1, .v (.int .i64 ((a : Nat) : Int))), (2, .v (.int .i64 ((b : Nat) : Int))), (3, .fn 100 [] []), (8, .v (.int .i64 ((i : Nat) : Int))), (9, .v (.int .i64 ((j : Nat) : Int))), (12, .v (.int .i64 ((i : Nat) : Int))), (13, .v (.int .i64 ((b : Nat) : Int))), (14, .v (.bool (decide (((i : Nat) : Int) < ((b : Nat) : Int))))), (17, .v (.int .i64 ((i : Nat) : Int))), (18, .v (.int .i64 ((j : Nat) : Int))), (19, .v (.int .i64 ((a : Nat) : Int))), (20, .v (.bool true)), (21, .v (.bool true)), (22, .fn 100 [] []), (23, .ov v), (24, .v (.int .i64 ((j : Nat) : Int))), (25, .v (.pointer (some ⟨bl v, j * 2 + 0, none⟩))), (26, Lbl.d x1), (27, .ov v), (28, .v (.int .i64 ((j : Nat) : Int))), (29, .v (.int .i64 ((j - 1 : Nat) : Int))), (30, .v (.pointer (some ⟨bl v, (j - 1) * 2 + 0, none⟩))), (31, Lbl.d x2), (32, .v (.int .i64 (cmpLbl x1 x2))), (33, .v (.bool (decide (cmpLbl x1 x2 < (0 : Int))))), (34, .v (.bool (decide (cmpLbl x1 x2 < (0 : Int)))))] rfl ?_
        refine JD.norm [.sl v 2 74 (M.map Lbl.d)] rfl ?_
        refine jd_drawo 16 [(37, .q (.ov v)), (38, .q (.v (.int .i64 ((j : Nat) : Int)))), (39, .q (.ov v)), (40, .q (.v (.int .i64 ((j : Nat) : Int)))), (41, .q (.v (.int .i64 ((j - 1 : Nat) : Int)))), (42, .q (.ov v)), (43, .q (.v (.int .i64 ((j : Nat) : Int)))), (44, .q (.v (.int .i64 ((j - 1 : Nat) : Int)))), (45, .r (.v (.pointer (some ⟨bl v, (j - 1) * 2 + 0, none⟩)))), (46, .r (Lbl.d x2)), (47, .q (.ov v)), (48, .q (.v (.int .i64 ((j : Nat) : Int)))), (49, .r (.v (.pointer (some ⟨bl v, j * 2 + 0, none⟩)))), (50, .r (Lbl.d x1)), (51, .r (.v (.pointer (some ⟨bl v, j * 2 + 0, none⟩)))), (68, .s (fun γ => [.sl v 2 74 ((M.set j x2).map Lbl.d)]))] [] (Hn := fun γ => [.sl v 2 74 ((M.set j x2).map Lbl.d)]) mixed rfl rfl (by kernel_rfl) (by kernel_rfl) (by kernel_rfl) HSub.none (fun _ => rfl) (fun γ => ⟨so_p rfl rfl rfl (p_move rfl), so_p rfl rfl rfl (p_move rfl), so_p rfl rfl rfl (p_move rfl), so_p rfl rfl rfl (p_move rfl), so_p rfl rfl rfl (p_sub (c := ((j - 1 : Nat) : Int)) rfl rfl (w64eq (by omega) (by omega))), so_p rfl rfl rfl (p_move rfl), so_p rfl rfl rfl (p_move rfl), so_p rfl rfl rfl (p_sub (c := ((j - 1 : Nat) : Int)) rfl rfl (w64eq (by omega) (by omega))), so_r rfl rfl rfl rfl (p_indexAddr_sl (k := j - 1) (j := 0) rfl rfl rfl Try.runUnderlying32 Try.sizeOf74 (by first | rfl | omega) (get_map hx2)), so_r rfl rfl rfl rfl (p_load_sl (d := Lbl.d x2) rfl (i := 0) rfl (get_map hx2) Try.isAgg74 Try.sizeOf74 rfl rfl), so_p rfl rfl rfl (p_move rfl), so_p rfl rfl rfl (p_move rfl), so_r rfl rfl rfl rfl (p_indexAddr_sl (k := j) (j := 0) rfl rfl rfl Try.runUnderlying32 Try.sizeOf74 (by first | rfl | omega) (get_map hx1)), so_r rfl rfl rfl rfl (p_load_sl (d := Lbl.d x1) rfl (i := 0) rfl (get_map hx1) Try.isAgg74 Try.sizeOf74 rfl rfl), so_r rfl rfl rfl rfl (p_indexAddr_sl (k := j) (j := 0) rfl rfl rfl Try.runUnderlying32 Try.sizeOf74 (by first | rfl | omega) (get_map hx1)), so_st rfl rfl rfl rfl rfl ((ef_store_m (f := Lbl.d) (k := j) (z := 2) (o := 0) (i := 0) (a' := x2) rfl rfl hx1 rfl (CellD.agg) Try.sizeOf74 rfl rfl rfl).mono (by rintro _ _ ⟨_, rfl⟩; rfl)) HSub.none, trivial⟩) (fun γ => ?_)
        refine OpsD.keep [0, 1, 2, 3, 8, 9, 12, 13, 14, 17, 18, 19, 20, 21, 22, 23, 24, 25, 26, 27, 28, 29, 30, 31, 32, 33, 34, 37, 38, 39, 40, 41, 42, 43, 44, 45, 46, 47, 48, 49, 50, 51] [(0, .ov v), (1, .v (.int .i64 ((a : Nat) : Int))), (2, .v (.int .i64 ((b : Nat) : Int))), (3, .fn 100 [] []), (8, .v (.int .i64 ((i : Nat) : Int))), (9, .v (.int .i64 ((j : Nat) : Int))), (12, .v (.int .i64 ((i : Nat) : Int))), (13, .v (.int .i64 ((b : Nat) : Int))), (14, .v (.bool (decide (((i : Nat) : Int) < ((b : Nat) : Int))))), (17, .v (.int .i64 ((i : Nat) : Int))), (18, .v (.int .i64 ((j : Nat) : Int))), (19, .v (.int .i64 ((a : Nat) : Int))), (20, .v (.bool true)), (21, .v (.bool true)), (22, .fn 100 [] []), (23, .ov v), (24, .v (.int .i64 ((j : Nat) : Int))), (25, .v (.pointer (some ⟨bl v, j * 2 + 0, none⟩))), (26, Lbl.d x1), (27, .ov v), (28, .v (.int .i64 ((j : Nat) : Int))), (29, .v (.int .i64 ((j - 1 : Nat) : Int))), (30, .v (.pointer (some ⟨bl v, (j - 1) * 2 + 0, none⟩))), (31, Lbl.d x2), (32, .v (.int .i64 (cmpLbl x1 x2))), (33, .v (.bool (decide (cmpLbl x1 x2 < (0 : Int))))), (34, .v (.bool (decide (cmpLbl x1 x2 < (0 : Int))))), (37, .ov v), (38, .v (.int .i64 ((j : Nat) : Int))), (39, .ov v), (40, .v (.int .i64 ((j : Nat) : Int))), (41, .v (.int .i64 ((j - 1 : Nat) : Int))), (42, .ov v), (43, .v (.int .i64 ((j : Nat) : Int))), (44, .v (.int .i64 ((j - 1 : Nat) : Int))), (45, .v (.pointer (some ⟨bl v, (j - 1) * 2 + 0, none⟩))), (46, Lbl.d x2), (47, .ov v), (48, .v (.int .i64 ((j : Nat) : Int))), (49, .v (.pointer (some ⟨bl v, j * 2 + 0, none⟩))), (50, Lbl.d x1), (51, .v (.pointer (some ⟨bl v, j * 2 + 0, none⟩)))] rfl ?_
        obtain ⟨x3, hx3⟩ := get_some (M.set j x2) (j - 1) (by (try simp only [List.length_set]); omega)
        refine od_pu rfl rfl (p_indexAddr_sl (k := j - 1) (j := 0) rfl rfl rfl Try.runUnderlying32 Try.sizeOf74 (by first | rfl | omega) (get_map hx3)) ?_
        refine od_step rfl rfl (ef_store_m (f := Lbl.d) (k := j - 1) (z := 2) (o := 0) (i := 0) (a' := x1) rfl rfl hx3 rfl (CellD.agg) Try.sizeOf74 rfl rfl rfl) ?_
        rintro _ _ ⟨rfl, rfl⟩
        refine OpsD.norm [.sl v 2 74 (((M.set j x2).set (j - 1) x1).map Lbl.d)] rfl ?_
        refine od_nil rfl ?_
        refine pd_block ?_
        refine pd_seq ?_
        refine jd_region rfl ?_
        refine od_pu rfl rfl (p_move rfl) ?_
        refine od_pu rfl rfl (p_sub (c := ((j - 1 : Nat) : Int)) rfl rfl (w64eq (by omega) (by omega))) ?_
        refine od_pu rfl rfl (p_assign rfl) ?_
        refine od_nil rfl ?_
        exact pd_loop (j - 1, ((M.set j x2).set (j - 1) x1)) ⟨sk rfl, sk rfl, sk rfl, sk rfl, sk rfl, sk rfl, sk rfl, sk rfl, sk rfl, sk rfl, trivial⟩ HSub.rfl' ⟨by omega, by simp only [List.length_set]; omega, by rw [← hM]; exact (bub_lt' (by omega) hx1 hx2 hc3).symm⟩ (by omega)
      · replace hc3 := of_decide_eq_false hc3
        refine jd_exit rfl ?_
        refine pd_seq_exit ?_
        refine pd_loop_exit ?_
        refine pd_block_exit ?_
        refine pd_block ?_
        refine pd_seq ?_
        refine jd_region rfl ?_
        refine od_pu rfl rfl (p_move rfl) ?_
        refine od_pu rfl rfl (p_add (c := ((i + 1 : Nat) : Int)) rfl rfl (w64eq (by omega) (by omega))) ?_
        refine od_pu rfl rfl (p_assign rfl) ?_
        refine od_nil rfl ?_
        exact pd_loop (i + 1, n - 1, M) ⟨sk rfl, sk rfl, sk rfl, sk rfl, sk rfl, trivial⟩ HSub.rfl' ⟨by show a + 1 ≤ i + 1; omega, by show b ≤ i + 1 + (n - 1); omega, hlM, by show isrt cmpLbl a b (n - 1) (i + 1) M = _; have hb : bub cmpLbl a j M = M := bub_ge' hx1 hx2 hc3; rw [← hr]; obtain ⟨m, rfl⟩ : ∃ m, n = m + 1 := ⟨n - 1, by omega⟩; rw [isrt_next (by omega), ← hM, hb]; rfl⟩ (by omega)
    · skip
      refine JD.keep [0, 1, 2, 3, 8, 9, 12, 13, 14, 17] [(0, .ov v), (1, .v (.int .i64 ((a : Nat) : Int))), (2, .v (.int .i64 ((b : Nat) : Int))), (3, .fn 100 [] []), (8, .v (.int .i64 ((i : Nat) : Int))), (9, .v (.int .i64 ((j : Nat) : Int))), (12, .v (.int .i64 ((i : Nat) : Int))), (13, .v (.int .i64 ((b : Nat) : Int))), (14, .v (.bool (decide (((i : Nat) : Int) < ((b : Nat) : Int))))), (17, .v (.int .i64 ((i : Nat) : Int)))] rfl ?_
      refine JD.norm [.sl v 2 74 (M.map Lbl.d)] rfl ?_
      refine jd_draw 14 [(18, .v (.int .i64 ((j : Nat) : Int)), none), (19, .v (.int .i64 ((a : Nat) : Int)), none), (20, .v (.bool false), none), (21, .v (.bool false), none), (22, .v undef, none), (23, .v undef, none), (24, .v undef, none), (25, .v undef, none), (26, .v undef, none), (27, .v undef, none), (28, .v undef, none), (29, .v undef, none), (30, .v undef, none), (31, .v undef, none)] [.sl v 2 74 (M.map Lbl.d)] (Hn := [.sl v 2 74 (M.map Lbl.d)]) mixed rfl rfl rfl rfl HSub.rfl' rfl ⟨sa_p rfl rfl rfl (p_move rfl), sa_p rfl rfl rfl (p_move rfl), sa_p rfl rfl rfl (p_gtr rfl rfl (decide_eq_false hg2)), sa_p rfl rfl rfl (p_move rfl), sa_s rfl rfl rfl rfl rfl rfl (by decide), sa_s rfl rfl rfl rfl rfl rfl (by decide), sa_s rfl rfl rfl rfl rfl rfl (by decide), sa_s rfl rfl rfl rfl rfl rfl (by decide), sa_s rfl rfl rfl rfl rfl rfl (by decide), sa_s rfl rfl rfl rfl rfl rfl (by decide), sa_s rfl rfl rfl rfl rfl rfl (by decide), sa_s rfl rfl rfl rfl rfl rfl (by decide), sa_s rfl rfl rfl rfl rfl rfl (by decide), sa_s rfl rfl rfl rfl rfl rfl (by decide), trivial⟩ ?_
      refine OpsD.keep [0, 1, 2, 3, 8, 9, 12, 13, 14, 17, 18, 19, 20, 21, 22, 23, 24, 25, 26, 27, 28, 29, 30, 31] [(0, .ov v), (1, .v (.int .i64 ((a : Nat) : Int))), (2, .v (.int .i64 ((b : Nat) : Int))), (3, .fn 100 [] []), (8, .v (.int .i64 ((i : Nat) : Int))), (9, .v (.int .i64 ((j : Nat) : Int))), (12, .v (.int .i64 ((i : Nat) : Int))), (13, .v (.int .i64 ((b : Nat) : Int))), (14, .v (.bool (decide (((i : Nat) : Int) < ((b : Nat) : Int))))), (17, .v (.int .i64 ((i : Nat) : Int))), (18, .v (.int .i64 ((j : Nat) : Int))), (19, .v (.int .i64 ((a : Nat) : Int))), (20, .v (.bool false)), (21, .v (.bool false)), (22, .v undef), (23, .v undef), (24, .v undef), (25, .v undef), (26, .v undef), (27, .v undef), (28, .v undef), (29, .v undef), (30, .v undef), (31, .v undef)] rfl ?_
      refine od_skip rfl rfl rfl rfl rfl (by decide) ?_
      refine od_skip rfl rfl rfl rfl rfl (by decide) ?_
      refine od_pu rfl rfl (p_pick_f rfl rfl) ?_
      refine od_nil rfl ?_
      refine pd_seq ?_
      refine jd_cond_f [true, false, false, true, false, false, true, false, false, false, true, true] rfl rfl rfl ?_
      refine jd_exit rfl ?_
      refine pd_seq_exit ?_
      refine pd_loop_exit ?_
      refine pd_block_exit ?_
      refine pd_block ?_
      refine pd_seq ?_
      refine jd_region rfl ?_
      refine od_pu rfl rfl (p_move rfl) ?_
      refine od_pu rfl rfl (p_add (c := ((i + 1 : Nat) : Int)) rfl rfl (w64eq (by omega) (by omega))) ?_
      refine od_pu rfl rfl (p_assign rfl) ?_
      refine od_nil rfl ?_
      exact pd_loop (i + 1, n - 1, M) ⟨sk rfl, sk rfl, sk rfl, sk rfl, sk rfl, trivial⟩ HSub.rfl' ⟨by show a + 1 ≤ i + 1; omega, by show b ≤ i + 1 + (n - 1); omega, hlM, by show isrt cmpLbl a b (n - 1) (i + 1) M = _; have hb : bub cmpLbl a j M = M := bub_end (by omega); rw [← hr]; obtain ⟨m, rfl⟩ : ∃ m, n = m + 1 := ⟨n - 1, by omega⟩; rw [isrt_next (by omega), ← hM, hb]; rfl⟩ (by omega)
  · replace hc1 := of_decide_eq_false hc1
    refine jd_exit rfl ?_
    refine pd_seq_exit ?_
    refine pd_loop_exit ?_
    refine pd_block_exit ?_
    refine PD.norm [.sl v 2 74 ((isrt cmpLbl a b b (a + 1) l).map Lbl.d)] (by rw [← hr, isrt_end (by omega)]) ?_
    exact pd_endH Try.results156 .nil rfl (HSub.fst 1 rfl) ⟨rfl, rfl⟩

set_option maxHeartbeats 4000000 in
set_option maxRecDepth 100000 in
theorem pdqL_c (v : Value) (l : List Lbl) (k : Nat) (hl : l.length ≤ 12) :
    CD Try.prog 134 [.sl v 2 74 (l.map Lbl.d)] [.ov v, .v (.int .i64 0), .v (.int .i64 ((l.length : Nat) : Int)), .v (.int .i64 ((k : Nat) : Int)), .fn 100 [] []] (fun r H' => r = .tup [] ∧ H' = [.sl v 2 74 ((isort cmpLbl l).map Lbl.d)]) := by
  refine cd_of_JD Try.func134 rfl (N := 148) rfl rfl (fun C => ?_)
  refine JD.keep [0, 1, 2, 3, 4] [(0, .ov v), (1, .v (.int .i64 0)), (2, .v (.int .i64 ((l.length : Nat) : Int))), (3, .v (.int .i64 ((k : Nat) : Int))), (4, .fn 100 [] [])] rfl ?_
  refine jd_seq [false] [true] rfl rfl rfl ?_
  refine jd_region rfl ?_
  refine od_pu rfl rfl (p_assign rfl) ?_
  refine od_nil rfl ?_
  refine pd_seq ?_
  refine jd_seq [true, false] [true, true] rfl rfl rfl ?_
  refine jd_region rfl ?_
  refine od_pu rfl rfl (p_assign rfl) ?_
  refine od_nil rfl ?_
  refine pd_seq ?_
  refine jd_block [true, true, false] rfl rfl ?_
  refine jd_loop (fun (g : Unit) => [(0, .ov v), (4, .fn 100 [] []), (1, .v (.int .i64 ((0 : Nat) : Int))), (2, .v (.int .i64 ((l.length : Nat) : Int))), (3, .v (.int .i64 ((k : Nat) : Int))), (10, .v (.bool true)), (11, .v (.bool true))]) (fun (g : Unit) => [.sl v 2 74 (l.map Lbl.d)]) (fun (g : Unit) => True) (fun (g : Unit) => 0) [true, true, false, false] (()) rfl rfl ⟨sk rfl, sk rfl, sk rfl, sk rfl, sk rfl, sk rfl, sk rfl, trivial⟩ HSub.rfl' trivial ?_
  rintro _ _
  refine JD.keep [0, 4, 1, 2, 3, 10, 11] [(0, .ov v), (4, .fn 100 [] []), (1, .v (.int .i64 ((0 : Nat) : Int))), (2, .v (.int .i64 ((l.length : Nat) : Int))), (3, .v (.int .i64 ((k : Nat) : Int))), (10, .v (.bool true)), (11, .v (.bool true))] rfl ?_
  refine JD.norm [.sl v 2 74 (l.map Lbl.d)] rfl ?_
  refine jd_block [true, true, false, false, false] rfl rfl ?_
  refine jd_seq [true, true, false, false, false, false] [true, true, false, false, false, true] rfl rfl rfl ?_
  refine jd_region rfl ?_
  refine od_pu rfl rfl (p_move rfl) ?_
  refine od_pu rfl rfl (p_move rfl) ?_
  refine od_pu rfl rfl (p_sub (c := (((l.length : Nat) : Int) - ((0 : Nat) : Int))) rfl rfl (w64eq (by omega) (by omega))) ?_
  refine od_pu rfl rfl (p_assign rfl) ?_
  refine od_nil rfl ?_
  refine pd_seq ?_
  refine jd_seq [true, true, false, false, false, true, false] [true, true, false, false, false, true, true] rfl rfl rfl ?_
  refine jd_seq [true, true, false, false, false, true, false, false] [true, true, false, false, false, true, false, true] rfl rfl rfl ?_
  refine jd_region rfl ?_
  refine od_pu rfl rfl (p_move rfl) ?_
  refine od_pu rfl rfl (p_leq rfl rfl rfl) ?_
  refine od_nil rfl ?_
  refine pd_seq ?_
  refine jd_cond [true, true, false, false, false, true, false, true, false] [true, true, false, false, false, true, false, true, true] rfl rfl rfl rfl (fun hc1 => ?_) (fun hc1 => ?_)
  · replace hc1 := of_decide_eq_true hc1
    refine jd_seq [true, true, false, false, false, true, false, true, false, false] [true, true, false, false, false, true, false, true, false, true] rfl rfl rfl ?_
    refine jd_region rfl ?_
    refine od_pu rfl rfl (p_move rfl) ?_
    refine od_pu rfl rfl (p_move rfl) ?_
    refine od_pu rfl rfl (p_move rfl) ?_
    refine od_pu rfl rfl (p_move rfl) ?_
    refine od_step rfl rfl (ef_call [.sl v 2 74 (l.map Lbl.d)] [] [] rfl rfl (.cons ArgC.id (.cons ArgC.id (.cons ArgC.id (.cons ArgC.id .nil)))) lend_nil Try.call156 (insortL_c v l 0 l.length (by omega) (by first | exact Nat.le_refl _ | omega) (by omega)) (.inl rfl)) ?_
    rintro _ _ ⟨_, ⟨rfl, rfl⟩, rfl⟩
    refine OpsD.norm [.sl v 2 74 ((isrt cmpLbl 0 l.length l.length (0 + 1) l).map Lbl.d)] rfl ?_
    refine od_nil rfl ?_
    refine pd_seq ?_
    refine jd_ret rfl ?_
    refine pd_seq_ret ?_
    refine pd_block_ret ?_
    refine pd_loop_ret ?_
    refine pd_block_ret ?_
    refine PD.norm [.sl v 2 74 ((isort cmpLbl l).map Lbl.d)] (by rw [isrt_all]) ?_
    exact pd_retH Try.results134 .nil rfl (HSub.fst 1 rfl) ⟨rfl, rfl⟩
  · replace hc1 := of_decide_eq_false hc1
    exfalso; omega

set_option maxHeartbeats 4000000 in
set_option maxRecDepth 100000 in
theorem sortL_c (v : Value) (l : List Lbl) (hl : l.length ≤ 12) :
    CD Try.prog 99 [.sl v 2 74 (l.map Lbl.d)] [.ov v, .fn 100 [] []] (fun r H' => r = .tup [] ∧ H' = [.sl v 2 74 ((isort cmpLbl l).map Lbl.d)]) := by
  refine cd_of_JD Try.func99 rfl (N := 14) rfl rfl (fun C => ?_)
  refine JD.keep [0, 1] [(0, .ov v), (1, .fn 100 [] [])] rfl ?_
  refine jd_seq [false] [true] rfl rfl rfl ?_
  refine jd_region rfl ?_
  refine od_pu rfl rfl (p_move rfl) ?_
  refine od_pu rfl rfl (p_len_own (n := l.length) (j := 0) rfl rfl Try.runUnderlying32 (List.length_map _)) ?_
  refine od_pu rfl rfl (p_assign rfl) ?_
  refine od_nil rfl ?_
  refine pd_seq ?_
  refine jd_region rfl ?_
  refine od_pu rfl rfl (p_move rfl) ?_
  refine od_pu rfl rfl (p_move rfl) ?_
  refine od_pu rfl rfl (p_move rfl) ?_
  refine od_pu rfl rfl (p_cast rfl (c := ((l.length : Nat) : Int)) (cv_3_171 (by omega))) ?_
  refine od_step rfl rfl (ef_call [] [.sl v 2 74 (l.map Lbl.d)] [] rfl rfl (.cons ArgC.id .nil) lend_nil Try.call135 (len_c l.length (by omega)) (.inl rfl)) ?_
  rintro _ _ ⟨_, ⟨k, rfl, rfl⟩, rfl⟩
  refine OpsD.norm [.sl v 2 74 (l.map Lbl.d)] rfl ?_
  refine od_pu rfl rfl (p_move rfl) ?_
  refine od_step rfl rfl (ef_call [.sl v 2 74 (l.map Lbl.d)] [] [] rfl rfl (.cons ArgC.id (.cons ArgC.id (.cons ArgC.id (.cons ArgC.id (.cons ArgC.id .nil))))) lend_nil Try.call134 (pdqL_c v l k (by omega)) (.inl rfl)) ?_
  rintro _ _ ⟨_, ⟨rfl, rfl⟩, rfl⟩
  refine OpsD.norm [.sl v 2 74 ((isort cmpLbl l).map Lbl.d)] rfl ?_
  refine od_nil rfl ?_
  exact pd_endH Try.results99 .nil rfl (HSub.fst 1 rfl) ⟨rfl, rfl⟩

set_option maxHeartbeats 4000000 in
set_option maxRecDepth 100000 in
theorem tidy_c (l : List Lbl)  :
    CD Try.prog 36 [] [.sh 2 (l.map Lbl.d)] (fun r H' => ∃ v0_, r = .tup [.ov v0_, dI (tidyE l)] ∧ H' = [.sl v0_ 2 74 ((tidyL l).map Lbl.d)]) := by
  refine cd_of_JD Try.func36 rfl (N := 53) rfl rfl (fun C => ?_)
  refine JD.keep [0] [(0, .sh 2 (l.map Lbl.d))] rfl ?_
  refine JD.bd 0 rfl (fun bd0 => ?_)
  have nl0 := bd_len bd0
  have hil := isort_len (c := cmpLbl) _ l rfl
  refine jd_seq [false] [true] rfl rfl rfl ?_
  refine jd_region rfl ?_
  refine od_pu rfl rfl (p_assign rfl) ?_
  refine od_pu rfl rfl (p_assign rfl) ?_
  refine od_nil rfl ?_
  refine pd_seq ?_
  refine jd_seq [true, false] [true, true] rfl rfl rfl ?_
  refine jd_seq [true, false, false] [true, false, true] rfl rfl rfl ?_
  refine jd_region rfl ?_
  refine od_pu rfl rfl (p_move rfl) ?_
  refine od_pu rfl rfl (p_len (n := l.length) rfl Try.runUnderlying32 (by simp only [List.length_map, List.length_cons, List.length_nil])) ?_
  refine od_pu rfl rfl (p_gtr rfl rfl rfl) ?_
  refine od_nil rfl ?_
  refine pd_seq ?_
  refine jd_cond [true, false, true, false] [true, false, true, true] rfl rfl rfl rfl (fun hc1 => ?_) (fun hc1 => ?_)
  · replace hc1 := of_decide_eq_true hc1
    refine jd_seq [true, false, true, false, false] [true, false, true, false, true] rfl rfl rfl ?_
    refine jd_region rfl ?_
    refine od_pu rfl rfl (p_assign rfl) ?_
    refine od_pu rfl rfl (p_assign rfl) ?_
    refine od_nil rfl ?_
    refine pd_seq ?_
    refine jd_ret rfl ?_
    refine pd_seq_ret ?_
    refine PD.subH (HSub.nil 2 74) ?_
    refine PD.norm [.sl (.slice none 0 0) 2 74 ((tidyL l).map Lbl.d)] (by have hw : [] = tidyL l := (by first | exact (tidy_long hc1).1 | exact (tidy_long hc1).2); rw [show ([] : List D) = List.map Lbl.d (tidyL l) from congrArg (List.map Lbl.d) hw]) ?_
    refine PD.subH (HSub.fst 1 rfl) ?_
    exact pd_ret Try.results36 (.cons (ro_cv (ro_tmp rfl) (Cv.ov rfl)) (.cons (ro_cv (ro_tmp rfl) (Cv.eq (congrArg (fun n => D.v (.int .i64 n)) (by first | exact (tidy_long hc1).1 | exact (tidy_long hc1).2)))) .nil)) rfl ⟨(.slice none 0 0), rfl, rfl⟩
  · replace hc1 := of_decide_eq_false hc1
    refine jd_skip rfl ?_
    refine pd_seq ?_
    refine jd_seq [true, true, false] [true, true, true] rfl rfl rfl ?_
    refine jd_region rfl ?_
    refine od_pu rfl rfl (p_move rfl) ?_
    refine od_step rfl rfl (ef_call [] _ [] rfl rfl (.cons ArgC.id .nil) lend_nil Try.call98 (cloneL_c l (by omega)) (.inl rfl)) ?_
    rintro _ _ ⟨_, ⟨v2, rfl, rfl⟩, rfl⟩
    refine OpsD.norm [.sl v2 2 74 (l.map Lbl.d)] rfl ?_
    refine od_pu rfl rfl (p_assign rfl) ?_
    refine od_nil rfl ?_
    refine pd_seq ?_
    refine jd_seq [true, true, true, false] [true, true, true, true] rfl rfl rfl ?_
    refine jd_region rfl ?_
    refine od_pu rfl rfl (p_move rfl) ?_
    refine od_step rfl rfl (ef_call [.sl v2 2 74 (l.map Lbl.d)] [] [] rfl rfl (.cons ArgC.id (.cons ArgC.id .nil)) lend_nil Try.call99 (sortL_c v2 l (by omega)) (.inl rfl)) ?_
    rintro _ _ ⟨_, ⟨rfl, rfl⟩, rfl⟩
    refine OpsD.norm [.sl v2 2 74 ((isort cmpLbl l).map Lbl.d)] rfl ?_
    refine od_nil rfl ?_
    refine pd_seq ?_
    refine jd_seq [true, true, true, true, false] [true, true, true, true, true] rfl rfl rfl ?_
    refine jd_seq [true, true, true, true, false, false] [true, true, true, true, false, true] rfl rfl rfl ?_
    refine jd_region rfl ?_
    refine od_pu rfl rfl (p_move rfl) ?_
    refine od_pu rfl rfl (p_len_own (n := (isort cmpLbl l).length) (j := 0) rfl rfl Try.runUnderlying32 (List.length_map _)) ?_
    refine od_pu rfl rfl (p_move rfl) ?_
    refine od_nil rfl ?_
    refine pd_seq ?_
    refine jd_block [true, true, true, true, false, true, false] rfl rfl ?_
    refine jd_loop (fun (g : Nat) => [(4, .ov v2), (14, .ov v2), (15, .v (.int .i64 (((isort cmpLbl l).length : Nat) : Int))), (16, .v (.int .i64 ((g : Nat) : Int)))]) (fun (g : Nat) => [.sl v2 2 74 ((isort cmpLbl l).map Lbl.d)]) (fun (g : Nat) => (tidyB (isort cmpLbl l) = tidyAt (isort cmpLbl l) g)) (fun (g : Nat) => l.length - g) [true, true, true, true, false, true, false, false] 0 rfl rfl ⟨sk rfl, sk rfl, sk rfl, sk rfl, trivial⟩ HSub.rfl' rfl ?_
    rintro k hk
    refine JD.keep [4, 14, 15, 16] [(4, .ov v2), (14, .ov v2), (15, .v (.int .i64 (((isort cmpLbl l).length : Nat) : Int))), (16, .v (.int .i64 ((k : Nat) : Int)))] rfl ?_
    refine JD.norm [.sl v2 2 74 ((isort cmpLbl l).map Lbl.d)] rfl ?_
    refine jd_seq [true, true, true, true, false, true, false, false, false] [true, true, true, true, false, true, false, false, true] rfl rfl rfl ?_
    refine jd_region rfl ?_
    refine od_pu rfl rfl (p_lss rfl rfl rfl) ?_
    refine od_nil rfl ?_
    refine pd_seq ?_
    refine jd_seq [true, true, true, true, false, true, false, false, true, false] [true, true, true, true, false, true, false, false, true, true] rfl rfl rfl ?_
    refine jd_cond [true, true, true, true, false, true, false, false, true, false, false] [true, true, true, true, false, true, false, false, true, false, true] rfl rfl rfl rfl (fun hc3 => ?_) (fun hc3 => ?_)
    · replace hc3 := of_decide_eq_true hc3
      refine jd_skip rfl ?_
      refine pd_seq ?_
      refine jd_seq [true, true, true, true, false, true, false, false, true, true, false] [true, true, true, true, false, true, false, false, true, true, true] rfl rfl rfl ?_
      refine jd_block [true, true, true, true, false, true, false, false, true, true, false, false] rfl rfl ?_
      refine jd_seq [true, true, true, true, false, true, false, false, true, true, false, false, false] [true, true, true, true, false, true, false, false, true, true, false, false, true] rfl rfl rfl ?_
      refine jd_region rfl ?_
      refine od_pu rfl rfl (p_move rfl) ?_
      obtain ⟨x1, hx1⟩ := get_some (isort cmpLbl l) k (by omega)
      refine od_pu rfl rfl (p_indexAddr_sl (k := k) (j := 0) rfl rfl rfl Try.runUnderlying32 Try.sizeOf74 (by first | rfl | omega) (get_map hx1)) ?_
      refine od_pu rfl rfl (p_load_sl (d := Lbl.d x1) rfl (i := 0) rfl (get_map hx1) Try.isAgg74 Try.sizeOf74 rfl rfl) ?_
      refine od_step rfl rfl (ef_alloc (zv := (.agg #[(.string ByteArray.empty), (.string ByteArray.empty)])) Try.zeroValue74 ⟨rfl, rfl, trivial⟩ (Cv.vagg (by decide))) ?_
      rintro _ _ ⟨g4, rfl, rfl⟩
      refine od_pu rfl rfl (p_assign rfl) ?_
      refine od_step rfl rfl (ef_store_bx (i := 0) (X' := Lbl.d x1) rfl rfl rfl (CellD.agg) Try.sizeOf74 rfl rfl rfl) ?_
      rintro _ _ ⟨rfl, rfl⟩
      refine OpsD.norm [.bx g4 74 (Lbl.d x1), .sl v2 2 74 ((isort cmpLbl l).map Lbl.d)] rfl ?_
      refine od_nil rfl ?_
      refine pd_seq ?_
      refine jd_seq [true, true, true, true, false, true, false, false, true, true, false, false, true, false] [true, true, true, true, false, true, false, false, true, true, false, false, true, true] rfl rfl rfl ?_
      rcases Bool.eq_false_or_eq_true (nameB x1.n) with hg5 | hg5
      · skip
        by_cases hg6 : x1.v = ByteArray.empty
        · skip
          refine JD.keep [4, 5, 6, 14, 15, 16, 17, 18, 19, 20] [(4, .ov v2), (5, .v (.int .i64 ((k : Nat) : Int))), (6, .v (.pointer (some ⟨g4, 0, none⟩))), (14, .ov v2), (15, .v (.int .i64 (((isort cmpLbl l).length : Nat) : Int))), (16, .v (.int .i64 ((k : Nat) : Int))), (17, .v (.bool (decide (((k : Nat) : Int) < (((isort cmpLbl l).length : Nat) : Int))))), (18, .v (.int .i64 ((k : Nat) : Int))), (19, .v (.pointer (some ⟨bl v2, k * 2 + 0, none⟩))), (20, Lbl.d x1)] rfl ?_
          refine JD.norm [.bx g4 74 (Lbl.d x1), .sl v2 2 74 ((isort cmpLbl l).map Lbl.d)] rfl ?_
          refine jd_draw 27 [(21, .v (.pointer (some ⟨g4, 0, none⟩)), none), (22, .s x1.n, none), (23, .v (.bool true), none), (24, .v (.bool false), none), (25, .v (.bool false), none), (26, .v (.pointer (some ⟨g4, 1, none⟩)), none), (27, .s x1.v, none), (28, .v (.bool true), none), (29, .v (.bool true), none), (30, .v (.bool true), none), (31, .v undef, none), (32, .v undef, none), (33, .v undef, none), (34, .v undef, none), (35, .v (.bool true), none), (36, .v (.bool true), none), (37, .v undef, none), (38, .v undef, none), (39, .v undef, none), (40, .v undef, none), (41, .v undef, none), (42, .v undef, none), (43, .v undef, none), (44, .v undef, none), (45, .v undef, none), (46, .v undef, none), (47, .v undef, none)] [.bx g4 74 (Lbl.d x1), .sl v2 2 74 ((isort cmpLbl l).map Lbl.d)] (Hn := [.bx g4 74 (Lbl.d x1), .sl v2 2 74 ((isort cmpLbl l).map Lbl.d)]) mixed rfl rfl rfl rfl HSub.rfl' rfl ⟨sa_p rfl rfl rfl (p_fieldAddr rfl fa_74_0 rfl), sa_p rfl rfl rfl (p_load_bx1 rfl (i := 0) rfl Try.isAgg9 rfl), sa_q rfl rfl rfl ((qu_call rfl (.cons Cv.rfl' .nil) Try.call101 (Name_c x1.n) isR_share).cv (Cv.eq (congrArg (fun b => D.v (.bool b)) hg5))), sa_p rfl rfl rfl (p_not (q := true) rfl), sa_p rfl rfl rfl (p_move rfl), sa_qr rfl rfl rfl rfl rfl rfl (p_fieldAddr rfl fa_74_1 rfl).qu, sa_qr rfl rfl rfl rfl rfl rfl (p_load_bx1 rfl (i := 0) rfl Try.isAgg9 rfl).qu, sa_qr rfl rfl rfl rfl rfl rfl (p_eqs rfl rfl (decide_eq_true hg6)).qu, sa_p rfl rfl rfl (p_pick_f rfl rfl), sa_p rfl rfl rfl (p_move rfl), sa_s rfl rfl rfl rfl rfl rfl (by decide), sa_s rfl rfl rfl rfl rfl rfl (by decide), sa_s rfl rfl rfl rfl rfl rfl (by decide), sa_s rfl rfl rfl rfl rfl rfl (by decide), sa_p rfl rfl rfl (p_pick_t rfl rfl), sa_p rfl rfl rfl (p_move rfl), sa_s rfl rfl rfl rfl rfl rfl (by decide), sa_s rfl rfl rfl rfl rfl rfl (by decide), sa_s rfl rfl rfl rfl rfl rfl (by decide), sa_s rfl rfl rfl rfl rfl rfl (by decide), sa_s rfl rfl rfl rfl rfl rfl (by decide), sa_s rfl rfl rfl rfl rfl rfl (by decide), sa_s rfl rfl rfl rfl rfl rfl (by decide), sa_s rfl rfl rfl rfl rfl rfl (by decide), sa_s rfl rfl rfl rfl rfl rfl (by decide), sa_s rfl rfl rfl rfl rfl rfl (by decide), sa_s rfl rfl rfl rfl rfl rfl (by decide), trivial⟩ ?_
          refine OpsD.keep [4, 5, 6, 14, 15, 16, 17, 18, 19, 20, 21, 22, 23, 24, 25, 26, 27, 28, 29, 30, 31, 32, 33, 34, 35, 36, 37, 38, 39, 40, 41, 42, 43, 44, 45, 46, 47] [(4, .ov v2), (5, .v (.int .i64 ((k : Nat) : Int))), (6, .v (.pointer (some ⟨g4, 0, none⟩))), (14, .ov v2), (15, .v (.int .i64 (((isort cmpLbl l).length : Nat) : Int))), (16, .v (.int .i64 ((k : Nat) : Int))), (17, .v (.bool (decide (((k : Nat) : Int) < (((isort cmpLbl l).length : Nat) : Int))))), (18, .v (.int .i64 ((k : Nat) : Int))), (19, .v (.pointer (some ⟨bl v2, k * 2 + 0, none⟩))), (20, Lbl.d x1), (21, .v (.pointer (some ⟨g4, 0, none⟩))), (22, .s x1.n), (23, .v (.bool true)), (24, .v (.bool false)), (25, .v (.bool false)), (26, .v (.pointer (some ⟨g4, 1, none⟩))), (27, .s x1.v), (28, .v (.bool true)), (29, .v (.bool true)), (30, .v (.bool true)), (31, .v undef), (32, .v undef), (33, .v undef), (34, .v undef), (35, .v (.bool true)), (36, .v (.bool true)), (37, .v undef), (38, .v undef), (39, .v undef), (40, .v undef), (41, .v undef), (42, .v undef), (43, .v undef), (44, .v undef), (45, .v undef), (46, .v undef), (47, .v undef)] rfl ?_
          refine od_skip rfl rfl rfl rfl rfl (by decide) ?_
          refine od_skip rfl rfl rfl rfl rfl (by decide) ?_
          refine od_pu rfl rfl (p_pick_t rfl rfl) ?_
          refine od_nil rfl ?_
          refine pd_seq ?_
          refine jd_cond_t [true, true, true, true, false, true, false, false, true, true, false, false, true, true, false] rfl rfl rfl ?_
          refine jd_seq [true, true, true, true, false, true, false, false, true, true, false, false, true, true, false, false] [true, true, true, true, false, true, false, false, true, true, false, false, true, true, false, true] rfl rfl rfl ?_
          refine jd_region rfl ?_
          refine od_pu rfl rfl (p_assign rfl) ?_
          refine od_pu rfl rfl (p_assign rfl) ?_
          refine od_nil rfl ?_
          refine pd_seq ?_
          refine jd_ret rfl ?_
          refine pd_block_ret ?_
          refine pd_seq_ret ?_
          refine pd_loop_ret ?_
          refine pd_block_ret ?_
          refine pd_seq_ret ?_
          refine PD.subH (HSub.nil 2 74) ?_
          refine PD.norm [.sl (.slice none 0 0) 2 74 ((tidyL l).map Lbl.d), .bx g4 74 (Lbl.d x1), .sl v2 2 74 ((isort cmpLbl l).map Lbl.d)] (by have hw : [] = tidyL l := (by first | exact (tidy_bad1 hk hx1 (okL_f2 hg6)).1 | exact (tidy_bad1 hk hx1 (okL_f2 hg6)).2); rw [show ([] : List D) = List.map Lbl.d (tidyL l) from congrArg (List.map Lbl.d) hw]) ?_
          refine PD.subH (HSub.fst 1 rfl) ?_
          exact pd_ret Try.results36 (.cons (ro_cv (ro_tmp rfl) (Cv.ov rfl)) (.cons (ro_cv (ro_tmp rfl) (Cv.eq (congrArg (fun n => D.v (.int .i64 n)) (by first | exact (tidy_bad1 hk hx1 (okL_f2 hg6)).1 | exact (tidy_bad1 hk hx1 (okL_f2 hg6)).2)))) .nil)) rfl ⟨(.slice none 0 0), rfl, rfl⟩
        · skip
          by_cases hg7 : (60 : Int) < ((x1.v.size : Nat) : Int)
          · skip
            refine JD.keep [4, 5, 6, 14, 15, 16, 17, 18, 19, 20] [(4, .ov v2), (5, .v (.int .i64 ((k : Nat) : Int))), (6, .v (.pointer (some ⟨g4, 0, none⟩))), (14, .ov v2), (15, .v (.int .i64 (((isort cmpLbl l).length : Nat) : Int))), (16, .v (.int .i64 ((k : Nat) : Int))), (17, .v (.bool (decide (((k : Nat) : Int) < (((isort cmpLbl l).length : Nat) : Int))))), (18, .v (.int .i64 ((k : Nat) : Int))), (19, .v (.pointer (some ⟨bl v2, k * 2 + 0, none⟩))), (20, Lbl.d x1)] rfl ?_
            refine JD.norm [.bx g4 74 (Lbl.d x1), .sl v2 2 74 ((isort cmpLbl l).map Lbl.d)] rfl ?_
            refine jd_draw 27 [(21, .v (.pointer (some ⟨g4, 0, none⟩)), none), (22, .s x1.n, none), (23, .v (.bool true), none), (24, .v (.bool false), none), (25, .v (.bool false), none), (26, .v (.pointer (some ⟨g4, 1, none⟩)), none), (27, .s x1.v, none), (28, .v (.bool false), none), (29, .v (.bool false), none), (30, .v (.bool false), none), (31, .v (.pointer (some ⟨g4, 1, none⟩)), none), (32, .s x1.v, none), (33, .v (.int .i64 ((x1.v.size : Nat) : Int)), none), (34, .v (.bool true), none), (35, .v (.bool true), none), (36, .v (.bool true), none), (37, .v undef, none), (38, .v undef, none), (39, .v undef, none), (40, .v undef, none), (41, .v undef, none), (42, .v undef, none), (43, .v undef, none), (44, .v undef, none), (45, .v undef, none), (46, .v undef, none), (47, .v undef, none)] [.bx g4 74 (Lbl.d x1), .sl v2 2 74 ((isort cmpLbl l).map Lbl.d)] (Hn := [.bx g4 74 (Lbl.d x1), .sl v2 2 74 ((isort cmpLbl l).map Lbl.d)]) mixed rfl rfl rfl rfl HSub.rfl' rfl ⟨sa_p rfl rfl rfl (p_fieldAddr rfl fa_74_0 rfl), sa_p rfl rfl rfl (p_load_bx1 rfl (i := 0) rfl Try.isAgg9 rfl), sa_q rfl rfl rfl ((qu_call rfl (.cons Cv.rfl' .nil) Try.call101 (Name_c x1.n) isR_share).cv (Cv.eq (congrArg (fun b => D.v (.bool b)) hg5))), sa_p rfl rfl rfl (p_not (q := true) rfl), sa_p rfl rfl rfl (p_move rfl), sa_qr rfl rfl rfl rfl rfl rfl (p_fieldAddr rfl fa_74_1 rfl).qu, sa_qr rfl rfl rfl rfl rfl rfl (p_load_bx1 rfl (i := 0) rfl Try.isAgg9 rfl).qu, sa_qr rfl rfl rfl rfl rfl rfl (p_eqs rfl rfl (decide_eq_false hg6)).qu, sa_p rfl rfl rfl (p_pick_f rfl rfl), sa_p rfl rfl rfl (p_move rfl), sa_qr rfl rfl rfl rfl rfl rfl (p_fieldAddr rfl fa_74_1 rfl).qu, sa_qr rfl rfl rfl rfl rfl rfl (p_load_bx1 rfl (i := 0) rfl Try.isAgg9 rfl).qu, sa_qr rfl rfl rfl rfl rfl rfl (p_len_str rfl Try.runUnderlying9).qu, sa_qr rfl rfl rfl rfl rfl rfl (p_gtr rfl rfl (decide_eq_true hg7)).qu, sa_p rfl rfl rfl (p_pick_f rfl rfl), sa_p rfl rfl rfl (p_move rfl), sa_s rfl rfl rfl rfl rfl rfl (by decide), sa_s rfl rfl rfl rfl rfl rfl (by decide), sa_s rfl rfl rfl rfl rfl rfl (by decide), sa_s rfl rfl rfl rfl rfl rfl (by decide), sa_s rfl rfl rfl rfl rfl rfl (by decide), sa_s rfl rfl rfl rfl rfl rfl (by decide), sa_s rfl rfl rfl rfl rfl rfl (by decide), sa_s rfl rfl rfl rfl rfl rfl (by decide), sa_s rfl rfl rfl rfl rfl rfl (by decide), sa_s rfl rfl rfl rfl rfl rfl (by decide), sa_s rfl rfl rfl rfl rfl rfl (by decide), trivial⟩ ?_
            refine OpsD.keep [4, 5, 6, 14, 15, 16, 17, 18, 19, 20, 21, 22, 23, 24, 25, 26, 27, 28, 29, 30, 31, 32, 33, 34, 35, 36, 37, 38, 39, 40, 41, 42, 43, 44, 45, 46, 47] [(4, .ov v2), (5, .v (.int .i64 ((k : Nat) : Int))), (6, .v (.pointer (some ⟨g4, 0, none⟩))), (14, .ov v2), (15, .v (.int .i64 (((isort cmpLbl l).length : Nat) : Int))), (16, .v (.int .i64 ((k : Nat) : Int))), (17, .v (.bool (decide (((k : Nat) : Int) < (((isort cmpLbl l).length : Nat) : Int))))), (18, .v (.int .i64 ((k : Nat) : Int))), (19, .v (.pointer (some ⟨bl v2, k * 2 + 0, none⟩))), (20, Lbl.d x1), (21, .v (.pointer (some ⟨g4, 0, none⟩))), (22, .s x1.n), (23, .v (.bool true)), (24, .v (.bool false)), (25, .v (.bool false)), (26, .v (.pointer (some ⟨g4, 1, none⟩))), (27, .s x1.v), (28, .v (.bool false)), (29, .v (.bool false)), (30, .v (.bool false)), (31, .v (.pointer (some ⟨g4, 1, none⟩))), (32, .s x1.v), (33, .v (.int .i64 ((x1.v.size : Nat) : Int))), (34, .v (.bool true)), (35, .v (.bool true)), (36, .v (.bool true)), (37, .v undef), (38, .v undef), (39, .v undef), (40, .v undef), (41, .v undef), (42, .v undef), (43, .v undef), (44, .v undef), (45, .v undef), (46, .v undef), (47, .v undef)] rfl ?_
            refine od_skip rfl rfl rfl rfl rfl (by decide) ?_
            refine od_skip rfl rfl rfl rfl rfl (by decide) ?_
            refine od_pu rfl rfl (p_pick_t rfl rfl) ?_
            refine od_nil rfl ?_
            refine pd_seq ?_
            refine jd_cond_t [true, true, true, true, false, true, false, false, true, true, false, false, true, true, false] rfl rfl rfl ?_
            refine jd_seq [true, true, true, true, false, true, false, false, true, true, false, false, true, true, false, false] [true, true, true, true, false, true, false, false, true, true, false, false, true, true, false, true] rfl rfl rfl ?_
            refine jd_region rfl ?_
            refine od_pu rfl rfl (p_assign rfl) ?_
            refine od_pu rfl rfl (p_assign rfl) ?_
            refine od_nil rfl ?_
            refine pd_seq ?_
            refine jd_ret rfl ?_
            refine pd_block_ret ?_
            refine pd_seq_ret ?_
            refine pd_loop_ret ?_
            refine pd_block_ret ?_
            refine pd_seq_ret ?_
            refine PD.subH (HSub.nil 2 74) ?_
            refine PD.norm [.sl (.slice none 0 0) 2 74 ((tidyL l).map Lbl.d), .bx g4 74 (Lbl.d x1), .sl v2 2 74 ((isort cmpLbl l).map Lbl.d)] (by have hw : [] = tidyL l := (by first | exact (tidy_bad1 hk hx1 (okL_f3 hg7)).1 | exact (tidy_bad1 hk hx1 (okL_f3 hg7)).2); rw [show ([] : List D) = List.map Lbl.d (tidyL l) from congrArg (List.map Lbl.d) hw]) ?_
            refine PD.subH (HSub.fst 1 rfl) ?_
            exact pd_ret Try.results36 (.cons (ro_cv (ro_tmp rfl) (Cv.ov rfl)) (.cons (ro_cv (ro_tmp rfl) (Cv.eq (congrArg (fun n => D.v (.int .i64 n)) (by first | exact (tidy_bad1 hk hx1 (okL_f3 hg7)).1 | exact (tidy_bad1 hk hx1 (okL_f3 hg7)).2)))) .nil)) rfl ⟨(.slice none 0 0), rfl, rfl⟩
          · skip
            by_cases hg8 : (0 : Int) < ((k : Nat) : Int)
            · skip
              refine JD.keep [4, 5, 6, 14, 15, 16, 17, 18, 19, 20] [(4, .ov v2), (5, .v (.int .i64 ((k : Nat) : Int))), (6, .v (.pointer (some ⟨g4, 0, none⟩))), (14, .ov v2), (15, .v (.int .i64 (((isort cmpLbl l).length : Nat) : Int))), (16, .v (.int .i64 ((k : Nat) : Int))), (17, .v (.bool (decide (((k : Nat) : Int) < (((isort cmpLbl l).length : Nat) : Int))))), (18, .v (.int .i64 ((k : Nat) : Int))), (19, .v (.pointer (some ⟨bl v2, k * 2 + 0, none⟩))), (20, Lbl.d x1)] rfl ?_
              refine JD.norm [.bx g4 74 (Lbl.d x1), .sl v2 2 74 ((isort cmpLbl l).map Lbl.d)] rfl ?_
              obtain ⟨x2, hx2⟩ := get_some (isort cmpLbl l) (k - 1) (by omega)
              refine jd_draw 27 [(21, .v (.pointer (some ⟨g4, 0, none⟩)), none), (22, .s x1.n, none), (23, .v (.bool true), none), (24, .v (.bool false), none), (25, .v (.bool false), none), (26, .v (.pointer (some ⟨g4, 1, none⟩)), none), (27, .s x1.v, none), (28, .v (.bool false), none), (29, .v (.bool false), none), (30, .v (.bool false), none), (31, .v (.pointer (some ⟨g4, 1, none⟩)), none), (32, .s x1.v, none), (33, .v (.int .i64 ((x1.v.size : Nat) : Int)), none), (34, .v (.bool false), none), (35, .v (.bool false), none), (36, .v (.bool false), none), (37, .v (.int .i64 ((k : Nat) : Int)), none), (38, .v (.bool true), none), (39, .v (.bool true), none), (40, .ov v2, none), (41, .v (.int .i64 ((k : Nat) : Int)), none), (42, .v (.int .i64 ((k - 1 : Nat) : Int)), none), (43, .v (.pointer (some ⟨bl v2, (k - 1) * 2 + 0, none⟩)), none), (44, .v (.pointer (some ⟨bl v2, (k - 1) * 2 + 0, none⟩)), none), (45, .s x2.n, none), (46, .v (.pointer (some ⟨g4, 0, none⟩)), none), (47, .s x1.n, none)] [.bx g4 74 (Lbl.d x1), .sl v2 2 74 ((isort cmpLbl l).map Lbl.d)] (Hn := [.bx g4 74 (Lbl.d x1), .sl v2 2 74 ((isort cmpLbl l).map Lbl.d)]) mixed rfl rfl rfl rfl HSub.rfl' rfl ⟨sa_p rfl rfl rfl (p_fieldAddr rfl fa_74_0 rfl), sa_p rfl rfl rfl (p_load_bx1 rfl (i := 0) rfl Try.isAgg9 rfl), sa_q rfl rfl rfl ((qu_call rfl (.cons Cv.rfl' .nil) Try.call101 (Name_c x1.n) isR_share).cv (Cv.eq (congrArg (fun b => D.v (.bool b)) hg5))), sa_p rfl rfl rfl (p_not (q := true) rfl), sa_p rfl rfl rfl (p_move rfl), sa_qr rfl rfl rfl rfl rfl rfl (p_fieldAddr rfl fa_74_1 rfl).qu, sa_qr rfl rfl rfl rfl rfl rfl (p_load_bx1 rfl (i := 0) rfl Try.isAgg9 rfl).qu, sa_qr rfl rfl rfl rfl rfl rfl (p_eqs rfl rfl (decide_eq_false hg6)).qu, sa_p rfl rfl rfl (p_pick_f rfl rfl), sa_p rfl rfl rfl (p_move rfl), sa_qr rfl rfl rfl rfl rfl rfl (p_fieldAddr rfl fa_74_1 rfl).qu, sa_qr rfl rfl rfl rfl rfl rfl (p_load_bx1 rfl (i := 0) rfl Try.isAgg9 rfl).qu, sa_qr rfl rfl rfl rfl rfl rfl (p_len_str rfl Try.runUnderlying9).qu, sa_qr rfl rfl rfl rfl rfl rfl (p_gtr rfl rfl (decide_eq_false hg7)).qu, sa_p rfl rfl rfl (p_pick_f rfl rfl), sa_p rfl rfl rfl (p_move rfl), sa_qr rfl rfl rfl rfl rfl rfl (p_move rfl).qu, sa_qr rfl rfl rfl rfl rfl rfl (p_gtr rfl rfl (decide_eq_true hg8)).qu, sa_qr rfl rfl rfl rfl rfl rfl (p_move rfl).qu, sa_qr rfl rfl rfl rfl rfl rfl (p_move rfl).qu, sa_qr rfl rfl rfl rfl rfl rfl (p_move rfl).qu, sa_qr rfl rfl rfl rfl rfl rfl (p_sub (c := ((k - 1 : Nat) : Int)) rfl rfl (w64eq (by omega) (by omega))).qu, sa_qr rfl rfl rfl rfl rfl rfl (p_indexAddr_sl (k := k - 1) (j := 1) rfl rfl rfl Try.runUnderlying32 Try.sizeOf74 (by first | rfl | omega) (get_map hx2)).qu, sa_qr rfl rfl rfl rfl rfl rfl (p_fieldAddr rfl fa_74_0 rfl).qu, sa_qr rfl rfl rfl rfl rfl rfl (p_load_sl1 rfl (i := 1) rfl (get_map hx2) Try.isAgg9 rfl).qu, sa_qr rfl rfl rfl rfl rfl rfl (p_fieldAddr rfl fa_74_0 rfl).qu, sa_qr rfl rfl rfl rfl rfl rfl (p_load_bx1 rfl (i := 0) rfl Try.isAgg9 rfl).qu, trivial⟩ ?_
              refine OpsD.keep [4, 5, 6, 14, 15, 16, 17, 18, 19, 20, 21, 22, 23, 24, 25, 26, 27, 28, 29, 30, 31, 32, 33, 34, 35, 36, 37, 38, 39, 40, 41, 42, 43, 44, 45, 46, 47] [(4, .ov v2), (5, .v (.int .i64 ((k : Nat) : Int))), (6, .v (.pointer (some ⟨g4, 0, none⟩))), (14, .ov v2), (15, .v (.int .i64 (((isort cmpLbl l).length : Nat) : Int))), (16, .v (.int .i64 ((k : Nat) : Int))), (17, .v (.bool (decide (((k : Nat) : Int) < (((isort cmpLbl l).length : Nat) : Int))))), (18, .v (.int .i64 ((k : Nat) : Int))), (19, .v (.pointer (some ⟨bl v2, k * 2 + 0, none⟩))), (20, Lbl.d x1), (21, .v (.pointer (some ⟨g4, 0, none⟩))), (22, .s x1.n), (23, .v (.bool true)), (24, .v (.bool false)), (25, .v (.bool false)), (26, .v (.pointer (some ⟨g4, 1, none⟩))), (27, .s x1.v), (28, .v (.bool false)), (29, .v (.bool false)), (30, .v (.bool false)), (31, .v (.pointer (some ⟨g4, 1, none⟩))), (32, .s x1.v), (33, .v (.int .i64 ((x1.v.size : Nat) : Int))), (34, .v (.bool false)), (35, .v (.bool false)), (36, .v (.bool false)), (37, .v (.int .i64 ((k : Nat) : Int))), (38, .v (.bool true)), (39, .v (.bool true)), (40, .ov v2), (41, .v (.int .i64 ((k : Nat) : Int))), (42, .v (.int .i64 ((k - 1 : Nat) : Int))), (43, .v (.pointer (some ⟨bl v2, (k - 1) * 2 + 0, none⟩))), (44, .v (.pointer (some ⟨bl v2, (k - 1) * 2 + 0, none⟩))), (45, .s x2.n), (46, .v (.pointer (some ⟨g4, 0, none⟩))), (47, .s x1.n)] rfl ?_
              refine od_runp rfl rfl rfl rfl rfl (p_eqs rfl rfl rfl) ?_
              refine od_runp rfl rfl rfl rfl rfl (p_pick_t rfl rfl) ?_
              refine od_pu rfl rfl (p_pick_f rfl rfl) ?_
              refine od_nil rfl ?_
              refine pd_seq ?_
              refine jd_cond [true, true, true, true, false, true, false, false, true, true, false, false, true, true, false] [true, true, true, true, false, true, false, false, true, true, false, false, true, true, true] rfl rfl rfl rfl (fun hc9 => ?_) (fun hc9 => ?_)
              · replace hc9 := of_decide_eq_true hc9
                refine jd_seq [true, true, true, true, false, true, false, false, true, true, false, false, true, true, false, false] [true, true, true, true, false, true, false, false, true, true, false, false, true, true, false, true] rfl rfl rfl ?_
                refine jd_region rfl ?_
                refine od_pu rfl rfl (p_assign rfl) ?_
                refine od_pu rfl rfl (p_assign rfl) ?_
                refine od_nil rfl ?_
                refine pd_seq ?_
                refine jd_ret rfl ?_
                refine pd_block_ret ?_
                refine pd_seq_ret ?_
                refine pd_loop_ret ?_
                refine pd_block_ret ?_
                refine pd_seq_ret ?_
                refine PD.subH (HSub.nil 2 74) ?_
                refine PD.norm [.sl (.slice none 0 0) 2 74 ((tidyL l).map Lbl.d), .bx g4 74 (Lbl.d x1), .sl v2 2 74 ((isort cmpLbl l).map Lbl.d)] (by have hw : [] = tidyL l := (by first | exact (tidy_bad2 hk hx1 (prevN_pos hg8 hx2) hc9).1 | exact (tidy_bad2 hk hx1 (prevN_pos hg8 hx2) hc9).2); rw [show ([] : List D) = List.map Lbl.d (tidyL l) from congrArg (List.map Lbl.d) hw]) ?_
                refine PD.subH (HSub.fst 1 rfl) ?_
                exact pd_ret Try.results36 (.cons (ro_cv (ro_tmp rfl) (Cv.ov rfl)) (.cons (ro_cv (ro_tmp rfl) (Cv.eq (congrArg (fun n => D.v (.int .i64 n)) (by first | exact (tidy_bad2 hk hx1 (prevN_pos hg8 hx2) hc9).1 | exact (tidy_bad2 hk hx1 (prevN_pos hg8 hx2) hc9).2)))) .nil)) rfl ⟨(.slice none 0 0), rfl, rfl⟩
              · replace hc9 := of_decide_eq_false hc9
                refine jd_skip rfl ?_
                refine pd_block ?_
                refine pd_seq ?_
                refine jd_region rfl ?_
                refine od_pu rfl rfl (p_add (c := ((k + 1 : Nat) : Int)) rfl rfl (w64eq (by omega) (by omega))) ?_
                refine od_pu rfl rfl (p_move rfl) ?_
                refine od_nil rfl ?_
                exact pd_loop (k + 1) ⟨sk rfl, sk rfl, sk rfl, sk rfl, trivial⟩ (HSub.lst 1 rfl) (tidy_step hk hx1 (okL_t hg5 hg6 hg7) (prevN_pos hg8 hx2) hc9) (by omega)
            · skip
              refine JD.keep [4, 5, 6, 14, 15, 16, 17, 18, 19, 20] [(4, .ov v2), (5, .v (.int .i64 ((k : Nat) : Int))), (6, .v (.pointer (some ⟨g4, 0, none⟩))), (14, .ov v2), (15, .v (.int .i64 (((isort cmpLbl l).length : Nat) : Int))), (16, .v (.int .i64 ((k : Nat) : Int))), (17, .v (.bool (decide (((k : Nat) : Int) < (((isort cmpLbl l).length : Nat) : Int))))), (18, .v (.int .i64 ((k : Nat) : Int))), (19, .v (.pointer (some ⟨bl v2, k * 2 + 0, none⟩))), (20, Lbl.d x1)] rfl ?_
              refine JD.norm [.bx g4 74 (Lbl.d x1), .sl v2 2 74 ((isort cmpLbl l).map Lbl.d)] rfl ?_
              refine jd_draw 27 [(21, .v (.pointer (some ⟨g4, 0, none⟩)), none), (22, .s x1.n, none), (23, .v (.bool true), none), (24, .v (.bool false), none), (25, .v (.bool false), none), (26, .v (.pointer (some ⟨g4, 1, none⟩)), none), (27, .s x1.v, none), (28, .v (.bool false), none), (29, .v (.bool false), none), (30, .v (.bool false), none), (31, .v (.pointer (some ⟨g4, 1, none⟩)), none), (32, .s x1.v, none), (33, .v (.int .i64 ((x1.v.size : Nat) : Int)), none), (34, .v (.bool false), none), (35, .v (.bool false), none), (36, .v (.bool false), none), (37, .v (.int .i64 ((k : Nat) : Int)), none), (38, .v (.bool false), none), (39, .v (.bool false), none), (40, .v undef, none), (41, .v undef, none), (42, .v undef, none), (43, .v undef, none), (44, .v undef, none), (45, .v undef, none), (46, .v undef, none), (47, .v undef, none)] [.bx g4 74 (Lbl.d x1), .sl v2 2 74 ((isort cmpLbl l).map Lbl.d)] (Hn := [.bx g4 74 (Lbl.d x1), .sl v2 2 74 ((isort cmpLbl l).map Lbl.d)]) mixed rfl rfl rfl rfl HSub.rfl' rfl ⟨sa_p rfl rfl rfl (p_fieldAddr rfl fa_74_0 rfl), sa_p rfl rfl rfl (p_load_bx1 rfl (i := 0) rfl Try.isAgg9 rfl), sa_q rfl rfl rfl ((qu_call rfl (.cons Cv.rfl' .nil) Try.call101 (Name_c x1.n) isR_share).cv (Cv.eq (congrArg (fun b => D.v (.bool b)) hg5))), sa_p rfl rfl rfl (p_not (q := true) rfl), sa_p rfl rfl rfl (p_move rfl), sa_qr rfl rfl rfl rfl rfl rfl (p_fieldAddr rfl fa_74_1 rfl).qu, sa_qr rfl rfl rfl rfl rfl rfl (p_load_bx1 rfl (i := 0) rfl Try.isAgg9 rfl).qu, sa_qr rfl rfl rfl rfl rfl rfl (p_eqs rfl rfl (decide_eq_false hg6)).qu, sa_p rfl rfl rfl (p_pick_f rfl rfl), sa_p rfl rfl rfl (p_move rfl), sa_qr rfl rfl rfl rfl rfl rfl (p_fieldAddr rfl fa_74_1 rfl).qu, sa_qr rfl rfl rfl rfl rfl rfl (p_load_bx1 rfl (i := 0) rfl Try.isAgg9 rfl).qu, sa_qr rfl rfl rfl rfl rfl rfl (p_len_str rfl Try.runUnderlying9).qu, sa_qr rfl rfl rfl rfl rfl rfl (p_gtr rfl rfl (decide_eq_false hg7)).qu, sa_p rfl rfl rfl (p_pick_f rfl rfl), sa_p rfl rfl rfl (p_move rfl), sa_qr rfl rfl rfl rfl rfl rfl (p_move rfl).qu, sa_qr rfl rfl rfl rfl rfl rfl (p_gtr rfl rfl (decide_eq_false hg8)).qu, sa_qr rfl rfl rfl rfl rfl rfl (p_move rfl).qu, sa_s rfl rfl rfl rfl rfl rfl (by decide), sa_s rfl rfl rfl rfl rfl rfl (by decide), sa_s rfl rfl rfl rfl rfl rfl (by decide), sa_s rfl rfl rfl rfl rfl rfl (by decide), sa_s rfl rfl rfl rfl rfl rfl (by decide), sa_s rfl rfl rfl rfl rfl rfl (by decide), sa_s rfl rfl rfl rfl rfl rfl (by decide), sa_s rfl rfl rfl rfl rfl rfl (by decide), trivial⟩ ?_
              refine OpsD.keep [4, 5, 6, 14, 15, 16, 17, 18, 19, 20, 21, 22, 23, 24, 25, 26, 27, 28, 29, 30, 31, 32, 33, 34, 35, 36, 37, 38, 39, 40, 41, 42, 43, 44, 45, 46, 47] [(4, .ov v2), (5, .v (.int .i64 ((k : Nat) : Int))), (6, .v (.pointer (some ⟨g4, 0, none⟩))), (14, .ov v2), (15, .v (.int .i64 (((isort cmpLbl l).length : Nat) : Int))), (16, .v (.int .i64 ((k : Nat) : Int))), (17, .v (.bool (decide (((k : Nat) : Int) < (((isort cmpLbl l).length : Nat) : Int))))), (18, .v (.int .i64 ((k : Nat) : Int))), (19, .v (.pointer (some ⟨bl v2, k * 2 + 0, none⟩))), (20, Lbl.d x1), (21, .v (.pointer (some ⟨g4, 0, none⟩))), (22, .s x1.n), (23, .v (.bool true)), (24, .v (.bool false)), (25, .v (.bool false)), (26, .v (.pointer (some ⟨g4, 1, none⟩))), (27, .s x1.v), (28, .v (.bool false)), (29, .v (.bool false)), (30, .v (.bool false)), (31, .v (.pointer (some ⟨g4, 1, none⟩))), (32, .s x1.v), (33, .v (.int .i64 ((x1.v.size : Nat) : Int))), (34, .v (.bool false)), (35, .v (.bool false)), (36, .v (.bool false)), (37, .v (.int .i64 ((k : Nat) : Int))), (38, .v (.bool false)), (39, .v (.bool false)), (40, .v undef), (41, .v undef), (42, .v undef), (43, .v undef), (44, .v undef), (45, .v undef), (46, .v undef), (47, .v undef)] rfl ?_
              refine od_skip rfl rfl rfl rfl rfl (by decide) ?_
              refine od_runp rfl rfl rfl rfl rfl (p_pick_f rfl rfl) ?_
              refine od_pu rfl rfl (p_pick_f rfl rfl) ?_
              refine od_nil rfl ?_
              refine pd_seq ?_
              refine jd_cond_f [true, true, true, true, false, true, false, false, true, true, false, false, true, true, true] rfl rfl rfl ?_
              refine jd_skip rfl ?_
              refine pd_block ?_
              refine pd_seq ?_
              refine jd_region rfl ?_
              refine od_pu rfl rfl (p_add (c := ((k + 1 : Nat) : Int)) rfl rfl (w64eq (by omega) (by omega))) ?_
              refine od_pu rfl rfl (p_move rfl) ?_
              refine od_nil rfl ?_
              exact pd_loop (k + 1) ⟨sk rfl, sk rfl, sk rfl, sk rfl, trivial⟩ (HSub.lst 1 rfl) (tidy_step0 hk hx1 (okL_t hg5 hg6 hg7) (prevN_zero hg8)) (by omega)
      · skip
        refine JD.keep [4, 5, 6, 14, 15, 16, 17, 18, 19, 20] [(4, .ov v2), (5, .v (.int .i64 ((k : Nat) : Int))), (6, .v (.pointer (some ⟨g4, 0, none⟩))), (14, .ov v2), (15, .v (.int .i64 (((isort cmpLbl l).length : Nat) : Int))), (16, .v (.int .i64 ((k : Nat) : Int))), (17, .v (.bool (decide (((k : Nat) : Int) < (((isort cmpLbl l).length : Nat) : Int))))), (18, .v (.int .i64 ((k : Nat) : Int))), (19, .v (.pointer (some ⟨bl v2, k * 2 + 0, none⟩))), (20, Lbl.d x1)] rfl ?_
        refine JD.norm [.bx g4 74 (Lbl.d x1), .sl v2 2 74 ((isort cmpLbl l).map Lbl.d)] rfl ?_
        refine jd_draw 27 [(21, .v (.pointer (some ⟨g4, 0, none⟩)), none), (22, .s x1.n, none), (23, .v (.bool false), none), (24, .v (.bool true), none), (25, .v (.bool true), none), (26, .v undef, none), (27, .v undef, none), (28, .v undef, none), (29, .v (.bool true), none), (30, .v (.bool true), none), (31, .v undef, none), (32, .v undef, none), (33, .v undef, none), (34, .v undef, none), (35, .v (.bool true), none), (36, .v (.bool true), none), (37, .v undef, none), (38, .v undef, none), (39, .v undef, none), (40, .v undef, none), (41, .v undef, none), (42, .v undef, none), (43, .v undef, none), (44, .v undef, none), (45, .v undef, none), (46, .v undef, none), (47, .v undef, none)] [.bx g4 74 (Lbl.d x1), .sl v2 2 74 ((isort cmpLbl l).map Lbl.d)] (Hn := [.bx g4 74 (Lbl.d x1), .sl v2 2 74 ((isort cmpLbl l).map Lbl.d)]) mixed rfl rfl rfl rfl HSub.rfl' rfl ⟨sa_p rfl rfl rfl (p_fieldAddr rfl fa_74_0 rfl), sa_p rfl rfl rfl (p_load_bx1 rfl (i := 0) rfl Try.isAgg9 rfl), sa_q rfl rfl rfl ((qu_call rfl (.cons Cv.rfl' .nil) Try.call101 (Name_c x1.n) isR_share).cv (Cv.eq (congrArg (fun b => D.v (.bool b)) hg5))), sa_p rfl rfl rfl (p_not (q := false) rfl), sa_p rfl rfl rfl (p_move rfl), sa_s rfl rfl rfl rfl rfl rfl (by decide), sa_s rfl rfl rfl rfl rfl rfl (by decide), sa_s rfl rfl rfl rfl rfl rfl (by decide), sa_p rfl rfl rfl (p_pick_t rfl rfl), sa_p rfl rfl rfl (p_move rfl), sa_s rfl rfl rfl rfl rfl rfl (by decide), sa_s rfl rfl rfl rfl rfl rfl (by decide), sa_s rfl rfl rfl rfl rfl rfl (by decide), sa_s rfl rfl rfl rfl rfl rfl (by decide), sa_p rfl rfl rfl (p_pick_t rfl rfl), sa_p rfl rfl rfl (p_move rfl), sa_s rfl rfl rfl rfl rfl rfl (by decide), sa_s rfl rfl rfl rfl rfl rfl (by decide), sa_s rfl rfl rfl rfl rfl rfl (by decide), sa_s rfl rfl rfl rfl rfl rfl (by decide), sa_s rfl rfl rfl rfl rfl rfl (by decide), sa_s rfl rfl rfl rfl rfl rfl (by decide), sa_s rfl rfl rfl rfl rfl rfl (by decide), sa_s rfl rfl rfl rfl rfl rfl (by decide), sa_s rfl rfl rfl rfl rfl rfl (by decide), sa_s rfl rfl rfl rfl rfl rfl (by decide), sa_s rfl rfl rfl rfl rfl rfl (by decide), trivial⟩ ?_
        refine OpsD.keep [4, 5, 6, 14, 15, 16, 17, 18, 19, 20, 21, 22, 23, 24, 25, 26, 27, 28, 29, 30, 31, 32, 33, 34, 35, 36, 37, 38, 39, 40, 41, 42, 43, 44, 45, 46, 47] [(4, .ov v2), (5, .v (.int .i64 ((k : Nat) : Int))), (6, .v (.pointer (some ⟨g4, 0, none⟩))), (14, .ov v2), (15, .v (.int .i64 (((isort cmpLbl l).length : Nat) : Int))), (16, .v (.int .i64 ((k : Nat) : Int))), (17, .v (.bool (decide (((k : Nat) : Int) < (((isort cmpLbl l).length : Nat) : Int))))), (18, .v (.int .i64 ((k : Nat) : Int))), (19, .v (.pointer (some ⟨bl v2, k * 2 + 0, none⟩))), (20, Lbl.d x1), (21, .v (.pointer (some ⟨g4, 0, none⟩))), (22, .s x1.n), (23, .v (.bool false)), (24, .v (.bool true)), (25, .v (.bool true)), (26, .v undef), (27, .v undef), (28, .v undef), (29, .v (.bool true)), (30, .v (.bool true)), (31, .v undef), (32, .v undef), (33, .v undef), (34, .v undef), (35, .v (.bool true)), (36, .v (.bool true)), (37, .v undef), (38, .v undef), (39, .v undef), (40, .v undef), (41, .v undef), (42, .v undef), (43, .v undef), (44, .v undef), (45, .v undef), (46, .v undef), (47, .v undef)] rfl ?_
        refine od_skip rfl rfl rfl rfl rfl (by decide) ?_
        refine od_skip rfl rfl rfl rfl rfl (by decide) ?_
        refine od_pu rfl rfl (p_pick_t rfl rfl) ?_
        refine od_nil rfl ?_
        refine pd_seq ?_
        refine jd_cond_t [true, true, true, true, false, true, false, false, true, true, false, false, true, true, false] rfl rfl rfl ?_
        refine jd_seq [true, true, true, true, false, true, false, false, true, true, false, false, true, true, false, false] [true, true, true, true, false, true, false, false, true, true, false, false, true, true, false, true] rfl rfl rfl ?_
        refine jd_region rfl ?_
        refine od_pu rfl rfl (p_assign rfl) ?_
        refine od_pu rfl rfl (p_assign rfl) ?_
        refine od_nil rfl ?_
        refine pd_seq ?_
        refine jd_ret rfl ?_
        refine pd_block_ret ?_
        refine pd_seq_ret ?_
        refine pd_loop_ret ?_
        refine pd_block_ret ?_
        refine pd_seq_ret ?_
        refine PD.subH (HSub.nil 2 74) ?_
        refine PD.norm [.sl (.slice none 0 0) 2 74 ((tidyL l).map Lbl.d), .bx g4 74 (Lbl.d x1), .sl v2 2 74 ((isort cmpLbl l).map Lbl.d)] (by have hw : [] = tidyL l := (by first | exact (tidy_bad1 hk hx1 (okL_f1 hg5)).1 | exact (tidy_bad1 hk hx1 (okL_f1 hg5)).2); rw [show ([] : List D) = List.map Lbl.d (tidyL l) from congrArg (List.map Lbl.d) hw]) ?_
        refine PD.subH (HSub.fst 1 rfl) ?_
        exact pd_ret Try.results36 (.cons (ro_cv (ro_tmp rfl) (Cv.ov rfl)) (.cons (ro_cv (ro_tmp rfl) (Cv.eq (congrArg (fun n => D.v (.int .i64 n)) (by first | exact (tidy_bad1 hk hx1 (okL_f1 hg5)).1 | exact (tidy_bad1 hk hx1 (okL_f1 hg5)).2)))) .nil)) rfl ⟨(.slice none 0 0), rfl, rfl⟩
    · replace hc3 := of_decide_eq_false hc3
      refine jd_exit rfl ?_
      refine pd_seq_exit ?_
      refine pd_loop_exit ?_
      refine pd_block_exit ?_
      refine pd_seq ?_
      refine jd_seq [true, true, true, true, true, false] [true, true, true, true, true, true] rfl rfl rfl ?_
      refine jd_region rfl ?_
      refine od_pu rfl rfl (p_move rfl) ?_
      refine od_pu rfl rfl (p_assign rfl) ?_
      refine od_pu rfl rfl (p_assign rfl) ?_
      refine od_nil rfl ?_
      refine pd_seq ?_
      refine jd_ret rfl ?_
      refine PD.norm [.sl v2 2 74 ((tidyL l).map Lbl.d)] (by have hw : (isort cmpLbl l) = tidyL l := (by first | exact (tidy_good hk (by omega) (by omega)).1 | exact (tidy_good hk (by omega) (by omega)).2); rw [hw]) ?_
      refine PD.subH (HSub.fst 1 rfl) ?_
      exact pd_ret Try.results36 (.cons (ro_tmp rfl) (.cons (ro_cv (ro_tmp rfl) (Cv.eq (congrArg (fun n => D.v (.int .i64 n)) (by first | exact (tidy_good hk (by omega) (by omega)).1 | exact (tidy_good hk (by omega) (by omega)).2)))) .nil)) rfl ⟨v2, rfl, rfl⟩
end Lp
