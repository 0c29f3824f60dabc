/- Walks, printed by a program of mine (wip/tools/dw.py): each theorem says what a function of the translation hands back. -/
import Derived.Test.YtjhkajkickngmaaV4
import Derived.Test.YtjhkajkickngmaaPText
import Derived.Test.YtjhkajkickngmaaDJ
set_option linter.unusedSimpArgs false
set_option linter.unusedVariables false
namespace Lp
open Go Go.RowKit Go.Proofs

namespace HdV8
theorem cv_21_207 {a : Int} (h : 0 ≤ a ∧ a ≤ 4294967295) : ∀ w, (convert 21 207 (.int .i32 a)).run Try.prog w = .ok (.int .u32 a) w := fun w => by
  have e : IntKind.u32.wrap a = a := by simp [IntKind.wrap, IntKind.bits, IntKind.signed]; omega
  simp [convert, run_underlying (show Try.prog.underlying 21 = some _ by kernel_rfl), run_underlying (show Try.prog.underlying 207 = some _ by kernel_rfl), Conv.intToInt, e]
theorem fa_178_1 (b o : Nat) : ∀ w, (Instr.fieldAt 178 (.pointer (some ⟨b, o, none⟩)) 1).run Try.prog w = .ok (.pointer (some ⟨b, o + 1, none⟩)) w := fun _ => by kernel_rfl
theorem infz_5 : ∃ i, Try.prog.info? 5 = some i ∧ i.zero = some (.int .u8 0) ∧ i.size = 1 ∧ i.bytes = 1 := infz_of (by kernel_rfl)
theorem und_176 : Try.prog.underlying 176 = some (.slice 5) := by kernel_rfl
end HdV8
open HdV8

theorem cvm_21_5 (a : Nat) : ∀ w, (convert 21 5 (.int .i32 (a : Int))).run Try.prog w = .ok (.int .u8 ((a % 256 : Nat) : Int)) w := fun w => by
  have e : IntKind.u8.wrap (a : Int) = ((a % 256 : Nat) : Int) := by simp [IntKind.wrap, IntKind.bits, IntKind.signed]
  simp [convert, run_underlying (show Try.prog.underlying 21 = some _ by kernel_rfl), run_underlying (show Try.prog.underlying 5 = some _ by kernel_rfl), Conv.intToInt, e]

set_option maxHeartbeats 4000000 in
set_option maxRecDepth 100000 in
theorem appNA_c (v : Value) (bs : List UInt8) (x : Nat) (h1 : 127 < x) (h2 : x < 2147483648) (hl : bs.length ≤ 1000000000000) :
    CD Try.prog 183 [.sl v 1 5 (bs.map dU8)] [.ov v, .v (.int .i32 ((x : Nat) : Int))] (fun r H' => ∃ v', r = .ov v' ∧ H' = [.sl v' 1 5 ((bs ++ encR x).map dU8)]) := by
  refine cd_of_JD Try.func183 rfl (N := 78) rfl rfl (fun C => ?_)
  refine JD.keep [0, 1] [(0, .ov v), (1, .v (.int .i32 ((x : Nat) : Int)))] rfl ?_
  refine jd_seq [false] [true] rfl rfl rfl ?_
  refine jd_region rfl ?_
  refine od_pu rfl rfl (p_assign rfl) ?_
  refine od_nil rfl ?_
  refine pd_seq ?_
  refine jd_seq [true, false] [true, true] rfl rfl rfl ?_
  refine jd_region rfl ?_
  refine od_pu rfl rfl (p_move rfl) ?_
  refine od_pu rfl rfl (p_cast rfl (c := ((x : Nat) : Int)) (cv_21_207 (by omega))) ?_
  refine od_pu rfl rfl (p_assign rfl) ?_
  refine od_nil rfl ?_
  refine pd_seq ?_
  refine jd_block [true, true, false] rfl rfl ?_
  refine jd_seq [true, true, false, false] [true, true, false, true] rfl rfl rfl ?_
  refine jd_region rfl ?_
  refine od_pu rfl rfl (p_move rfl) ?_
  refine od_pu rfl rfl (p_leq rfl rfl rfl) ?_
  refine od_pu rfl rfl (p_assign rfl) ?_
  refine od_nil rfl ?_
  refine pd_seq ?_
  refine jd_cond [true, true, false, true, false] [true, true, false, true, true] rfl rfl rfl rfl (fun hc1 => ?_) (fun hc1 => ?_)
  · replace hc1 := of_decide_eq_true hc1
    refine jd_seq [true, true, false, true, false, false] [true, true, false, true, false, true] rfl rfl rfl ?_
    refine jd_region rfl ?_
    refine od_pu rfl rfl (p_move rfl) ?_
    refine od_pu rfl rfl (p_move rfl) ?_
    refine od_pu rfl rfl (p_shr (a := x) (n := 6) (m := 64) rfl rfl (by decide) (by decide)) ?_
    refine od_pu rfl rfl (p_cast rfl (c := (((x / 64) % 256 : Nat) : Int)) (cvm_21_5 _)) ?_
    refine od_pu rfl rfl (p_or8 (a := 192) (b := (x / 64) % 256) rfl rfl (by decide) (by omega) (or192 _ (by omega))) ?_
    refine od_pu rfl rfl (p_move rfl) ?_
    refine od_pu rfl rfl (p_cast rfl (c := ((x % 256 : Nat) : Int)) (cvm_21_5 _)) ?_
    refine od_pu rfl rfl (p_and8 (a := x % 256) (b := 63) rfl rfl (by omega) (by decide) (and63 _)) ?_
    refine od_pu rfl rfl (p_or8 (a := 128) (b := (x % 256) % 64) rfl rfl (by decide) (by omega) (or128 _ (by omega))) ?_
    refine od_step rfl rfl (ef_buildSlice [.tmp 18, .tmp 22] rfl rfl (.cons (CellD.v rfl) (.cons (CellD.v rfl) .nil)) rfl Try.runUnderlying176 Try.sizeOf5 Try.zeroValue5 rfl rfl rfl rfl) ?_
    rintro _ _ ⟨g2, rfl, rfl⟩
    refine OpsD.subH (HSub.turn (h' := .sl (.slice (some ⟨g2, 0, none⟩) 2 2) 1 5 ([(UInt8.ofNat (192 + ((x / 64) % 256))), (UInt8.ofNat (128 + ((x % 256) % 64)))].map dU8)) rfl (Hp.cvs_sl (.cons (Cv.eq (u8_eq rfl (by omega))) (.cons (Cv.eq (u8_eq rfl (by omega))) .nil)))) ?_
    refine od_step rfl rfl (ef_append_m (f := dU8) (l := bs) (l' := [(UInt8.ofNat (192 + ((x / 64) % 256))), (UInt8.ofNat (128 + ((x % 256) % 64)))]) (i := 1) rfl rfl rfl (SrcD.own (j := 0) rfl rfl) und_176 infz_5 rfl rfl (by unfold maxLen; (try simp only [List.length_append, List.length_cons, List.length_nil, List.length_map, List.length_take, List.length_drop, List.length_set, List.length_replicate]); omega) (by (try simp only [List.length_append, List.length_cons, List.length_nil, List.length_map, List.length_take, List.length_drop, List.length_set, List.length_replicate]); omega)) ?_
    rintro _ _ ⟨v3, rfl, rfl⟩
    refine OpsD.norm [.sl (.slice (some ⟨g2, 0, none⟩) 2 2) 1 5 ([(UInt8.ofNat (192 + ((x / 64) % 256))), (UInt8.ofNat (128 + ((x % 256) % 64)))].map dU8), .sl v3 1 5 ((bs ++ [(UInt8.ofNat (192 + ((x / 64) % 256))), (UInt8.ofNat (128 + ((x % 256) % 64)))]).map dU8)] rfl ?_
    refine od_pu rfl rfl (p_assign rfl) ?_
    refine od_nil rfl ?_
    refine pd_seq ?_
    refine JD.keep [4] [(4, .ov v3)] rfl ?_
    refine jd_ret rfl ?_
    refine pd_block_ret ?_
    refine PD.subH (HSub.perm (perm_front (i := 1) rfl)) ?_
    refine PD.norm [.sl v3 1 5 ((bs ++ [(UInt8.ofNat (192 + ((x / 64) % 256))), (UInt8.ofNat (128 + ((x % 256) % 64)))]).map dU8), .sl (.slice (some ⟨g2, 0, none⟩) 2 2) 1 5 ([(UInt8.ofNat (192 + ((x / 64) % 256))), (UInt8.ofNat (128 + ((x % 256) % 64)))].map dU8)] rfl ?_
    refine PD.norm [.sl v3 1 5 ((bs ++ encR x).map dU8), .sl (.slice (some ⟨g2, 0, none⟩) 2 2) 1 5 ([(UInt8.ofNat (192 + ((x / 64) % 256))), (UInt8.ofNat (128 + ((x % 256) % 64)))].map dU8)] (by first | (exfalso; omega) | skip; unfold encR; first | rw [if_neg (by omega), if_pos (by omega)] | rw [if_neg (by omega), if_neg (by omega), if_pos (by omega)] | rw [if_neg (by omega), if_neg (by omega), if_neg (by omega), if_pos (by omega)] | rw [if_neg (by omega), if_neg (by omega), if_neg (by omega), if_neg (by omega)]) ?_
    exact pd_retH Try.results183 (.cons (ro_tmp rfl) .nil) rfl (HSub.fst 1 rfl) ⟨v3, rfl, rfl⟩
  · replace hc1 := of_decide_eq_false hc1
    refine jd_seq [true, true, false, true, true, false] [true, true, false, true, true, true] rfl rfl rfl ?_
    refine jd_seq [true, true, false, true, true, false, false] [true, true, false, true, true, false, true] rfl rfl rfl ?_
    refine jd_region rfl ?_
    refine od_pu rfl rfl (p_move rfl) ?_
    refine od_pu rfl rfl (p_lss rfl rfl rfl) ?_
    refine od_pu rfl rfl (p_assign rfl) ?_
    refine od_nil rfl ?_
    refine pd_seq ?_
    refine jd_cond [true, true, false, true, true, false, true, false] [true, true, false, true, true, false, true, true] rfl rfl rfl rfl (fun hc4 => ?_) (fun hc4 => ?_)
    · replace hc4 := of_decide_eq_true hc4
      refine jd_skip rfl ?_
      refine pd_seq ?_
      refine jd_cond [true, true, false, true, true, true, false] [true, true, false, true, true, true, true] rfl rfl rfl rfl (fun hc5 => ?_) (fun hc5 => ?_)
      · replace hc5 := of_decide_eq_true hc5
        refine jd_seq [true, true, false, true, true, true, false, false] [true, true, false, true, true, true, false, true] rfl rfl rfl ?_
        refine jd_region rfl ?_
        refine od_pu rfl rfl (p_move rfl) ?_
        refine od_pu rfl rfl (p_move rfl) ?_
        refine od_pu rfl rfl (p_shr (a := x) (n := 12) (m := 4096) rfl rfl (by decide) (by decide)) ?_
        refine od_pu rfl rfl (p_cast rfl (c := (((x / 4096) % 256 : Nat) : Int)) (cvm_21_5 _)) ?_
        refine od_pu rfl rfl (p_or8 (a := 224) (b := (x / 4096) % 256) rfl rfl (by decide) (by omega) (or224 _ (by omega))) ?_
        refine od_pu rfl rfl (p_move rfl) ?_
        refine od_pu rfl rfl (p_shr (a := x) (n := 6) (m := 64) rfl rfl (by decide) (by decide)) ?_
        refine od_pu rfl rfl (p_cast rfl (c := (((x / 64) % 256 : Nat) : Int)) (cvm_21_5 _)) ?_
        refine od_pu rfl rfl (p_and8 (a := (x / 64) % 256) (b := 63) rfl rfl (by omega) (by decide) (and63 _)) ?_
        refine od_pu rfl rfl (p_or8 (a := 128) (b := ((x / 64) % 256) % 64) rfl rfl (by decide) (by omega) (or128 _ (by omega))) ?_
        refine od_pu rfl rfl (p_move rfl) ?_
        refine od_pu rfl rfl (p_cast rfl (c := ((x % 256 : Nat) : Int)) (cvm_21_5 _)) ?_
        refine od_pu rfl rfl (p_and8 (a := x % 256) (b := 63) rfl rfl (by omega) (by decide) (and63 _)) ?_
        refine od_pu rfl rfl (p_or8 (a := 128) (b := (x % 256) % 64) rfl rfl (by decide) (by omega) (or128 _ (by omega))) ?_
        refine od_step rfl rfl (ef_buildSlice [.tmp 38, .tmp 43, .tmp 47] rfl rfl (.cons (CellD.v rfl) (.cons (CellD.v rfl) (.cons (CellD.v rfl) .nil))) rfl Try.runUnderlying176 Try.sizeOf5 Try.zeroValue5 rfl rfl rfl rfl) ?_
        rintro _ _ ⟨g6, rfl, rfl⟩
        refine OpsD.subH (HSub.turn (h' := .sl (.slice (some ⟨g6, 0, none⟩) 3 3) 1 5 ([(UInt8.ofNat (224 + ((x / 4096) % 256))), (UInt8.ofNat (128 + (((x / 64) % 256) % 64))), (UInt8.ofNat (128 + ((x % 256) % 64)))].map dU8)) rfl (Hp.cvs_sl (.cons (Cv.eq (u8_eq rfl (by omega))) (.cons (Cv.eq (u8_eq rfl (by omega))) (.cons (Cv.eq (u8_eq rfl (by omega))) .nil))))) ?_
        refine od_step rfl rfl (ef_append_m (f := dU8) (l := bs) (l' := [(UInt8.ofNat (224 + ((x / 4096) % 256))), (UInt8.ofNat (128 + (((x / 64) % 256) % 64))), (UInt8.ofNat (128 + ((x % 256) % 64)))]) (i := 1) rfl rfl rfl (SrcD.own (j := 0) rfl rfl) und_176 infz_5 rfl rfl (by unfold maxLen; (try simp only [List.length_append, List.length_cons, List.length_nil, List.length_map, List.length_take, List.length_drop, List.length_set, List.length_replicate]); omega) (by (try simp only [List.length_append, List.length_cons, List.length_nil, List.length_map, List.length_take, List.length_drop, List.length_set, List.length_replicate]); omega)) ?_
        rintro _ _ ⟨v7, rfl, rfl⟩
        refine OpsD.norm [.sl (.slice (some ⟨g6, 0, none⟩) 3 3) 1 5 ([(UInt8.ofNat (224 + ((x / 4096) % 256))), (UInt8.ofNat (128 + (((x / 64) % 256) % 64))), (UInt8.ofNat (128 + ((x % 256) % 64)))].map dU8), .sl v7 1 5 ((bs ++ [(UInt8.ofNat (224 + ((x / 4096) % 256))), (UInt8.ofNat (128 + (((x / 64) % 256) % 64))), (UInt8.ofNat (128 + ((x % 256) % 64)))]).map dU8)] rfl ?_
        refine od_pu rfl rfl (p_assign rfl) ?_
        refine od_nil rfl ?_
        refine pd_seq ?_
        refine JD.keep [4] [(4, .ov v7)] rfl ?_
        refine jd_ret rfl ?_
        refine pd_block_ret ?_
        refine PD.subH (HSub.perm (perm_front (i := 1) rfl)) ?_
        refine PD.norm [.sl v7 1 5 ((bs ++ [(UInt8.ofNat (224 + ((x / 4096) % 256))), (UInt8.ofNat (128 + (((x / 64) % 256) % 64))), (UInt8.ofNat (128 + ((x % 256) % 64)))]).map dU8), .sl (.slice (some ⟨g6, 0, none⟩) 3 3) 1 5 ([(UInt8.ofNat (224 + ((x / 4096) % 256))), (UInt8.ofNat (128 + (((x / 64) % 256) % 64))), (UInt8.ofNat (128 + ((x % 256) % 64)))].map dU8)] rfl ?_
        refine PD.norm [.sl v7 1 5 ((bs ++ encR x).map dU8), .sl (.slice (some ⟨g6, 0, none⟩) 3 3) 1 5 ([(UInt8.ofNat (224 + ((x / 4096) % 256))), (UInt8.ofNat (128 + (((x / 64) % 256) % 64))), (UInt8.ofNat (128 + ((x % 256) % 64)))].map dU8)] (by first | (exfalso; omega) | skip; unfold encR; first | rw [if_neg (by omega), if_pos (by omega)] | rw [if_neg (by omega), if_neg (by omega), if_pos (by omega)] | rw [if_neg (by omega), if_neg (by omega), if_neg (by omega), if_pos (by omega)] | rw [if_neg (by omega), if_neg (by omega), if_neg (by omega), if_neg (by omega)]) ?_
        exact pd_retH Try.results183 (.cons (ro_tmp rfl) .nil) rfl (HSub.fst 1 rfl) ⟨v7, rfl, rfl⟩
      · replace hc5 := of_decide_eq_false hc5
        refine jd_seq [true, true, false, true, true, true, true, false] [true, true, false, true, true, true, true, true] rfl rfl rfl ?_
        refine JD.keep [0, 1, 4, 5, 6, 7, 11, 12, 13, 25, 26, 27] [(0, .ov v), (1, .v (.int .i32 ((x : Nat) : Int))), (4, .v (.slice none 0 0)), (5, .v (.int .u32 ((x : Nat) : Int))), (6, .v (.int .i32 ((x : Nat) : Int))), (7, .v (.int .u32 ((x : Nat) : Int))), (11, .v (.bool (decide (((x : Nat) : Int) ≤ (2047 : Int))))), (12, .v (.int .u32 ((x : Nat) : Int))), (13, .v (.bool (decide (((x : Nat) : Int) ≤ (2047 : Int))))), (25, .v (.bool (decide (((x : Nat) : Int) < (55296 : Int))))), (26, .v (.int .u32 ((x : Nat) : Int))), (27, .v (.bool (decide (((x : Nat) : Int) < (55296 : Int)))))] rfl ?_
        refine jd_sum 50 ((decide ((65535 : Int) < ((x : Nat) : Int)) && decide (((x : Nat) : Int) ≤ (1114111 : Int)))) [.sl v 1 5 (bs.map dU8)] (fun _ hQ8 => ?_) ?_
        · skip
          by_cases hg9 : (65535 : Int) < ((x : Nat) : Int)
          · skip
            refine jd_region rfl ?_
            refine od_pu rfl rfl (p_move rfl) ?_
            refine od_pu rfl rfl (p_gtr rfl rfl (decide_eq_true hg9)) ?_
            refine od_pu rfl rfl (p_move rfl) ?_
            refine od_runp rfl rfl rfl rfl rfl (p_move rfl) ?_
            refine od_runp rfl rfl rfl rfl rfl (p_leq rfl rfl rfl) ?_
            refine od_pu rfl rfl (p_pick_t rfl rfl) ?_
            refine od_pu rfl rfl (p_assign rfl) ?_
            refine od_nil rfl ?_
            exact PD.sub ((50, .v (.bool (decide ((65535 : Int) < ((x : Nat) : Int)) && decide (((x : Nat) : Int) ≤ (1114111 : Int))))) :: [(0, .ov v), (1, .v (.int .i32 ((x : Nat) : Int))), (4, .v (.slice none 0 0)), (5, .v (.int .u32 ((x : Nat) : Int))), (6, .v (.int .i32 ((x : Nat) : Int))), (7, .v (.int .u32 ((x : Nat) : Int))), (11, .v (.bool (decide (((x : Nat) : Int) ≤ (2047 : Int))))), (12, .v (.int .u32 ((x : Nat) : Int))), (13, .v (.bool (decide (((x : Nat) : Int) ≤ (2047 : Int))))), (25, .v (.bool (decide (((x : Nat) : Int) < (55296 : Int))))), (26, .v (.int .u32 ((x : Nat) : Int))), (27, .v (.bool (decide (((x : Nat) : Int) < (55296 : Int)))))]) ⟨sc rfl (Cv.eq (congrArg (fun b => D.v (.bool b)) (by first | (simp [hc1, hc5, hg9]; done) | (simp_all; done)))), sk rfl, sk rfl, sk rfl, sk rfl, sk rfl, sk rfl, sk rfl, sk rfl, sk rfl, sk rfl, sk rfl, sk rfl, trivial⟩ hQ8
          · skip
            refine jd_region rfl ?_
            refine od_pu rfl rfl (p_move rfl) ?_
            refine od_pu rfl rfl (p_gtr rfl rfl (decide_eq_false hg9)) ?_
            refine od_pu rfl rfl (p_move rfl) ?_
            refine od_skip rfl rfl rfl rfl rfl (by decide) ?_
            refine od_skip rfl rfl rfl rfl rfl (by decide) ?_
            refine od_pu rfl rfl (p_pick_f rfl rfl) ?_
            refine od_pu rfl rfl (p_assign rfl) ?_
            refine od_nil rfl ?_
            exact PD.sub ((50, .v (.bool (decide ((65535 : Int) < ((x : Nat) : Int)) && decide (((x : Nat) : Int) ≤ (1114111 : Int))))) :: [(0, .ov v), (1, .v (.int .i32 ((x : Nat) : Int))), (4, .v (.slice none 0 0)), (5, .v (.int .u32 ((x : Nat) : Int))), (6, .v (.int .i32 ((x : Nat) : Int))), (7, .v (.int .u32 ((x : Nat) : Int))), (11, .v (.bool (decide (((x : Nat) : Int) ≤ (2047 : Int))))), (12, .v (.int .u32 ((x : Nat) : Int))), (13, .v (.bool (decide (((x : Nat) : Int) ≤ (2047 : Int))))), (25, .v (.bool (decide (((x : Nat) : Int) < (55296 : Int))))), (26, .v (.int .u32 ((x : Nat) : Int))), (27, .v (.bool (decide (((x : Nat) : Int) < (55296 : Int)))))]) ⟨sc rfl (Cv.eq (congrArg (fun b => D.v (.bool b)) (by first | (simp [hc1, hc5, hg9]; done) | (simp_all; done)))), sk rfl, sk rfl, sk rfl, sk rfl, sk rfl, sk rfl, sk rfl, sk rfl, sk rfl, sk rfl, sk rfl, sk rfl, trivial⟩ hQ8
        · skip
          refine pd_seq ?_
          refine JD.keep [0, 1, 4, 50] [(0, .ov v), (1, .v (.int .i32 ((x : Nat) : Int))), (4, .v (.slice none 0 0)), (50, .v (.bool (decide ((65535 : Int) < ((x : Nat) : Int)) && decide (((x : Nat) : Int) ≤ (1114111 : Int)))))] rfl ?_
          refine jd_cond [true, true, false, true, true, true, true, true, false] [true, true, false, true, true, true, true, true, true] rfl rfl rfl rfl (fun hc10 => ?_) (fun hc10 => ?_)
          · simp only [Bool.and_eq_true, Bool.or_eq_true, Bool.not_eq_true', Bool.not_eq_false', Bool.and_eq_false_iff, Bool.or_eq_false_iff, decide_eq_true_eq, decide_eq_false_iff_not, Decidable.not_not, ne_eq] at hc10
            refine jd_seq [true, true, false, true, true, true, true, true, false, false] [true, true, false, true, true, true, true, true, false, true] rfl rfl rfl ?_
            refine jd_region rfl ?_
            refine od_pu rfl rfl (p_move rfl) ?_
            refine od_pu rfl rfl (p_move rfl) ?_
            refine od_pu rfl rfl (p_shr (a := x) (n := 18) (m := 262144) rfl rfl (by decide) (by decide)) ?_
            refine od_pu rfl rfl (p_cast rfl (c := (((x / 262144) % 256 : Nat) : Int)) (cvm_21_5 _)) ?_
            refine od_pu rfl rfl (p_or8 (a := 240) (b := (x / 262144) % 256) rfl rfl (by decide) (by omega) (or240 _ (by omega))) ?_
            refine od_pu rfl rfl (p_move rfl) ?_
            refine od_pu rfl rfl (p_shr (a := x) (n := 12) (m := 4096) rfl rfl (by decide) (by decide)) ?_
            refine od_pu rfl rfl (p_cast rfl (c := (((x / 4096) % 256 : Nat) : Int)) (cvm_21_5 _)) ?_
            refine od_pu rfl rfl (p_and8 (a := (x / 4096) % 256) (b := 63) rfl rfl (by omega) (by decide) (and63 _)) ?_
            refine od_pu rfl rfl (p_or8 (a := 128) (b := ((x / 4096) % 256) % 64) rfl rfl (by decide) (by omega) (or128 _ (by omega))) ?_
            refine od_pu rfl rfl (p_move rfl) ?_
            refine od_pu rfl rfl (p_shr (a := x) (n := 6) (m := 64) rfl rfl (by decide) (by decide)) ?_
            refine od_pu rfl rfl (p_cast rfl (c := (((x / 64) % 256 : Nat) : Int)) (cvm_21_5 _)) ?_
            refine od_pu rfl rfl (p_and8 (a := (x / 64) % 256) (b := 63) rfl rfl (by omega) (by decide) (and63 _)) ?_
            refine od_pu rfl rfl (p_or8 (a := 128) (b := ((x / 64) % 256) % 64) rfl rfl (by decide) (by omega) (or128 _ (by omega))) ?_
            refine od_pu rfl rfl (p_move rfl) ?_
            refine od_pu rfl rfl (p_cast rfl (c := ((x % 256 : Nat) : Int)) (cvm_21_5 _)) ?_
            refine od_pu rfl rfl (p_and8 (a := x % 256) (b := 63) rfl rfl (by omega) (by decide) (and63 _)) ?_
            refine od_pu rfl rfl (p_or8 (a := 128) (b := (x % 256) % 64) rfl rfl (by decide) (by omega) (or128 _ (by omega))) ?_
            refine od_step rfl rfl (ef_buildSlice [.tmp 61, .tmp 66, .tmp 71, .tmp 75] rfl rfl (.cons (CellD.v rfl) (.cons (CellD.v rfl) (.cons (CellD.v rfl) (.cons (CellD.v rfl) .nil)))) rfl Try.runUnderlying176 Try.sizeOf5 Try.zeroValue5 rfl rfl rfl rfl) ?_
            rintro _ _ ⟨g11, rfl, rfl⟩
            refine OpsD.subH (HSub.turn (h' := .sl (.slice (some ⟨g11, 0, none⟩) 4 4) 1 5 ([(UInt8.ofNat (240 + ((x / 262144) % 256))), (UInt8.ofNat (128 + (((x / 4096) % 256) % 64))), (UInt8.ofNat (128 + (((x / 64) % 256) % 64))), (UInt8.ofNat (128 + ((x % 256) % 64)))].map dU8)) rfl (Hp.cvs_sl (.cons (Cv.eq (u8_eq rfl (by omega))) (.cons (Cv.eq (u8_eq rfl (by omega))) (.cons (Cv.eq (u8_eq rfl (by omega))) (.cons (Cv.eq (u8_eq rfl (by omega))) .nil)))))) ?_
            refine od_step rfl rfl (ef_append_m (f := dU8) (l := bs) (l' := [(UInt8.ofNat (240 + ((x / 262144) % 256))), (UInt8.ofNat (128 + (((x / 4096) % 256) % 64))), (UInt8.ofNat (128 + (((x / 64) % 256) % 64))), (UInt8.ofNat (128 + ((x % 256) % 64)))]) (i := 1) rfl rfl rfl (SrcD.own (j := 0) rfl rfl) und_176 infz_5 rfl rfl (by unfold maxLen; (try simp only [List.length_append, List.length_cons, List.length_nil, List.length_map, List.length_take, List.length_drop, List.length_set, List.length_replicate]); omega) (by (try simp only [List.length_append, List.length_cons, List.length_nil, List.length_map, List.length_take, List.length_drop, List.length_set, List.length_replicate]); omega)) ?_
            rintro _ _ ⟨v12, rfl, rfl⟩
            refine OpsD.norm [.sl (.slice (some ⟨g11, 0, none⟩) 4 4) 1 5 ([(UInt8.ofNat (240 + ((x / 262144) % 256))), (UInt8.ofNat (128 + (((x / 4096) % 256) % 64))), (UInt8.ofNat (128 + (((x / 64) % 256) % 64))), (UInt8.ofNat (128 + ((x % 256) % 64)))].map dU8), .sl v12 1 5 ((bs ++ [(UInt8.ofNat (240 + ((x / 262144) % 256))), (UInt8.ofNat (128 + (((x / 4096) % 256) % 64))), (UInt8.ofNat (128 + (((x / 64) % 256) % 64))), (UInt8.ofNat (128 + ((x % 256) % 64)))]).map dU8)] rfl ?_
            refine od_pu rfl rfl (p_assign rfl) ?_
            refine od_nil rfl ?_
            refine pd_seq ?_
            refine JD.keep [4] [(4, .ov v12)] rfl ?_
            refine jd_ret rfl ?_
            refine pd_block_ret ?_
            refine PD.subH (HSub.perm (perm_front (i := 1) rfl)) ?_
            refine PD.norm [.sl v12 1 5 ((bs ++ [(UInt8.ofNat (240 + ((x / 262144) % 256))), (UInt8.ofNat (128 + (((x / 4096) % 256) % 64))), (UInt8.ofNat (128 + (((x / 64) % 256) % 64))), (UInt8.ofNat (128 + ((x % 256) % 64)))]).map dU8), .sl (.slice (some ⟨g11, 0, none⟩) 4 4) 1 5 ([(UInt8.ofNat (240 + ((x / 262144) % 256))), (UInt8.ofNat (128 + (((x / 4096) % 256) % 64))), (UInt8.ofNat (128 + (((x / 64) % 256) % 64))), (UInt8.ofNat (128 + ((x % 256) % 64)))].map dU8)] rfl ?_
            refine PD.norm [.sl v12 1 5 ((bs ++ encR x).map dU8), .sl (.slice (some ⟨g11, 0, none⟩) 4 4) 1 5 ([(UInt8.ofNat (240 + ((x / 262144) % 256))), (UInt8.ofNat (128 + (((x / 4096) % 256) % 64))), (UInt8.ofNat (128 + (((x / 64) % 256) % 64))), (UInt8.ofNat (128 + ((x % 256) % 64)))].map dU8)] (by first | (exfalso; omega) | skip; unfold encR; first | rw [if_neg (by omega), if_pos (by omega)] | rw [if_neg (by omega), if_neg (by omega), if_pos (by omega)] | rw [if_neg (by omega), if_neg (by omega), if_neg (by omega), if_pos (by omega)] | rw [if_neg (by omega), if_neg (by omega), if_neg (by omega), if_neg (by omega)]) ?_
            exact pd_retH Try.results183 (.cons (ro_tmp rfl) .nil) rfl (HSub.fst 1 rfl) ⟨v12, rfl, rfl⟩
          · simp only [Bool.and_eq_true, Bool.or_eq_true, Bool.not_eq_true', Bool.not_eq_false', Bool.and_eq_false_iff, Bool.or_eq_false_iff, decide_eq_true_eq, decide_eq_false_iff_not, Decidable.not_not, ne_eq] at hc10
            refine jd_seq [true, true, false, true, true, true, true, true, true, false] [true, true, false, true, true, true, true, true, true, true] rfl rfl rfl ?_
            refine jd_region rfl ?_
            refine od_pu rfl rfl (p_move rfl) ?_
            refine od_step rfl rfl (ef_buildSlice [.const (.int .u8 239), .const (.int .u8 191), .const (.int .u8 189)] rfl rfl (.cons (CellD.v rfl) (.cons (CellD.v rfl) (.cons (CellD.v rfl) .nil))) rfl Try.runUnderlying176 Try.sizeOf5 Try.zeroValue5 rfl rfl rfl rfl) ?_
            rintro _ _ ⟨g13, rfl, rfl⟩
            refine od_step rfl rfl (ef_append_m (f := dU8) (l := bs) (l' := [(239 : UInt8), (191 : UInt8), (189 : UInt8)]) (i := 1) rfl rfl rfl (SrcD.own (j := 0) rfl rfl) und_176 infz_5 rfl rfl (by unfold maxLen; (try simp only [List.length_append, List.length_cons, List.length_nil, List.length_map, List.length_take, List.length_drop, List.length_set, List.length_replicate]); omega) (by (try simp only [List.length_append, List.length_cons, List.length_nil, List.length_map, List.length_take, List.length_drop, List.length_set, List.length_replicate]); omega)) ?_
            rintro _ _ ⟨v14, rfl, rfl⟩
            refine OpsD.norm [.sl (.slice (some ⟨g13, 0, none⟩) 3 3) 1 5 ([.v (.int .u8 239), .v (.int .u8 191), .v (.int .u8 189)]), .sl v14 1 5 ((bs ++ [(239 : UInt8), (191 : UInt8), (189 : UInt8)]).map dU8)] rfl ?_
            refine od_pu rfl rfl (p_assign rfl) ?_
            refine od_nil rfl ?_
            refine pd_seq ?_
            refine jd_ret rfl ?_
            refine pd_block_ret ?_
            refine PD.subH (HSub.perm (perm_front (i := 1) rfl)) ?_
            refine PD.norm [.sl v14 1 5 ((bs ++ [(239 : UInt8), (191 : UInt8), (189 : UInt8)]).map dU8), .sl (.slice (some ⟨g13, 0, none⟩) 3 3) 1 5 ([.v (.int .u8 239), .v (.int .u8 191), .v (.int .u8 189)])] rfl ?_
            refine PD.norm [.sl v14 1 5 ((bs ++ encR x).map dU8), .sl (.slice (some ⟨g13, 0, none⟩) 3 3) 1 5 ([.v (.int .u8 239), .v (.int .u8 191), .v (.int .u8 189)])] (by first | (exfalso; omega) | skip; unfold encR; first | rw [if_neg (by omega), if_pos (by omega)] | rw [if_neg (by omega), if_neg (by omega), if_pos (by omega)] | rw [if_neg (by omega), if_neg (by omega), if_neg (by omega), if_pos (by omega)] | rw [if_neg (by omega), if_neg (by omega), if_neg (by omega), if_neg (by omega)]) ?_
            exact pd_retH Try.results183 (.cons (ro_tmp rfl) .nil) rfl (HSub.fst 1 rfl) ⟨v14, rfl, rfl⟩
    · replace hc4 := of_decide_eq_false hc4
      refine JD.keep [0, 1, 4, 5, 6, 7, 11, 12, 13, 26, 27] [(0, .ov v), (1, .v (.int .i32 ((x : Nat) : Int))), (4, .v (.slice none 0 0)), (5, .v (.int .u32 ((x : Nat) : Int))), (6, .v (.int .i32 ((x : Nat) : Int))), (7, .v (.int .u32 ((x : Nat) : Int))), (11, .v (.bool (decide (((x : Nat) : Int) ≤ (2047 : Int))))), (12, .v (.int .u32 ((x : Nat) : Int))), (13, .v (.bool (decide (((x : Nat) : Int) ≤ (2047 : Int))))), (26, .v (.int .u32 ((x : Nat) : Int))), (27, .v (.bool (decide (((x : Nat) : Int) < (55296 : Int)))))] rfl ?_
      refine jd_sum 25 ((decide ((57343 : Int) < ((x : Nat) : Int)) && decide (((x : Nat) : Int) ≤ (65535 : Int)))) [.sl v 1 5 (bs.map dU8)] (fun _ hQ15 => ?_) ?_
      · skip
        by_cases hg16 : (57343 : Int) < ((x : Nat) : Int)
        · skip
          refine jd_region rfl ?_
          refine od_pu rfl rfl (p_move rfl) ?_
          refine od_pu rfl rfl (p_lss rfl rfl (decide_eq_true hg16)) ?_
          refine od_pu rfl rfl (p_move rfl) ?_
          refine od_runp rfl rfl rfl rfl rfl (p_move rfl) ?_
          refine od_runp rfl rfl rfl rfl rfl (p_leq rfl rfl rfl) ?_
          refine od_pu rfl rfl (p_pick_t rfl rfl) ?_
          refine od_pu rfl rfl (p_assign rfl) ?_
          refine od_nil rfl ?_
          exact PD.sub ((25, .v (.bool (decide ((57343 : Int) < ((x : Nat) : Int)) && decide (((x : Nat) : Int) ≤ (65535 : Int))))) :: [(0, .ov v), (1, .v (.int .i32 ((x : Nat) : Int))), (4, .v (.slice none 0 0)), (5, .v (.int .u32 ((x : Nat) : Int))), (6, .v (.int .i32 ((x : Nat) : Int))), (7, .v (.int .u32 ((x : Nat) : Int))), (11, .v (.bool (decide (((x : Nat) : Int) ≤ (2047 : Int))))), (12, .v (.int .u32 ((x : Nat) : Int))), (13, .v (.bool (decide (((x : Nat) : Int) ≤ (2047 : Int))))), (26, .v (.int .u32 ((x : Nat) : Int))), (27, .v (.bool (decide (((x : Nat) : Int) < (55296 : Int)))))]) ⟨sc rfl (Cv.eq (congrArg (fun b => D.v (.bool b)) (by first | (simp [hc1, hc4, hg16]; done) | (simp_all; done)))), sk rfl, sk rfl, sk rfl, sk rfl, sk rfl, sk rfl, sk rfl, sk rfl, sk rfl, sk rfl, sk rfl, trivial⟩ hQ15
        · skip
          refine jd_region rfl ?_
          refine od_pu rfl rfl (p_move rfl) ?_
          refine od_pu rfl rfl (p_lss rfl rfl (decide_eq_false hg16)) ?_
          refine od_pu rfl rfl (p_move rfl) ?_
          refine od_skip rfl rfl rfl rfl rfl (by decide) ?_
          refine od_skip rfl rfl rfl rfl rfl (by decide) ?_
          refine od_pu rfl rfl (p_pick_f rfl rfl) ?_
          refine od_pu rfl rfl (p_assign rfl) ?_
          refine od_nil rfl ?_
          exact PD.sub ((25, .v (.bool (decide ((57343 : Int) < ((x : Nat) : Int)) && decide (((x : Nat) : Int) ≤ (65535 : Int))))) :: [(0, .ov v), (1, .v (.int .i32 ((x : Nat) : Int))), (4, .v (.slice none 0 0)), (5, .v (.int .u32 ((x : Nat) : Int))), (6, .v (.int .i32 ((x : Nat) : Int))), (7, .v (.int .u32 ((x : Nat) : Int))), (11, .v (.bool (decide (((x : Nat) : Int) ≤ (2047 : Int))))), (12, .v (.int .u32 ((x : Nat) : Int))), (13, .v (.bool (decide (((x : Nat) : Int) ≤ (2047 : Int))))), (26, .v (.int .u32 ((x : Nat) : Int))), (27, .v (.bool (decide (((x : Nat) : Int) < (55296 : Int)))))]) ⟨sc rfl (Cv.eq (congrArg (fun b => D.v (.bool b)) (by first | (simp [hc1, hc4, hg16]; done) | (simp_all; done)))), sk rfl, sk rfl, sk rfl, sk rfl, sk rfl, sk rfl, sk rfl, sk rfl, sk rfl, sk rfl, sk rfl, trivial⟩ hQ15
      · skip
        refine pd_seq ?_
        refine jd_cond [true, true, false, true, true, true, false] [true, true, false, true, true, true, true] rfl rfl rfl rfl (fun hc17 => ?_) (fun hc17 => ?_)
        · simp only [Bool.and_eq_true, Bool.or_eq_true, Bool.not_eq_true', Bool.not_eq_false', Bool.and_eq_false_iff, Bool.or_eq_false_iff, decide_eq_true_eq, decide_eq_false_iff_not, Decidable.not_not, ne_eq] at hc17
          refine jd_seq [true, true, false, true, true, true, false, false] [true, true, false, true, true, true, false, true] rfl rfl rfl ?_
          refine jd_region rfl ?_
          refine od_pu rfl rfl (p_move rfl) ?_
          refine od_pu rfl rfl (p_move rfl) ?_
          refine od_pu rfl rfl (p_shr (a := x) (n := 12) (m := 4096) rfl rfl (by decide) (by decide)) ?_
          refine od_pu rfl rfl (p_cast rfl (c := (((x / 4096) % 256 : Nat) : Int)) (cvm_21_5 _)) ?_
          refine od_pu rfl rfl (p_or8 (a := 224) (b := (x / 4096) % 256) rfl rfl (by decide) (by omega) (or224 _ (by omega))) ?_
          refine od_pu rfl rfl (p_move rfl) ?_
          refine od_pu rfl rfl (p_shr (a := x) (n := 6) (m := 64) rfl rfl (by decide) (by decide)) ?_
          refine od_pu rfl rfl (p_cast rfl (c := (((x / 64) % 256 : Nat) : Int)) (cvm_21_5 _)) ?_
          refine od_pu rfl rfl (p_and8 (a := (x / 64) % 256) (b := 63) rfl rfl (by omega) (by decide) (and63 _)) ?_
          refine od_pu rfl rfl (p_or8 (a := 128) (b := ((x / 64) % 256) % 64) rfl rfl (by decide) (by omega) (or128 _ (by omega))) ?_
          refine od_pu rfl rfl (p_move rfl) ?_
          refine od_pu rfl rfl (p_cast rfl (c := ((x % 256 : Nat) : Int)) (cvm_21_5 _)) ?_
          refine od_pu rfl rfl (p_and8 (a := x % 256) (b := 63) rfl rfl (by omega) (by decide) (and63 _)) ?_
          refine od_pu rfl rfl (p_or8 (a := 128) (b := (x % 256) % 64) rfl rfl (by decide) (by omega) (or128 _ (by omega))) ?_
          refine od_step rfl rfl (ef_buildSlice [.tmp 38, .tmp 43, .tmp 47] rfl rfl (.cons (CellD.v rfl) (.cons (CellD.v rfl) (.cons (CellD.v rfl) .nil))) rfl Try.runUnderlying176 Try.sizeOf5 Try.zeroValue5 rfl rfl rfl rfl) ?_
          rintro _ _ ⟨g18, rfl, rfl⟩
          refine OpsD.subH (HSub.turn (h' := .sl (.slice (some ⟨g18, 0, none⟩) 3 3) 1 5 ([(UInt8.ofNat (224 + ((x / 4096) % 256))), (UInt8.ofNat (128 + (((x / 64) % 256) % 64))), (UInt8.ofNat (128 + ((x % 256) % 64)))].map dU8)) rfl (Hp.cvs_sl (.cons (Cv.eq (u8_eq rfl (by omega))) (.cons (Cv.eq (u8_eq rfl (by omega))) (.cons (Cv.eq (u8_eq rfl (by omega))) .nil))))) ?_
          refine od_step rfl rfl (ef_append_m (f := dU8) (l := bs) (l' := [(UInt8.ofNat (224 + ((x / 4096) % 256))), (UInt8.ofNat (128 + (((x / 64) % 256) % 64))), (UInt8.ofNat (128 + ((x % 256) % 64)))]) (i := 1) rfl rfl rfl (SrcD.own (j := 0) rfl rfl) und_176 infz_5 rfl rfl (by unfold maxLen; (try simp only [List.length_append, List.length_cons, List.length_nil, List.length_map, List.length_take, List.length_drop, List.length_set, List.length_replicate]); omega) (by (try simp only [List.length_append, List.length_cons, List.length_nil, List.length_map, List.length_take, List.length_drop, List.length_set, List.length_replicate]); omega)) ?_
          rintro _ _ ⟨v19, rfl, rfl⟩
          refine OpsD.norm [.sl (.slice (some ⟨g18, 0, none⟩) 3 3) 1 5 ([(UInt8.ofNat (224 + ((x / 4096) % 256))), (UInt8.ofNat (128 + (((x / 64) % 256) % 64))), (UInt8.ofNat (128 + ((x % 256) % 64)))].map dU8), .sl v19 1 5 ((bs ++ [(UInt8.ofNat (224 + ((x / 4096) % 256))), (UInt8.ofNat (128 + (((x / 64) % 256) % 64))), (UInt8.ofNat (128 + ((x % 256) % 64)))]).map dU8)] rfl ?_
          refine od_pu rfl rfl (p_assign rfl) ?_
          refine od_nil rfl ?_
          refine pd_seq ?_
          refine JD.keep [4] [(4, .ov v19)] rfl ?_
          refine jd_ret rfl ?_
          refine pd_block_ret ?_
          refine PD.subH (HSub.perm (perm_front (i := 1) rfl)) ?_
          refine PD.norm [.sl v19 1 5 ((bs ++ [(UInt8.ofNat (224 + ((x / 4096) % 256))), (UInt8.ofNat (128 + (((x / 64) % 256) % 64))), (UInt8.ofNat (128 + ((x % 256) % 64)))]).map dU8), .sl (.slice (some ⟨g18, 0, none⟩) 3 3) 1 5 ([(UInt8.ofNat (224 + ((x / 4096) % 256))), (UInt8.ofNat (128 + (((x / 64) % 256) % 64))), (UInt8.ofNat (128 + ((x % 256) % 64)))].map dU8)] rfl ?_
          refine PD.norm [.sl v19 1 5 ((bs ++ encR x).map dU8), .sl (.slice (some ⟨g18, 0, none⟩) 3 3) 1 5 ([(UInt8.ofNat (224 + ((x / 4096) % 256))), (UInt8.ofNat (128 + (((x / 64) % 256) % 64))), (UInt8.ofNat (128 + ((x % 256) % 64)))].map dU8)] (by first | (exfalso; omega) | skip; unfold encR; first | rw [if_neg (by omega), if_pos (by omega)] | rw [if_neg (by omega), if_neg (by omega), if_pos (by omega)] | rw [if_neg (by omega), if_neg (by omega), if_neg (by omega), if_pos (by omega)] | rw [if_neg (by omega), if_neg (by omega), if_neg (by omega), if_neg (by omega)]) ?_
          exact pd_retH Try.results183 (.cons (ro_tmp rfl) .nil) rfl (HSub.fst 1 rfl) ⟨v19, rfl, rfl⟩
        · simp only [Bool.and_eq_true, Bool.or_eq_true, Bool.not_eq_true', Bool.not_eq_false', Bool.and_eq_false_iff, Bool.or_eq_false_iff, decide_eq_true_eq, decide_eq_false_iff_not, Decidable.not_not, ne_eq] at hc17
          refine jd_seq [true, true, false, true, true, true, true, false] [true, true, false, true, true, true, true, true] rfl rfl rfl ?_
          refine JD.keep [0, 1, 4, 5, 6, 7, 11, 12, 13, 25, 26, 27] [(0, .ov v), (1, .v (.int .i32 ((x : Nat) : Int))), (4, .v (.slice none 0 0)), (5, .v (.int .u32 ((x : Nat) : Int))), (6, .v (.int .i32 ((x : Nat) : Int))), (7, .v (.int .u32 ((x : Nat) : Int))), (11, .v (.bool (decide (((x : Nat) : Int) ≤ (2047 : Int))))), (12, .v (.int .u32 ((x : Nat) : Int))), (13, .v (.bool (decide (((x : Nat) : Int) ≤ (2047 : Int))))), (25, .v (.bool (decide ((57343 : Int) < ((x : Nat) : Int)) && decide (((x : Nat) : Int) ≤ (65535 : Int))))), (26, .v (.int .u32 ((x : Nat) : Int))), (27, .v (.bool (decide (((x : Nat) : Int) < (55296 : Int)))))] rfl ?_
          refine jd_sum 50 ((decide ((65535 : Int) < ((x : Nat) : Int)) && decide (((x : Nat) : Int) ≤ (1114111 : Int)))) [.sl v 1 5 (bs.map dU8)] (fun _ hQ20 => ?_) ?_
          · skip
            by_cases hg21 : (65535 : Int) < ((x : Nat) : Int)
            · skip
              refine jd_region rfl ?_
              refine od_pu rfl rfl (p_move rfl) ?_
              refine od_pu rfl rfl (p_gtr rfl rfl (decide_eq_true hg21)) ?_
              refine od_pu rfl rfl (p_move rfl) ?_
              refine od_runp rfl rfl rfl rfl rfl (p_move rfl) ?_
              refine od_runp rfl rfl rfl rfl rfl (p_leq rfl rfl rfl) ?_
              refine od_pu rfl rfl (p_pick_t rfl rfl) ?_
              refine od_pu rfl rfl (p_assign rfl) ?_
              refine od_nil rfl ?_
              exact PD.sub ((50, .v (.bool (decide ((65535 : Int) < ((x : Nat) : Int)) && decide (((x : Nat) : Int) ≤ (1114111 : Int))))) :: [(0, .ov v), (1, .v (.int .i32 ((x : Nat) : Int))), (4, .v (.slice none 0 0)), (5, .v (.int .u32 ((x : Nat) : Int))), (6, .v (.int .i32 ((x : Nat) : Int))), (7, .v (.int .u32 ((x : Nat) : Int))), (11, .v (.bool (decide (((x : Nat) : Int) ≤ (2047 : Int))))), (12, .v (.int .u32 ((x : Nat) : Int))), (13, .v (.bool (decide (((x : Nat) : Int) ≤ (2047 : Int))))), (25, .v (.bool (decide ((57343 : Int) < ((x : Nat) : Int)) && decide (((x : Nat) : Int) ≤ (65535 : Int))))), (26, .v (.int .u32 ((x : Nat) : Int))), (27, .v (.bool (decide (((x : Nat) : Int) < (55296 : Int)))))]) ⟨sc rfl (Cv.eq (congrArg (fun b => D.v (.bool b)) (by first | (simp [hc1, hc4, hg21]; done) | (simp_all; done)))), sk rfl, sk rfl, sk rfl, sk rfl, sk rfl, sk rfl, sk rfl, sk rfl, sk rfl, sk rfl, sk rfl, sk rfl, trivial⟩ hQ20
            · skip
              refine jd_region rfl ?_
              refine od_pu rfl rfl (p_move rfl) ?_
              refine od_pu rfl rfl (p_gtr rfl rfl (decide_eq_false hg21)) ?_
              refine od_pu rfl rfl (p_move rfl) ?_
              refine od_skip rfl rfl rfl rfl rfl (by decide) ?_
              refine od_skip rfl rfl rfl rfl rfl (by decide) ?_
              refine od_pu rfl rfl (p_pick_f rfl rfl) ?_
              refine od_pu rfl rfl (p_assign rfl) ?_
              refine od_nil rfl ?_
              exact PD.sub ((50, .v (.bool (decide ((65535 : Int) < ((x : Nat) : Int)) && decide (((x : Nat) : Int) ≤ (1114111 : Int))))) :: [(0, .ov v), (1, .v (.int .i32 ((x : Nat) : Int))), (4, .v (.slice none 0 0)), (5, .v (.int .u32 ((x : Nat) : Int))), (6, .v (.int .i32 ((x : Nat) : Int))), (7, .v (.int .u32 ((x : Nat) : Int))), (11, .v (.bool (decide (((x : Nat) : Int) ≤ (2047 : Int))))), (12, .v (.int .u32 ((x : Nat) : Int))), (13, .v (.bool (decide (((x : Nat) : Int) ≤ (2047 : Int))))), (25, .v (.bool (decide ((57343 : Int) < ((x : Nat) : Int)) && decide (((x : Nat) : Int) ≤ (65535 : Int))))), (26, .v (.int .u32 ((x : Nat) : Int))), (27, .v (.bool (decide (((x : Nat) : Int) < (55296 : Int)))))]) ⟨sc rfl (Cv.eq (congrArg (fun b => D.v (.bool b)) (by first | (simp [hc1, hc4, hg21]; done) | (simp_all; done)))), sk rfl, sk rfl, sk rfl, sk rfl, sk rfl, sk rfl, sk rfl, sk rfl, sk rfl, sk rfl, sk rfl, sk rfl, trivial⟩ hQ20
          · skip
            refine pd_seq ?_
            refine JD.keep [0, 1, 4, 50] [(0, .ov v), (1, .v (.int .i32 ((x : Nat) : Int))), (4, .v (.slice none 0 0)), (50, .v (.bool (decide ((65535 : Int) < ((x : Nat) : Int)) && decide (((x : Nat) : Int) ≤ (1114111 : Int)))))] rfl ?_
            refine jd_cond [true, true, false, true, true, true, true, true, false] [true, true, false, true, true, true, true, true, true] rfl rfl rfl rfl (fun hc22 => ?_) (fun hc22 => ?_)
            · simp only [Bool.and_eq_true, Bool.or_eq_true, Bool.not_eq_true', Bool.not_eq_false', Bool.and_eq_false_iff, Bool.or_eq_false_iff, decide_eq_true_eq, decide_eq_false_iff_not, Decidable.not_not, ne_eq] at hc22
              refine jd_seq [true, true, false, true, true, true, true, true, false, false] [true, true, false, true, true, true, true, true, false, true] rfl rfl rfl ?_
              refine jd_region rfl ?_
              refine od_pu rfl rfl (p_move rfl) ?_
              refine od_pu rfl rfl (p_move rfl) ?_
              refine od_pu rfl rfl (p_shr (a := x) (n := 18) (m := 262144) rfl rfl (by decide) (by decide)) ?_
              refine od_pu rfl rfl (p_cast rfl (c := (((x / 262144) % 256 : Nat) : Int)) (cvm_21_5 _)) ?_
              refine od_pu rfl rfl (p_or8 (a := 240) (b := (x / 262144) % 256) rfl rfl (by decide) (by omega) (or240 _ (by omega))) ?_
              refine od_pu rfl rfl (p_move rfl) ?_
              refine od_pu rfl rfl (p_shr (a := x) (n := 12) (m := 4096) rfl rfl (by decide) (by decide)) ?_
              refine od_pu rfl rfl (p_cast rfl (c := (((x / 4096) % 256 : Nat) : Int)) (cvm_21_5 _)) ?_
              refine od_pu rfl rfl (p_and8 (a := (x / 4096) % 256) (b := 63) rfl rfl (by omega) (by decide) (and63 _)) ?_
              refine od_pu rfl rfl (p_or8 (a := 128) (b := ((x / 4096) % 256) % 64) rfl rfl (by decide) (by omega) (or128 _ (by omega))) ?_
              refine od_pu rfl rfl (p_move rfl) ?_
              refine od_pu rfl rfl (p_shr (a := x) (n := 6) (m := 64) rfl rfl (by decide) (by decide)) ?_
              refine od_pu rfl rfl (p_cast rfl (c := (((x / 64) % 256 : Nat) : Int)) (cvm_21_5 _)) ?_
              refine od_pu rfl rfl (p_and8 (a := (x / 64) % 256) (b := 63) rfl rfl (by omega) (by decide) (and63 _)) ?_
              refine od_pu rfl rfl (p_or8 (a := 128) (b := ((x / 64) % 256) % 64) rfl rfl (by decide) (by omega) (or128 _ (by omega))) ?_
              refine od_pu rfl rfl (p_move rfl) ?_
              refine od_pu rfl rfl (p_cast rfl (c := ((x % 256 : Nat) : Int)) (cvm_21_5 _)) ?_
              refine od_pu rfl rfl (p_and8 (a := x % 256) (b := 63) rfl rfl (by omega) (by decide) (and63 _)) ?_
              refine od_pu rfl rfl (p_or8 (a := 128) (b := (x % 256) % 64) rfl rfl (by decide) (by omega) (or128 _ (by omega))) ?_
              refine od_step rfl rfl (ef_buildSlice [.tmp 61, .tmp 66, .tmp 71, .tmp 75] rfl rfl (.cons (CellD.v rfl) (.cons (CellD.v rfl) (.cons (CellD.v rfl) (.cons (CellD.v rfl) .nil)))) rfl Try.runUnderlying176 Try.sizeOf5 Try.zeroValue5 rfl rfl rfl rfl) ?_
              rintro _ _ ⟨g23, rfl, rfl⟩
              refine OpsD.subH (HSub.turn (h' := .sl (.slice (some ⟨g23, 0, none⟩) 4 4) 1 5 ([(UInt8.ofNat (240 + ((x / 262144) % 256))), (UInt8.ofNat (128 + (((x / 4096) % 256) % 64))), (UInt8.ofNat (128 + (((x / 64) % 256) % 64))), (UInt8.ofNat (128 + ((x % 256) % 64)))].map dU8)) rfl (Hp.cvs_sl (.cons (Cv.eq (u8_eq rfl (by omega))) (.cons (Cv.eq (u8_eq rfl (by omega))) (.cons (Cv.eq (u8_eq rfl (by omega))) (.cons (Cv.eq (u8_eq rfl (by omega))) .nil)))))) ?_
              refine od_step rfl rfl (ef_append_m (f := dU8) (l := bs) (l' := [(UInt8.ofNat (240 + ((x / 262144) % 256))), (UInt8.ofNat (128 + (((x / 4096) % 256) % 64))), (UInt8.ofNat (128 + (((x / 64) % 256) % 64))), (UInt8.ofNat (128 + ((x % 256) % 64)))]) (i := 1) rfl rfl rfl (SrcD.own (j := 0) rfl rfl) und_176 infz_5 rfl rfl (by unfold maxLen; (try simp only [List.length_append, List.length_cons, List.length_nil, List.length_map, List.length_take, List.length_drop, List.length_set, List.length_replicate]); omega) (by (try simp only [List.length_append, List.length_cons, List.length_nil, List.length_map, List.length_take, List.length_drop, List.length_set, List.length_replicate]); omega)) ?_
              rintro _ _ ⟨v24, rfl, rfl⟩
              refine OpsD.norm [.sl (.slice (some ⟨g23, 0, none⟩) 4 4) 1 5 ([(UInt8.ofNat (240 + ((x / 262144) % 256))), (UInt8.ofNat (128 + (((x / 4096) % 256) % 64))), (UInt8.ofNat (128 + (((x / 64) % 256) % 64))), (UInt8.ofNat (128 + ((x % 256) % 64)))].map dU8), .sl v24 1 5 ((bs ++ [(UInt8.ofNat (240 + ((x / 262144) % 256))), (UInt8.ofNat (128 + (((x / 4096) % 256) % 64))), (UInt8.ofNat (128 + (((x / 64) % 256) % 64))), (UInt8.ofNat (128 + ((x % 256) % 64)))]).map dU8)] rfl ?_
              refine od_pu rfl rfl (p_assign rfl) ?_
              refine od_nil rfl ?_
              refine pd_seq ?_
              refine JD.keep [4] [(4, .ov v24)] rfl ?_
              refine jd_ret rfl ?_
              refine pd_block_ret ?_
              refine PD.subH (HSub.perm (perm_front (i := 1) rfl)) ?_
              refine PD.norm [.sl v24 1 5 ((bs ++ [(UInt8.ofNat (240 + ((x / 262144) % 256))), (UInt8.ofNat (128 + (((x / 4096) % 256) % 64))), (UInt8.ofNat (128 + (((x / 64) % 256) % 64))), (UInt8.ofNat (128 + ((x % 256) % 64)))]).map dU8), .sl (.slice (some ⟨g23, 0, none⟩) 4 4) 1 5 ([(UInt8.ofNat (240 + ((x / 262144) % 256))), (UInt8.ofNat (128 + (((x / 4096) % 256) % 64))), (UInt8.ofNat (128 + (((x / 64) % 256) % 64))), (UInt8.ofNat (128 + ((x % 256) % 64)))].map dU8)] rfl ?_
              refine PD.norm [.sl v24 1 5 ((bs ++ encR x).map dU8), .sl (.slice (some ⟨g23, 0, none⟩) 4 4) 1 5 ([(UInt8.ofNat (240 + ((x / 262144) % 256))), (UInt8.ofNat (128 + (((x / 4096) % 256) % 64))), (UInt8.ofNat (128 + (((x / 64) % 256) % 64))), (UInt8.ofNat (128 + ((x % 256) % 64)))].map dU8)] (by first | (exfalso; omega) | skip; unfold encR; first | rw [if_neg (by omega), if_pos (by omega)] | rw [if_neg (by omega), if_neg (by omega), if_pos (by omega)] | rw [if_neg (by omega), if_neg (by omega), if_neg (by omega), if_pos (by omega)] | rw [if_neg (by omega), if_neg (by omega), if_neg (by omega), if_neg (by omega)]) ?_
              exact pd_retH Try.results183 (.cons (ro_tmp rfl) .nil) rfl (HSub.fst 1 rfl) ⟨v24, rfl, rfl⟩
            · simp only [Bool.and_eq_true, Bool.or_eq_true, Bool.not_eq_true', Bool.not_eq_false', Bool.and_eq_false_iff, Bool.or_eq_false_iff, decide_eq_true_eq, decide_eq_false_iff_not, Decidable.not_not, ne_eq] at hc22
              refine jd_seq [true, true, false, true, true, true, true, true, true, false] [true, true, false, true, true, true, true, true, true, true] rfl rfl rfl ?_
              refine jd_region rfl ?_
              refine od_pu rfl rfl (p_move rfl) ?_
              refine od_step rfl rfl (ef_buildSlice [.const (.int .u8 239), .const (.int .u8 191), .const (.int .u8 189)] rfl rfl (.cons (CellD.v rfl) (.cons (CellD.v rfl) (.cons (CellD.v rfl) .nil))) rfl Try.runUnderlying176 Try.sizeOf5 Try.zeroValue5 rfl rfl rfl rfl) ?_
              rintro _ _ ⟨g25, rfl, rfl⟩
              refine od_step rfl rfl (ef_append_m (f := dU8) (l := bs) (l' := [(239 : UInt8), (191 : UInt8), (189 : UInt8)]) (i := 1) rfl rfl rfl (SrcD.own (j := 0) rfl rfl) und_176 infz_5 rfl rfl (by unfold maxLen; (try simp only [List.length_append, List.length_cons, List.length_nil, List.length_map, List.length_take, List.length_drop, List.length_set, List.length_replicate]); omega) (by (try simp only [List.length_append, List.length_cons, List.length_nil, List.length_map, List.length_take, List.length_drop, List.length_set, List.length_replicate]); omega)) ?_
              rintro _ _ ⟨v26, rfl, rfl⟩
              refine OpsD.norm [.sl (.slice (some ⟨g25, 0, none⟩) 3 3) 1 5 ([.v (.int .u8 239), .v (.int .u8 191), .v (.int .u8 189)]), .sl v26 1 5 ((bs ++ [(239 : UInt8), (191 : UInt8), (189 : UInt8)]).map dU8)] rfl ?_
              refine od_pu rfl rfl (p_assign rfl) ?_
              refine od_nil rfl ?_
              refine pd_seq ?_
              refine jd_ret rfl ?_
              refine pd_block_ret ?_
              refine PD.subH (HSub.perm (perm_front (i := 1) rfl)) ?_
              refine PD.norm [.sl v26 1 5 ((bs ++ [(239 : UInt8), (191 : UInt8), (189 : UInt8)]).map dU8), .sl (.slice (some ⟨g25, 0, none⟩) 3 3) 1 5 ([.v (.int .u8 239), .v (.int .u8 191), .v (.int .u8 189)])] rfl ?_
              refine PD.norm [.sl v26 1 5 ((bs ++ encR x).map dU8), .sl (.slice (some ⟨g25, 0, none⟩) 3 3) 1 5 ([.v (.int .u8 239), .v (.int .u8 191), .v (.int .u8 189)])] (by first | (exfalso; omega) | skip; unfold encR; first | rw [if_neg (by omega), if_pos (by omega)] | rw [if_neg (by omega), if_neg (by omega), if_pos (by omega)] | rw [if_neg (by omega), if_neg (by omega), if_neg (by omega), if_pos (by omega)] | rw [if_neg (by omega), if_neg (by omega), if_neg (by omega), if_neg (by omega)]) ?_
              exact pd_retH Try.results183 (.cons (ro_tmp rfl) .nil) rfl (HSub.fst 1 rfl) ⟨v26, rfl, rfl⟩

set_option maxHeartbeats 4000000 in
set_option maxRecDepth 100000 in
theorem appR_c (v : Value) (bs : List UInt8) (x : Nat) (h2 : x < 2147483648) (hl : bs.length ≤ 1000000000000) :
    CD Try.prog 169 [.sl v 1 5 (bs.map dU8)] [.ov v, .v (.int .i32 ((x : Nat) : Int))] (fun r H' => ∃ v', r = .ov v' ∧ H' = [.sl v' 1 5 ((bs ++ encR x).map dU8)]) := by
  refine cd_of_JD Try.func169 rfl (N := 16) rfl rfl (fun C => ?_)
  refine JD.keep [0, 1] [(0, .ov v), (1, .v (.int .i32 ((x : Nat) : Int)))] rfl ?_
  refine jd_seq [false] [true] rfl rfl rfl ?_
  refine jd_region rfl ?_
  refine od_pu rfl rfl (p_assign rfl) ?_
  refine od_nil rfl ?_
  refine pd_seq ?_
  refine jd_seq [true, false] [true, true] rfl rfl rfl ?_
  refine jd_seq [true, false, false] [true, false, true] rfl rfl rfl ?_
  refine jd_region rfl ?_
  refine od_pu rfl rfl (p_move rfl) ?_
  refine od_pu rfl rfl (p_cast rfl (c := ((x : Nat) : Int)) (cv_21_207 (by omega))) ?_
  refine od_pu rfl rfl (p_leq rfl rfl rfl) ?_
  refine od_nil rfl ?_
  refine pd_seq ?_
  refine jd_cond [true, false, true, false] [true, false, true, true] rfl rfl rfl rfl (fun hc1 => ?_) (fun hc1 => ?_)
  · replace hc1 := of_decide_eq_true hc1
    refine jd_seq [true, false, true, false, false] [true, false, true, false, true] rfl rfl rfl ?_
    refine jd_region rfl ?_
    refine od_pu rfl rfl (p_move rfl) ?_
    refine od_pu rfl rfl (p_move rfl) ?_
    refine od_pu rfl rfl (p_cast rfl (c := ((x % 256 : Nat) : Int)) (cvm_21_5 _)) ?_
    refine od_step rfl rfl (ef_buildSlice [.tmp 10] rfl rfl (.cons (CellD.v rfl) .nil) rfl Try.runUnderlying176 Try.sizeOf5 Try.zeroValue5 rfl rfl rfl rfl) ?_
    rintro _ _ ⟨g2, rfl, rfl⟩
    refine OpsD.subH (HSub.turn (h' := .sl (.slice (some ⟨g2, 0, none⟩) 1 1) 1 5 ([(UInt8.ofNat (x % 256))].map dU8)) rfl (Hp.cvs_sl (.cons (Cv.eq (u8_eq rfl (by omega))) .nil))) ?_
    refine od_step rfl rfl (ef_append_m (f := dU8) (l := bs) (l' := [(UInt8.ofNat (x % 256))]) (i := 1) rfl rfl rfl (SrcD.own (j := 0) rfl rfl) und_176 infz_5 rfl rfl (by unfold maxLen; (try simp only [List.length_append, List.length_cons, List.length_nil, List.length_map, List.length_take, List.length_drop, List.length_set, List.length_replicate]); omega) (by (try simp only [List.length_append, List.length_cons, List.length_nil, List.length_map, List.length_take, List.length_drop, List.length_set, List.length_replicate]); omega)) ?_
    rintro _ _ ⟨v3, rfl, rfl⟩
    refine OpsD.norm [.sl (.slice (some ⟨g2, 0, none⟩) 1 1) 1 5 ([(UInt8.ofNat (x % 256))].map dU8), .sl v3 1 5 ((bs ++ [(UInt8.ofNat (x % 256))]).map dU8)] rfl ?_
    refine od_pu rfl rfl (p_assign rfl) ?_
    refine od_nil rfl ?_
    refine pd_seq ?_
    refine jd_ret rfl ?_
    refine pd_seq_ret ?_
    refine PD.subH (HSub.perm (perm_front (i := 1) rfl)) ?_
    refine PD.norm [.sl v3 1 5 ((bs ++ [(UInt8.ofNat (x % 256))]).map dU8), .sl (.slice (some ⟨g2, 0, none⟩) 1 1) 1 5 ([(UInt8.ofNat (x % 256))].map dU8)] rfl ?_
    refine PD.norm [.sl v3 1 5 ((bs ++ encR x).map dU8), .sl (.slice (some ⟨g2, 0, none⟩) 1 1) 1 5 ([(UInt8.ofNat (x % 256))].map dU8)] (by unfold encR; rw [if_pos (by omega)]) ?_
    exact pd_retH Try.results169 (.cons (ro_tmp rfl) .nil) rfl (HSub.fst 1 rfl) ⟨v3, rfl, rfl⟩
  · replace hc1 := of_decide_eq_false hc1
    refine jd_skip rfl ?_
    refine pd_seq ?_
    refine jd_seq [true, true, false] [true, true, true] rfl rfl rfl ?_
    refine jd_region rfl ?_
    refine od_pu rfl rfl (p_move rfl) ?_
    refine od_pu rfl rfl (p_move rfl) ?_
    refine od_step rfl rfl (ef_call [.sl v 1 5 (bs.map dU8)] [] [] rfl rfl (.cons ArgC.id (.cons ArgC.id .nil)) lend_nil Try.call183 (appNA_c v bs x (by omega) (by omega) (by (try simp only [List.length_append, List.length_cons, List.length_nil]); omega)) (.inl rfl)) ?_
    rintro _ _ ⟨_, ⟨rv4, rfl, rfl⟩, rfl⟩
    refine OpsD.norm [.sl rv4 1 5 ((bs ++ encR x).map dU8)] rfl ?_
    refine od_pu rfl rfl (p_assign rfl) ?_
    refine od_nil rfl ?_
    refine pd_seq ?_
    refine jd_ret rfl ?_
    exact pd_retH Try.results169 (.cons (ro_tmp rfl) .nil) rfl (HSub.fst 1 rfl) ⟨rv4, rfl, rfl⟩

set_option maxHeartbeats 4000000 in
set_option maxRecDepth 100000 in
theorem WriteRune_c (g : Nat) (p v : Value) (bs : List UInt8) (x : Nat) (hp : p = .pointer none ∨ p = .pointer (some ⟨g, 0, none⟩)) (hl : bs.length ≤ 1000000000000) (hx : x < 2147483648) :
    CD Try.prog 141 [.bx g 178 (.agg [.v p, .ov v]), .sl v 1 5 (bs.map dU8)] [.v (.pointer (some ⟨g, 0, none⟩)), .v (.int .i32 ((x : Nat) : Int))] (fun r H' => ∃ v' n, r = .tup [.v (.int .i64 n), .v .nilIface] ∧ H' = [.bx g 178 (.agg [.v (.pointer (some ⟨g, 0, none⟩)), .ov v']), .sl v' 1 5 ((bs ++ encR x).map dU8)]) := by
  refine cd_of_JD Try.func141 rfl (N := 30) rfl rfl (fun C => ?_)
  refine JD.keep [0, 1] [(0, .v (.pointer (some ⟨g, 0, none⟩))), (1, .v (.int .i32 ((x : Nat) : Int)))] rfl ?_
  have hel := encR_len x
  refine jd_seq [false] [true] rfl rfl rfl ?_
  refine jd_region rfl ?_
  refine od_pu rfl rfl (p_assign rfl) ?_
  refine od_pu rfl rfl (p_assign rfl) ?_
  refine od_nil rfl ?_
  refine pd_seq ?_
  refine jd_seq [true, false] [true, true] rfl rfl rfl ?_
  refine jd_region rfl ?_
  refine od_pu rfl rfl (p_move rfl) ?_
  refine od_step rfl rfl (ef_call [.bx g 178 (.agg [.v p, .ov v])] [.sl v 1 5 (bs.map dU8)] [] rfl rfl (.cons ArgC.id .nil) lend_nil Try.call168 (copyCheck_c g p (.ov v) hp) (.inl rfl)) ?_
  rintro _ _ ⟨_, ⟨rfl, rfl⟩, rfl⟩
  refine OpsD.norm [.bx g 178 (.agg [.v (.pointer (some ⟨g, 0, none⟩)), .ov v]), .sl v 1 5 (bs.map dU8)] rfl ?_
  refine od_nil rfl ?_
  refine pd_seq ?_
  refine jd_seq [true, true, false] [true, true, true] rfl rfl rfl ?_
  refine jd_region rfl ?_
  refine od_pu rfl rfl (p_move rfl) ?_
  refine od_pu rfl rfl (p_nilCheck rfl) ?_
  refine od_pu rfl rfl (p_fieldAddr rfl fa_178_1 rfl) ?_
  refine od_pu rfl rfl (p_load_bx1 rfl (i := 0) rfl Try.isAgg176 rfl) ?_
  refine od_pu rfl rfl (p_len_own (n := bs.length) (j := 1) rfl rfl Try.runUnderlying176 (List.length_map _)) ?_
  refine od_pu rfl rfl (p_assign rfl) ?_
  refine od_nil rfl ?_
  refine pd_seq ?_
  refine jd_seq [true, true, true, false] [true, true, true, true] rfl rfl rfl ?_
  refine jd_region rfl ?_
  refine od_pu rfl rfl (p_move rfl) ?_
  refine od_pu rfl rfl (p_move rfl) ?_
  refine od_pu rfl rfl (p_nilCheck rfl) ?_
  refine od_pu rfl rfl (p_fieldAddr rfl fa_178_1 rfl) ?_
  refine od_pu rfl rfl (p_load_bx1 rfl (i := 0) rfl Try.isAgg176 rfl) ?_
  refine od_pu rfl rfl (p_move rfl) ?_
  refine OpsD.subH (HSub.perm (perm_front (i := 1) rfl)) ?_
  refine OpsD.norm [.sl v 1 5 (bs.map dU8), .bx g 178 (.agg [.v (.pointer (some ⟨g, 0, none⟩)), .ov v])] rfl ?_
  refine od_step rfl rfl (ef_call [.sl v 1 5 (bs.map dU8)] [.bx g 178 (.agg [.v (.pointer (some ⟨g, 0, none⟩)), .ov v])] [] rfl rfl (.cons ArgC.id (.cons ArgC.id .nil)) lend_nil Try.call169 (appR_c v bs x  (by omega) (by (try simp only [List.length_append, List.length_cons, List.length_nil]); omega)) (.inl rfl)) ?_
  rintro _ _ ⟨_, ⟨rv1, rfl, rfl⟩, rfl⟩
  refine OpsD.norm [.sl rv1 1 5 ((bs ++ encR x).map dU8), .bx g 178 (.agg [.v (.pointer (some ⟨g, 0, none⟩)), .ov v])] rfl ?_
  refine od_pu rfl rfl (p_nilCheck rfl) ?_
  refine od_pu rfl rfl (p_fieldAddr rfl fa_178_1 rfl) ?_
  refine od_step rfl rfl (ef_store_bx (i := 1) (X' := .agg [.v (.pointer (some ⟨g, 0, none⟩)), .ov rv1]) rfl rfl rfl (CellD.o) Try.sizeOf176 rfl rfl rfl) ?_
  rintro _ _ ⟨rfl, rfl⟩
  refine OpsD.norm [.sl rv1 1 5 ((bs ++ encR x).map dU8), .bx g 178 (.agg [.v (.pointer (some ⟨g, 0, none⟩)), .ov rv1])] rfl ?_
  refine od_nil rfl ?_
  refine pd_seq ?_
  refine JD.keep [0, 4, 5, 6] [(0, .v (.pointer (some ⟨g, 0, none⟩))), (4, .v (.int .i64 0)), (5, .v .nilIface), (6, .v (.int .i64 ((bs.length : Nat) : Int)))] rfl ?_
  refine jd_seq [true, true, true, true, false] [true, true, true, true, true] rfl rfl rfl ?_
  refine jd_region rfl ?_
  refine od_pu rfl rfl (p_move rfl) ?_
  refine od_pu rfl rfl (p_nilCheck rfl) ?_
  refine od_pu rfl rfl (p_fieldAddr rfl fa_178_1 rfl) ?_
  refine od_pu rfl rfl (p_load_bx1 rfl (i := 1) rfl Try.isAgg176 rfl) ?_
  refine od_pu rfl rfl (p_len_own (n := (bs ++ encR x).length) (j := 0) rfl rfl Try.runUnderlying176 (List.length_map _)) ?_
  refine od_pu rfl rfl (p_move rfl) ?_
  refine od_pu rfl rfl (p_sub (c := ((((bs ++ encR x).length : Nat) : Int) - ((bs.length : Nat) : Int))) rfl rfl (w64eq (by omega) (by (try simp only [List.length_append]); omega))) ?_
  refine od_pu rfl rfl (p_assign rfl) ?_
  refine od_pu rfl rfl (p_assign rfl) ?_
  refine od_nil rfl ?_
  refine pd_seq ?_
  refine JD.keep [4, 5] [(4, .v (.int .i64 ((((bs ++ encR x).length : Nat) : Int) - ((bs.length : Nat) : Int)))), (5, .v .nilIface)] rfl ?_
  refine jd_ret rfl ?_
  refine PD.subH (HSub.perm (perm_front (i := 1) rfl)) ?_
  refine PD.norm [.bx g 178 (.agg [.v (.pointer (some ⟨g, 0, none⟩)), .ov rv1]), .sl rv1 1 5 ((bs ++ encR x).map dU8)] rfl ?_
  exact pd_retH Try.results141 (.cons (ro_tmp rfl) (.cons (ro_tmp rfl) .nil)) rfl (HSub.fst 2 rfl) ⟨rv1, _, rfl, rfl⟩

set_option maxHeartbeats 4000000 in
set_option maxRecDepth 100000 in
theorem String_c (g : Nat) (p v : Value) (bs : List UInt8) (h0 : bs ≠ []) :
    CD Try.prog 144 [.bx g 178 (.agg [.v p, .ov v]), .sl v 1 5 (bs.map dU8)] [.v (.pointer (some ⟨g, 0, none⟩))] (fun r H' => r = .s ⟨bs.toArray⟩ ∧ H' = []) := by
  refine cd_of_JD Try.func144 rfl (N := 14) rfl rfl (fun C => ?_)
  refine JD.keep [0] [(0, .v (.pointer (some ⟨g, 0, none⟩)))] rfl ?_
  refine jd_seq [false] [true] rfl rfl rfl ?_
  refine jd_region rfl ?_
  refine od_pu rfl rfl (p_assign rfl) ?_
  refine od_nil rfl ?_
  refine pd_seq ?_
  refine jd_seq [true, false] [true, true] rfl rfl rfl ?_
  refine JD.keep [0, 2] [(0, .v (.pointer (some ⟨g, 0, none⟩))), (2, .v (.string ByteArray.empty))] rfl ?_
  refine JD.norm [.bx g 178 (.agg [.v p, .ov v]), .sl v 1 5 (bs.map dU8)] rfl ?_
  refine jd_draw 10 [(3, .v (.pointer (some ⟨g, 0, none⟩)), none), (4, .v (.pointer (some ⟨g, 0, none⟩)), none), (5, .v (.pointer (some ⟨g, 1, none⟩)), none), (6, .ov v, none), (7, .v (.pointer (some ⟨bl v, 0, none⟩)), none), (8, .v (.pointer (some ⟨g, 0, none⟩)), none), (9, .v (.pointer (some ⟨g, 0, none⟩)), none), (10, .v (.pointer (some ⟨g, 1, none⟩)), none), (11, .ov v, none), (12, .v (.int .i64 ((bs.length : Nat) : Int)), none)] [.bx g 178 (.agg [.v p, .ov v]), .sl v 1 5 (bs.map dU8)] (Hn := [.bx g 178 (.agg [.v p, .ov v]), .sl v 1 5 (bs.map dU8)]) mixed rfl rfl rfl rfl HSub.rfl' rfl ⟨sa_p rfl rfl rfl (p_move rfl), sa_p rfl rfl rfl (p_nilCheck rfl), sa_p rfl rfl rfl (p_fieldAddr rfl fa_178_1 rfl), sa_p rfl rfl rfl (p_load_bx1 rfl (i := 0) rfl Try.isAgg176 rfl), sa_p rfl rfl rfl (p_sliceData (i := 1) rfl rfl (by rw [List.length_map]; exact List.length_pos_iff.2 h0)), sa_p rfl rfl rfl (p_move rfl), sa_p rfl rfl rfl (p_nilCheck rfl), sa_p rfl rfl rfl (p_fieldAddr rfl fa_178_1 rfl), sa_p rfl rfl rfl (p_load_bx1 rfl (i := 0) rfl Try.isAgg176 rfl), sa_p rfl rfl rfl (p_len_own (n := bs.length) (j := 1) rfl rfl Try.runUnderlying176 (List.length_map _)), trivial⟩ ?_
  refine OpsD.keep [0, 2, 3, 4, 5, 6, 7, 8, 9, 10, 11, 12] [(0, .v (.pointer (some ⟨g, 0, none⟩))), (2, .v (.string ByteArray.empty)), (3, .v (.pointer (some ⟨g, 0, none⟩))), (4, .v (.pointer (some ⟨g, 0, none⟩))), (5, .v (.pointer (some ⟨g, 1, none⟩))), (6, .ov v), (7, .v (.pointer (some ⟨bl v, 0, none⟩))), (8, .v (.pointer (some ⟨g, 0, none⟩))), (9, .v (.pointer (some ⟨g, 0, none⟩))), (10, .v (.pointer (some ⟨g, 1, none⟩))), (11, .ov v), (12, .v (.int .i64 ((bs.length : Nat) : Int)))] rfl ?_
  refine od_step rfl rfl (ef_unsafeString (i := 1) (bs := bs) rfl rfl rfl rfl h0 (by kernel_rfl) (by kernel_rfl)) ?_
  rintro _ _ ⟨rfl, rfl⟩
  refine OpsD.norm [.bx g 178 (.agg [.v p, .ov v])] rfl ?_
  refine od_pu rfl rfl (p_assign rfl) ?_
  refine od_nil rfl ?_
  refine pd_seq ?_
  refine JD.keep [2] [(2, .s (⟨bs.toArray⟩))] rfl ?_
  refine jd_ret rfl ?_
  exact pd_retH Try.results144 (.cons (ro_tmp rfl) .nil) rfl HSub.none ⟨rfl, rfl⟩

set_option maxHeartbeats 4000000 in
set_option maxRecDepth 100000 in
theorem hasP_c (a : ByteArray) (b : ByteArray)  :
    CD Try.prog 170 [] [.s a, .s b] (isR (dB (hasP a b))) := by
  refine cd_of_JD Try.func170 rfl (N := 18) rfl rfl (fun C => ?_)
  refine JD.keep [0, 1] [(0, .s a), (1, .s b)] rfl ?_
  refine JD.bd 0 rfl (fun bd0 => ?_)
  have sz0 : a.size ≤ 9223372036854775807 := bd0
  refine JD.bd 1 rfl (fun bd1 => ?_)
  have sz1 : b.size ≤ 9223372036854775807 := bd1
  refine jd_seq [false] [true] rfl rfl rfl ?_
  refine jd_region rfl ?_
  refine od_pu rfl rfl (p_assign rfl) ?_
  refine od_nil rfl ?_
  refine pd_seq ?_
  refine jd_seq [true, false] [true, true] rfl rfl rfl ?_
  refine JD.keep [0, 1] [(0, .s a), (1, .s b)] rfl ?_
  refine jd_sum 4 ((decide (((b.size : Nat) : Int) ≤ ((a.size : Nat) : Int)) && decide ((a.extract 0 b.size) = b))) [] (fun _ hQ1 => ?_) ?_
  · skip
    by_cases hg2 : ((b.size : Nat) : Int) ≤ ((a.size : Nat) : Int)
    · skip
      refine jd_region rfl ?_
      refine od_pu rfl rfl (p_move rfl) ?_
      refine od_pu rfl rfl (p_len_str rfl Try.runUnderlying9) ?_
      refine od_pu rfl rfl (p_move rfl) ?_
      refine od_pu rfl rfl (p_len_str rfl Try.runUnderlying9) ?_
      refine od_pu rfl rfl (p_geq rfl rfl (decide_eq_true hg2)) ?_
      refine od_pu rfl rfl (p_move rfl) ?_
      refine od_runp rfl rfl rfl rfl rfl (p_move rfl) ?_
      refine od_runp rfl rfl rfl rfl rfl (p_move rfl) ?_
      refine od_runp rfl rfl rfl rfl rfl (p_len_str rfl Try.runUnderlying9) ?_
      refine od_runp rfl rfl rfl rfl rfl (p_slice_str (a := 0) (c := b.size) rfl rfl rfl (by first | rfl | (show _ = _; omega)) (by first | rfl | (show _ = _; omega)) Try.runUnderlying9 (by omega) (by omega)) ?_
      refine od_runp rfl rfl rfl rfl rfl (p_move rfl) ?_
      refine od_runp rfl rfl rfl rfl rfl (p_eqs rfl rfl rfl) ?_
      refine od_pu rfl rfl (p_pick_t rfl rfl) ?_
      refine od_pu rfl rfl (p_assign rfl) ?_
      refine od_nil rfl ?_
      exact PD.sub ((4, .v (.bool (decide (((b.size : Nat) : Int) ≤ ((a.size : Nat) : Int)) && decide ((a.extract 0 b.size) = b)))) :: [(0, .s a), (1, .s b)]) ⟨sc rfl (Cv.eq (congrArg (fun b => D.v (.bool b)) (by first | (simp [hg2]; done) | (simp_all; done)))), sk rfl, sk rfl, trivial⟩ hQ1
    · skip
      refine jd_region rfl ?_
      refine od_pu rfl rfl (p_move rfl) ?_
      refine od_pu rfl rfl (p_len_str rfl Try.runUnderlying9) ?_
      refine od_pu rfl rfl (p_move rfl) ?_
      refine od_pu rfl rfl (p_len_str rfl Try.runUnderlying9) ?_
      refine od_pu rfl rfl (p_geq rfl rfl (decide_eq_false hg2)) ?_
      refine od_pu rfl rfl (p_move rfl) ?_
      refine od_skip rfl rfl rfl rfl rfl (by decide) ?_
      refine od_skip rfl rfl rfl rfl rfl (by decide) ?_
      refine od_skip rfl rfl rfl rfl rfl (by decide) ?_
      refine od_skip rfl rfl rfl rfl rfl (by decide) ?_
      refine od_skip rfl rfl rfl rfl rfl (by decide) ?_
      refine od_skip rfl rfl rfl rfl rfl (by decide) ?_
      refine od_pu rfl rfl (p_pick_f rfl rfl) ?_
      refine od_pu rfl rfl (p_assign rfl) ?_
      refine od_nil rfl ?_
      exact PD.sub ((4, .v (.bool (decide (((b.size : Nat) : Int) ≤ ((a.size : Nat) : Int)) && decide ((a.extract 0 b.size) = b)))) :: [(0, .s a), (1, .s b)]) ⟨sc rfl (Cv.eq (congrArg (fun b => D.v (.bool b)) (by first | (simp [hg2]; done) | (simp_all; done)))), sk rfl, sk rfl, trivial⟩ hQ1
  · skip
    refine pd_seq ?_
    refine jd_ret rfl ?_
    exact pd_retH Try.results170 (.cons (ro_cv (ro_tmp rfl) (Cv.eq (congrArg (fun b => D.v (.bool b)) (by unfold hasP; simp [*])))) .nil) rfl HSub.none ⟨rfl, rfl⟩

set_option maxHeartbeats 4000000 in
set_option maxRecDepth 100000 in
theorem HasPrefix_c (a : ByteArray) (b : ByteArray)  :
    CD Try.prog 143 [] [.s a, .s b] (isR (dB (hasP a b))) := by
  refine cd_of_JD Try.func143 rfl (N := 8) rfl rfl (fun C => ?_)
  refine JD.keep [0, 1] [(0, .s a), (1, .s b)] rfl ?_
  refine JD.bd 0 rfl (fun bd0 => ?_)
  have sz0 : a.size ≤ 9223372036854775807 := bd0
  refine JD.bd 1 rfl (fun bd1 => ?_)
  have sz1 : b.size ≤ 9223372036854775807 := bd1
  refine jd_seq [false] [true] rfl rfl rfl ?_
  refine jd_region rfl ?_
  refine od_pu rfl rfl (p_assign rfl) ?_
  refine od_nil rfl ?_
  refine pd_seq ?_
  refine jd_seq [true, false] [true, true] rfl rfl rfl ?_
  refine jd_region rfl ?_
  refine od_pu rfl rfl (p_move rfl) ?_
  refine od_pu rfl rfl (p_move rfl) ?_
  refine od_step rfl rfl (ef_call [] _ [] rfl rfl (.cons ArgC.id (.cons ArgC.id .nil)) lend_nil Try.call170 (hasP_c a b) (.inl rfl)) ?_
  rintro _ _ ⟨_, ⟨rfl, rfl⟩, rfl⟩
  refine OpsD.norm [] rfl ?_
  refine od_pu rfl rfl (p_assign rfl) ?_
  refine od_nil rfl ?_
  refine pd_seq ?_
  refine jd_ret rfl ?_
  exact pd_retH Try.results143 (.cons (ro_tmp rfl) .nil) rfl HSub.none ⟨rfl, rfl⟩

set_option maxHeartbeats 4000000 in
set_option maxRecDepth 100000 in
theorem Quote_c (s : ByteArray) (hs : s.size ≤ 1000000000) :
    CD Try.prog 104 [] [.s s] (isR (D.s (quoteB s))) := by
  refine cd_of_JD Try.func104 rfl (N := 54) rfl rfl (fun C => ?_)
  refine JD.keep [0] [(0, .s s)] rfl ?_
  refine JD.bd 0 rfl (fun bd0 => ?_)
  have sz0 : s.size ≤ 9223372036854775807 := bd0
  refine jd_seq [false] [true] rfl rfl rfl ?_
  refine jd_region rfl ?_
  refine od_pu rfl rfl (p_assign rfl) ?_
  refine od_nil rfl ?_
  refine pd_seq ?_
  refine jd_seq [true, false] [true, true] rfl rfl rfl ?_
  refine jd_region rfl ?_
  refine od_step rfl rfl (ef_alloc (zv := (.agg #[(.pointer none), (.slice none 0 0)])) (X := .agg [.v (.pointer none), .ov (.slice none 0 0)]) Try.zeroValue178 ⟨rfl, rfl, trivial⟩ ((Cv.vagg (by decide)).trans (Cv.agg (.cons Cv.rfl' (.cons (Cv.ov rfl) .nil))))) ?_
  rintro _ _ ⟨g1, rfl, rfl⟩
  refine OpsD.subH (HSub.nil 1 5) ?_
  refine OpsD.norm [.sl (.slice none 0 0) 1 5 ([].map dU8), .bx g1 178 (.agg [.v (.pointer none), .ov (.slice none 0 0)])] rfl ?_
  refine od_nil rfl ?_
  refine pd_seq ?_
  refine jd_seq [true, true, false] [true, true, true] rfl rfl rfl ?_
  refine jd_region rfl ?_
  refine OpsD.subH (HSub.perm (perm_front (i := 1) rfl)) ?_
  refine OpsD.norm [.bx g1 178 (.agg [.v (.pointer none), .ov (.slice none 0 0)]), .sl (.slice none 0 0) 1 5 ([].map dU8)] rfl ?_
  refine od_step rfl rfl (ef_call [.bx g1 178 (.agg [.v (.pointer none), .ov (.slice none 0 0)]), .sl (.slice none 0 0) 1 5 ([].map dU8)] [] [] rfl rfl (.cons ArgC.id (.cons ArgC.id .nil)) lend_nil Try.call140 (WriteByte_c g1 (.pointer none) (.slice none 0 0) [] (34 : UInt8) (.inl rfl) (by (try simp only [List.length_append, List.length_cons, List.length_nil]); omega)) (.inl rfl)) ?_
  rintro _ _ ⟨_, ⟨bv2, rfl, rfl⟩, rfl⟩
  refine OpsD.norm [.bx g1 178 (.agg [.v (.pointer (some ⟨g1, 0, none⟩)), .ov bv2]), .sl bv2 1 5 (([] ++ [(34 : UInt8)]).map dU8)] rfl ?_
  refine od_nil rfl ?_
  refine pd_seq ?_
  refine jd_seq [true, true, true, false] [true, true, true, true] rfl rfl rfl ?_
  refine jd_seq [true, true, true, false, false] [true, true, true, false, true] rfl rfl rfl ?_
  refine jd_region rfl ?_
  refine od_pu rfl rfl (p_move rfl) ?_
  refine od_step rfl rfl (ef_range rfl Try.runUnderlying9) ?_
  rintro _ _ ⟨g3, rfl, rfl⟩
  refine od_nil rfl ?_
  refine pd_seq ?_
  refine jd_block [true, true, true, false, true, false] rfl rfl ?_
  refine jd_loop (fun (g : Nat × Value × List UInt8) => [(0, .s s), (2, .v (.string ByteArray.empty)), (3, .v (.pointer (some ⟨g1, 0, none⟩))), (8, .v (.pointer (some ⟨g3, 0, none⟩)))]) (fun (g : Nat × Value × List UInt8) => [.it g3 s g.1, .bx g1 178 (.agg [.v (.pointer (some ⟨g1, 0, none⟩)), .ov g.2.1]), .sl g.2.1 1 5 (g.2.2.map dU8)]) (fun (g : Nat × Value × List UInt8) => (g.1 ≤ s.size) ∧ (g.2.2.length ≤ 1 + 5 * g.1) ∧ ([34] ++ quoteAt s 0 = g.2.2 ++ quoteAt s g.1)) (fun (g : Nat × Value × List UInt8) => s.size - g.1) [true, true, true, false, true, false, false] (0, bv2, ([] ++ [(34 : UInt8)])) rfl rfl ⟨sk rfl, sk rfl, sk rfl, sk rfl, trivial⟩ HSub.rfl' ⟨Nat.zero_le _, by simp, rfl⟩ ?_
  rintro ⟨p, ov, bs⟩ ⟨hp, hn, hq⟩
  replace hp : p ≤ s.size := hp
  replace hn : bs.length ≤ 1 + 5 * p := hn
  replace hq : [34] ++ quoteAt s 0 = bs ++ quoteAt s p := hq
  refine JD.keep [0, 2, 3, 8] [(0, .s s), (2, .v (.string ByteArray.empty)), (3, .v (.pointer (some ⟨g1, 0, none⟩))), (8, .v (.pointer (some ⟨g3, 0, none⟩)))] rfl ?_
  refine JD.norm [.it g3 s p, .bx g1 178 (.agg [.v (.pointer (some ⟨g1, 0, none⟩)), .ov ov]), .sl ov 1 5 (bs.map dU8)] rfl ?_
  rcases Nat.lt_or_ge p s.size with hlt | hge
  · skip
    have hrune := runesAt_lt hlt
    have hrl := decR_lt s p
    have hdw := decW_le s p hlt
    have hdp := decW_pos s p
    refine jd_seq [true, true, true, false, true, false, false, false] [true, true, true, false, true, false, false, true] rfl rfl rfl ?_
    refine jd_region rfl ?_
    refine od_step rfl rfl (ef_next_t (i := 0) rfl rfl hlt) ?_
    rintro _ _ ⟨rfl, rfl⟩
    refine OpsD.norm [.it g3 s (p + decW s p), .bx g1 178 (.agg [.v (.pointer (some ⟨g1, 0, none⟩)), .ov ov]), .sl ov 1 5 (bs.map dU8)] rfl ?_
    refine od_pu rfl rfl (p_extract rfl rfl) ?_
    refine od_nil rfl ?_
    refine pd_seq ?_
    refine jd_seq [true, true, true, false, true, false, false, true, false] [true, true, true, false, true, false, false, true, true] rfl rfl rfl ?_
    refine jd_cond_t [true, true, true, false, true, false, false, true, false, false] rfl rfl rfl ?_
    refine jd_skip rfl ?_
    refine pd_seq ?_
    refine jd_block [true, true, true, false, true, false, false, true, true, false] rfl rfl ?_
    refine jd_seq [true, true, true, false, true, false, false, true, true, false, false] [true, true, true, false, true, false, false, true, true, false, true] rfl rfl rfl ?_
    refine jd_region rfl ?_
    refine od_pu rfl rfl (p_extract rfl rfl) ?_
    refine od_pu rfl rfl (p_extract rfl rfl) ?_
    refine od_pu rfl rfl (p_assign rfl) ?_
    refine od_pu rfl rfl (p_assign rfl) ?_
    refine od_nil rfl ?_
    refine pd_seq ?_
    refine jd_block [true, true, true, false, true, false, false, true, true, false, true, false] rfl rfl ?_
    refine jd_seq [true, true, true, false, true, false, false, true, true, false, true, false, false] [true, true, true, false, true, false, false, true, true, false, true, false, true] rfl rfl rfl ?_
    refine JD.keep [0, 2, 3, 4, 5, 8, 9, 10, 11, 12] [(0, .s s), (2, .v (.string ByteArray.empty)), (3, .v (.pointer (some ⟨g1, 0, none⟩))), (4, .v (.int .i64 ((p : Nat) : Int))), (5, .v (.int .i32 ((decR s p : Nat) : Int))), (8, .v (.pointer (some ⟨g3, 0, none⟩))), (9, .tup [.v (.bool true), .v (.int .i64 ((p : Nat) : Int)), .v (.int .i32 ((decR s p : Nat) : Int))]), (10, .v (.bool true)), (11, .v (.int .i64 ((p : Nat) : Int))), (12, .v (.int .i32 ((decR s p : Nat) : Int)))] rfl ?_
    refine jd_sum 15 ((decide (((decR s p : Nat) : Int) = (34 : Int)) || decide (((decR s p : Nat) : Int) = (92 : Int)))) [.it g3 s (p + decW s p), .bx g1 178 (.agg [.v (.pointer (some ⟨g1, 0, none⟩)), .ov ov]), .sl ov 1 5 (bs.map dU8)] (fun _ hQ4 => ?_) ?_
    · skip
      by_cases hg5 : ((decR s p : Nat) : Int) = (34 : Int)
      · skip
        refine jd_region rfl ?_
        refine od_pu rfl rfl (p_move rfl) ?_
        refine od_pu rfl rfl (p_eql rfl rfl (decide_eq_true hg5)) ?_
        refine od_pu rfl rfl (p_move rfl) ?_
        refine od_skip rfl rfl rfl rfl rfl (by decide) ?_
        refine od_skip rfl rfl rfl rfl rfl (by decide) ?_
        refine od_pu rfl rfl (p_pick_t rfl rfl) ?_
        refine od_pu rfl rfl (p_assign rfl) ?_
        refine od_nil rfl ?_
        exact PD.sub ((15, .v (.bool (decide (((decR s p : Nat) : Int) = (34 : Int)) || decide (((decR s p : Nat) : Int) = (92 : Int))))) :: [(0, .s s), (2, .v (.string ByteArray.empty)), (3, .v (.pointer (some ⟨g1, 0, none⟩))), (4, .v (.int .i64 ((p : Nat) : Int))), (5, .v (.int .i32 ((decR s p : Nat) : Int))), (8, .v (.pointer (some ⟨g3, 0, none⟩))), (9, .tup [.v (.bool true), .v (.int .i64 ((p : Nat) : Int)), .v (.int .i32 ((decR s p : Nat) : Int))]), (10, .v (.bool true)), (11, .v (.int .i64 ((p : Nat) : Int))), (12, .v (.int .i32 ((decR s p : Nat) : Int)))]) ⟨sc rfl (Cv.eq (congrArg (fun b => D.v (.bool b)) (by first | (simp [hg5]; done) | (simp_all; done)))), sk rfl, sk rfl, sk rfl, sk rfl, sk rfl, sk rfl, sk rfl, sk rfl, sk rfl, sk rfl, trivial⟩ hQ4
      · skip
        refine jd_region rfl ?_
        refine od_pu rfl rfl (p_move rfl) ?_
        refine od_pu rfl rfl (p_eql rfl rfl (decide_eq_false hg5)) ?_
        refine od_pu rfl rfl (p_move rfl) ?_
        refine od_runp rfl rfl rfl rfl rfl (p_move rfl) ?_
        refine od_runp rfl rfl rfl rfl rfl (p_eql rfl rfl rfl) ?_
        refine od_pu rfl rfl (p_pick_f rfl rfl) ?_
        refine od_pu rfl rfl (p_assign rfl) ?_
        refine od_nil rfl ?_
        exact PD.sub ((15, .v (.bool (decide (((decR s p : Nat) : Int) = (34 : Int)) || decide (((decR s p : Nat) : Int) = (92 : Int))))) :: [(0, .s s), (2, .v (.string ByteArray.empty)), (3, .v (.pointer (some ⟨g1, 0, none⟩))), (4, .v (.int .i64 ((p : Nat) : Int))), (5, .v (.int .i32 ((decR s p : Nat) : Int))), (8, .v (.pointer (some ⟨g3, 0, none⟩))), (9, .tup [.v (.bool true), .v (.int .i64 ((p : Nat) : Int)), .v (.int .i32 ((decR s p : Nat) : Int))]), (10, .v (.bool true)), (11, .v (.int .i64 ((p : Nat) : Int))), (12, .v (.int .i32 ((decR s p : Nat) : Int)))]) ⟨sc rfl (Cv.eq (congrArg (fun b => D.v (.bool b)) (by first | (simp [hg5]; done) | (simp_all; done)))), sk rfl, sk rfl, sk rfl, sk rfl, sk rfl, sk rfl, sk rfl, sk rfl, sk rfl, sk rfl, trivial⟩ hQ4
    · skip
      refine pd_seq ?_
      refine jd_cond [true, true, true, false, true, false, false, true, true, false, true, false, true, false] [true, true, true, false, true, false, false, true, true, false, true, false, true, true] rfl rfl rfl rfl (fun hc6 => ?_) (fun hc6 => ?_)
      · simp only [Bool.and_eq_true, Bool.or_eq_true, Bool.not_eq_true', Bool.not_eq_false', Bool.and_eq_false_iff, Bool.or_eq_false_iff, decide_eq_true_eq, decide_eq_false_iff_not, Decidable.not_not, ne_eq] at hc6
        refine jd_seq [true, true, true, false, true, false, false, true, true, false, true, false, true, false, false] [true, true, true, false, true, false, false, true, true, false, true, false, true, false, true] rfl rfl rfl ?_
        refine jd_region rfl ?_
        refine OpsD.subH (HSub.perm (perm_front (i := 2) rfl)) ?_
        refine OpsD.norm [.sl ov 1 5 (bs.map dU8), .it g3 s (p + decW s p), .bx g1 178 (.agg [.v (.pointer (some ⟨g1, 0, none⟩)), .ov ov])] rfl ?_
        refine OpsD.subH (HSub.perm (perm_front (i := 2) rfl)) ?_
        refine OpsD.norm [.bx g1 178 (.agg [.v (.pointer (some ⟨g1, 0, none⟩)), .ov ov]), .sl ov 1 5 (bs.map dU8), .it g3 s (p + decW s p)] rfl ?_
        refine od_step rfl rfl (ef_call [.bx g1 178 (.agg [.v (.pointer (some ⟨g1, 0, none⟩)), .ov ov]), .sl ov 1 5 (bs.map dU8)] [.it g3 s (p + decW s p)] [] rfl rfl (.cons ArgC.id (.cons ArgC.id .nil)) lend_nil Try.call140 (WriteByte_c g1 (.pointer (some ⟨g1, 0, none⟩)) ov bs (92 : UInt8) (.inr rfl) (by (try simp only [List.length_append, List.length_cons, List.length_nil]); omega)) (.inl rfl)) ?_
        rintro _ _ ⟨_, ⟨bv7, rfl, rfl⟩, rfl⟩
        refine OpsD.norm [.bx g1 178 (.agg [.v (.pointer (some ⟨g1, 0, none⟩)), .ov bv7]), .sl bv7 1 5 ((bs ++ [(92 : UInt8)]).map dU8), .it g3 s (p + decW s p)] rfl ?_
        refine od_nil rfl ?_
        refine pd_seq ?_
        refine jd_region rfl ?_
        refine od_pu rfl rfl (p_move rfl) ?_
        refine od_step rfl rfl (ef_call [.bx g1 178 (.agg [.v (.pointer (some ⟨g1, 0, none⟩)), .ov bv7]), .sl bv7 1 5 ((bs ++ [(92 : UInt8)]).map dU8)] [.it g3 s (p + decW s p)] [] rfl rfl (.cons ArgC.id (.cons ArgC.id .nil)) lend_nil Try.call141 (WriteRune_c g1 (.pointer (some ⟨g1, 0, none⟩)) bv7 (bs ++ [(92 : UInt8)]) (decR s p) (.inr rfl) (by (try simp only [List.length_append, List.length_cons, List.length_nil]); omega) (by omega)) (.inl rfl)) ?_
        rintro _ _ ⟨_, ⟨bv8, nw9, rfl, rfl⟩, rfl⟩
        refine OpsD.norm [.bx g1 178 (.agg [.v (.pointer (some ⟨g1, 0, none⟩)), .ov bv8]), .sl bv8 1 5 (((bs ++ [(92 : UInt8)]) ++ encR (decR s p)).map dU8), .it g3 s (p + decW s p)] rfl ?_
        refine od_nil rfl ?_
        refine pd_block ?_
        refine pd_block ?_
        refine PD.subH (HSub.perm (perm_front (i := 1) rfl)) ?_
        refine PD.norm [.sl bv8 1 5 (((bs ++ [(92 : UInt8)]) ++ encR (decR s p)).map dU8), .bx g1 178 (.agg [.v (.pointer (some ⟨g1, 0, none⟩)), .ov bv8]), .it g3 s (p + decW s p)] rfl ?_
        refine PD.subH (HSub.perm (perm_front (i := 1) rfl)) ?_
        refine PD.norm [.bx g1 178 (.agg [.v (.pointer (some ⟨g1, 0, none⟩)), .ov bv8]), .sl bv8 1 5 (((bs ++ [(92 : UInt8)]) ++ encR (decR s p)).map dU8), .it g3 s (p + decW s p)] rfl ?_
        refine PD.subH (HSub.perm (perm_front (i := 2) rfl)) ?_
        refine PD.norm [.it g3 s (p + decW s p), .bx g1 178 (.agg [.v (.pointer (some ⟨g1, 0, none⟩)), .ov bv8]), .sl bv8 1 5 (((bs ++ [(92 : UInt8)]) ++ encR (decR s p)).map dU8)] rfl ?_
        exact pd_loop (p + decW s p, bv8, ((bs ++ [(92 : UInt8)]) ++ encR (decR s p))) ⟨sk rfl, sk rfl, sk rfl, sk rfl, trivial⟩ HSub.rfl' ⟨by have := decW_le s p hlt; omega, by (try simp only [List.length_append, List.length_cons, List.length_nil]); have := decW_pos s p; have := encR_len (decR s p); omega, by rw [hq, quoteAt_lt hlt, piece_1 (by omega)]; simp only [List.append_assoc, List.cons_append, List.nil_append]⟩ (by have := decW_pos s p; omega)
      · simp only [Bool.and_eq_true, Bool.or_eq_true, Bool.not_eq_true', Bool.not_eq_false', Bool.and_eq_false_iff, Bool.or_eq_false_iff, decide_eq_true_eq, decide_eq_false_iff_not, Decidable.not_not, ne_eq] at hc6
        refine jd_seq [true, true, true, false, true, false, false, true, true, false, true, false, true, true, false] [true, true, true, false, true, false, false, true, true, false, true, false, true, true, true] rfl rfl rfl ?_
        refine jd_region rfl ?_
        refine od_pu rfl rfl (p_move rfl) ?_
        refine od_pu rfl rfl (p_eql rfl rfl rfl) ?_
        refine od_pu rfl rfl (p_assign rfl) ?_
        refine od_nil rfl ?_
        refine pd_seq ?_
        refine jd_cond [true, true, true, false, true, false, false, true, true, false, true, false, true, true, true, false] [true, true, true, false, true, false, false, true, true, false, true, false, true, true, true, true] rfl rfl rfl rfl (fun hc10 => ?_) (fun hc10 => ?_)
        · replace hc10 := of_decide_eq_true hc10
          refine jd_region rfl ?_
          refine OpsD.subH (HSub.perm (perm_front (i := 2) rfl)) ?_
          refine OpsD.norm [.sl ov 1 5 (bs.map dU8), .it g3 s (p + decW s p), .bx g1 178 (.agg [.v (.pointer (some ⟨g1, 0, none⟩)), .ov ov])] rfl ?_
          refine OpsD.subH (HSub.perm (perm_front (i := 2) rfl)) ?_
          refine OpsD.norm [.bx g1 178 (.agg [.v (.pointer (some ⟨g1, 0, none⟩)), .ov ov]), .sl ov 1 5 (bs.map dU8), .it g3 s (p + decW s p)] rfl ?_
          refine od_step rfl rfl (ef_call [.bx g1 178 (.agg [.v (.pointer (some ⟨g1, 0, none⟩)), .ov ov]), .sl ov 1 5 (bs.map dU8)] [.it g3 s (p + decW s p)] [] rfl rfl (.cons ArgC.id (.cons (ArgC.cv (Cv.str (by first | decide | (unfold maxLen; omega)))) .nil)) lend_nil Try.call142 (WriteString_c g1 (.pointer (some ⟨g1, 0, none⟩)) ov bs (⟨#[92, 110]⟩ : ByteArray) (.inr rfl) (by (try simp only [List.length_append, List.length_cons, List.length_nil]); omega) (by first | decide | omega)) (.inl rfl)) ?_
          rintro _ _ ⟨_, ⟨bv11, rfl, rfl⟩, rfl⟩
          refine OpsD.norm [.bx g1 178 (.agg [.v (.pointer (some ⟨g1, 0, none⟩)), .ov bv11]), .sl bv11 1 5 ((bs ++ (⟨#[92, 110]⟩ : ByteArray).data.toList).map dU8), .it g3 s (p + decW s p)] rfl ?_
          refine od_nil rfl ?_
          refine pd_block ?_
          refine pd_block ?_
          refine PD.subH (HSub.perm (perm_front (i := 1) rfl)) ?_
          refine PD.norm [.sl bv11 1 5 ((bs ++ (⟨#[92, 110]⟩ : ByteArray).data.toList).map dU8), .bx g1 178 (.agg [.v (.pointer (some ⟨g1, 0, none⟩)), .ov bv11]), .it g3 s (p + decW s p)] rfl ?_
          refine PD.subH (HSub.perm (perm_front (i := 1) rfl)) ?_
          refine PD.norm [.bx g1 178 (.agg [.v (.pointer (some ⟨g1, 0, none⟩)), .ov bv11]), .sl bv11 1 5 ((bs ++ (⟨#[92, 110]⟩ : ByteArray).data.toList).map dU8), .it g3 s (p + decW s p)] rfl ?_
          refine PD.subH (HSub.perm (perm_front (i := 2) rfl)) ?_
          refine PD.norm [.it g3 s (p + decW s p), .bx g1 178 (.agg [.v (.pointer (some ⟨g1, 0, none⟩)), .ov bv11]), .sl bv11 1 5 ((bs ++ (⟨#[92, 110]⟩ : ByteArray).data.toList).map dU8)] rfl ?_
          exact pd_loop (p + decW s p, bv11, (bs ++ (⟨#[92, 110]⟩ : ByteArray).data.toList)) ⟨sk rfl, sk rfl, sk rfl, sk rfl, trivial⟩ HSub.rfl' ⟨by have := decW_le s p hlt; omega, by (try simp only [List.length_append, List.length_cons, List.length_nil]); have := decW_pos s p; have := encR_len (decR s p); omega, by rw [hq, quoteAt_lt hlt, piece_2 (by omega) (by omega)]; simp only [List.append_assoc, List.cons_append, List.nil_append]⟩ (by have := decW_pos s p; omega)
        · replace hc10 := of_decide_eq_false hc10
          refine jd_seq [true, true, true, false, true, false, false, true, true, false, true, false, true, true, true, true, false] [true, true, true, false, true, false, false, true, true, false, true, false, true, true, true, true, true] rfl rfl rfl ?_
          refine JD.keep [0, 2, 3, 4, 5, 8, 9, 10, 11, 12, 15, 25, 26, 27] [(0, .s s), (2, .v (.string ByteArray.empty)), (3, .v (.pointer (some ⟨g1, 0, none⟩))), (4, .v (.int .i64 ((p : Nat) : Int))), (5, .v (.int .i32 ((decR s p : Nat) : Int))), (8, .v (.pointer (some ⟨g3, 0, none⟩))), (9, .tup [.v (.bool true), .v (.int .i64 ((p : Nat) : Int)), .v (.int .i32 ((decR s p : Nat) : Int))]), (10, .v (.bool true)), (11, .v (.int .i64 ((p : Nat) : Int))), (12, .v (.int .i32 ((decR s p : Nat) : Int))), (15, .v (.bool (decide (((decR s p : Nat) : Int) = (34 : Int)) || decide (((decR s p : Nat) : Int) = (92 : Int))))), (25, .v (.bool (decide (((decR s p : Nat) : Int) = (10 : Int))))), (26, .v (.int .i32 ((decR s p : Nat) : Int))), (27, .v (.bool (decide (((decR s p : Nat) : Int) = (10 : Int)))))] rfl ?_
          refine jd_sum 29 ((decide (((decR s p : Nat) : Int) = (65533 : Int)) && !(hasP (s.extract p s.size) (⟨#[239, 191, 189]⟩ : ByteArray)))) [.it g3 s (p + decW s p), .bx g1 178 (.agg [.v (.pointer (some ⟨g1, 0, none⟩)), .ov ov]), .sl ov 1 5 (bs.map dU8)] (fun _ hQ12 => ?_) ?_
          · skip
            by_cases hg13 : ((decR s p : Nat) : Int) = (65533 : Int)
            · skip
              refine jd_region rfl ?_
              refine od_pu rfl rfl (p_move rfl) ?_
              refine od_pu rfl rfl (p_eql rfl rfl (decide_eq_true hg13)) ?_
              refine od_pu rfl rfl (p_move rfl) ?_
              refine od_runp rfl rfl rfl rfl rfl (p_move rfl) ?_
              refine od_runp rfl rfl rfl rfl rfl (p_move rfl) ?_
              refine od_runp rfl rfl rfl rfl rfl (p_slice_str (a := p) (c := s.size) rfl rfl rfl (by first | rfl | (show _ = _; omega)) (by first | rfl | (show _ = _; omega)) Try.runUnderlying9 (by omega) (by omega)) ?_
              refine od_run rfl rfl rfl rfl rfl (ef_call [] _ [] rfl rfl (.cons ArgC.id (.cons (ArgC.cv (Cv.str (by first | decide | (unfold maxLen; omega)))) .nil)) lend_nil Try.call143 (HasPrefix_c (s.extract p s.size) (⟨#[239, 191, 189]⟩ : ByteArray)) (.inl rfl)) ?_
              rintro _ _ ⟨_, ⟨rfl, rfl⟩, rfl⟩
              refine OpsD.norm [.it g3 s (p + decW s p), .bx g1 178 (.agg [.v (.pointer (some ⟨g1, 0, none⟩)), .ov ov]), .sl ov 1 5 (bs.map dU8)] rfl ?_
              refine od_runp rfl rfl rfl rfl rfl (p_not rfl) ?_
              refine od_pu rfl rfl (p_pick_t rfl rfl) ?_
              refine od_pu rfl rfl (p_assign rfl) ?_
              refine od_nil rfl ?_
              exact PD.sub ((29, .v (.bool (decide (((decR s p : Nat) : Int) = (65533 : Int)) && !(hasP (s.extract p s.size) (⟨#[239, 191, 189]⟩ : ByteArray))))) :: [(0, .s s), (2, .v (.string ByteArray.empty)), (3, .v (.pointer (some ⟨g1, 0, none⟩))), (4, .v (.int .i64 ((p : Nat) : Int))), (5, .v (.int .i32 ((decR s p : Nat) : Int))), (8, .v (.pointer (some ⟨g3, 0, none⟩))), (9, .tup [.v (.bool true), .v (.int .i64 ((p : Nat) : Int)), .v (.int .i32 ((decR s p : Nat) : Int))]), (10, .v (.bool true)), (11, .v (.int .i64 ((p : Nat) : Int))), (12, .v (.int .i32 ((decR s p : Nat) : Int))), (15, .v (.bool (decide (((decR s p : Nat) : Int) = (34 : Int)) || decide (((decR s p : Nat) : Int) = (92 : Int))))), (25, .v (.bool (decide (((decR s p : Nat) : Int) = (10 : Int))))), (26, .v (.int .i32 ((decR s p : Nat) : Int))), (27, .v (.bool (decide (((decR s p : Nat) : Int) = (10 : Int)))))]) ⟨sc rfl (Cv.eq (congrArg (fun b => D.v (.bool b)) (by first | (simp [hc10, hg13]; done) | (simp_all; done)))), sk rfl, sk rfl, sk rfl, sk rfl, sk rfl, sk rfl, sk rfl, sk rfl, sk rfl, sk rfl, sk rfl, sk rfl, sk rfl, sk rfl, trivial⟩ hQ12
            · skip
              refine jd_region rfl ?_
              refine od_pu rfl rfl (p_move rfl) ?_
              refine od_pu rfl rfl (p_eql rfl rfl (decide_eq_false hg13)) ?_
              refine od_pu rfl rfl (p_move rfl) ?_
              refine od_skip rfl rfl rfl rfl rfl (by decide) ?_
              refine od_skip rfl rfl rfl rfl rfl (by decide) ?_
              refine od_skip rfl rfl rfl rfl rfl (by decide) ?_
              refine od_skip rfl rfl rfl rfl rfl (by decide) ?_
              refine od_skip rfl rfl rfl rfl rfl (by decide) ?_
              refine od_pu rfl rfl (p_pick_f rfl rfl) ?_
              refine od_pu rfl rfl (p_assign rfl) ?_
              refine od_nil rfl ?_
              exact PD.sub ((29, .v (.bool (decide (((decR s p : Nat) : Int) = (65533 : Int)) && !(hasP (s.extract p s.size) (⟨#[239, 191, 189]⟩ : ByteArray))))) :: [(0, .s s), (2, .v (.string ByteArray.empty)), (3, .v (.pointer (some ⟨g1, 0, none⟩))), (4, .v (.int .i64 ((p : Nat) : Int))), (5, .v (.int .i32 ((decR s p : Nat) : Int))), (8, .v (.pointer (some ⟨g3, 0, none⟩))), (9, .tup [.v (.bool true), .v (.int .i64 ((p : Nat) : Int)), .v (.int .i32 ((decR s p : Nat) : Int))]), (10, .v (.bool true)), (11, .v (.int .i64 ((p : Nat) : Int))), (12, .v (.int .i32 ((decR s p : Nat) : Int))), (15, .v (.bool (decide (((decR s p : Nat) : Int) = (34 : Int)) || decide (((decR s p : Nat) : Int) = (92 : Int))))), (25, .v (.bool (decide (((decR s p : Nat) : Int) = (10 : Int))))), (26, .v (.int .i32 ((decR s p : Nat) : Int))), (27, .v (.bool (decide (((decR s p : Nat) : Int) = (10 : Int)))))]) ⟨sc rfl (Cv.eq (congrArg (fun b => D.v (.bool b)) (by first | (simp [hc10, hg13]; done) | (simp_all; done)))), sk rfl, sk rfl, sk rfl, sk rfl, sk rfl, sk rfl, sk rfl, sk rfl, sk rfl, sk rfl, sk rfl, sk rfl, sk rfl, sk rfl, trivial⟩ hQ12
          · skip
            refine pd_seq ?_
            refine jd_cond [true, true, true, false, true, false, false, true, true, false, true, false, true, true, true, true, true, false] [true, true, true, false, true, false, false, true, true, false, true, false, true, true, true, true, true, true] rfl rfl rfl rfl (fun hc14 => ?_) (fun hc14 => ?_)
            · simp only [Bool.and_eq_true, Bool.or_eq_true, Bool.not_eq_true', Bool.not_eq_false', Bool.and_eq_false_iff, Bool.or_eq_false_iff, decide_eq_true_eq, decide_eq_false_iff_not, Decidable.not_not, ne_eq] at hc14
              refine jd_seq [true, true, true, false, true, false, false, true, true, false, true, false, true, true, true, true, true, false, false] [true, true, true, false, true, false, false, true, true, false, true, false, true, true, true, true, true, false, true] rfl rfl rfl ?_
              refine jd_region rfl ?_
              refine OpsD.subH (HSub.perm (perm_front (i := 2) rfl)) ?_
              refine OpsD.norm [.sl ov 1 5 (bs.map dU8), .it g3 s (p + decW s p), .bx g1 178 (.agg [.v (.pointer (some ⟨g1, 0, none⟩)), .ov ov])] rfl ?_
              refine OpsD.subH (HSub.perm (perm_front (i := 2) rfl)) ?_
              refine OpsD.norm [.bx g1 178 (.agg [.v (.pointer (some ⟨g1, 0, none⟩)), .ov ov]), .sl ov 1 5 (bs.map dU8), .it g3 s (p + decW s p)] rfl ?_
              refine od_step rfl rfl (ef_call [.bx g1 178 (.agg [.v (.pointer (some ⟨g1, 0, none⟩)), .ov ov]), .sl ov 1 5 (bs.map dU8)] [.it g3 s (p + decW s p)] [] rfl rfl (.cons ArgC.id (.cons (ArgC.cv (Cv.str (by first | decide | (unfold maxLen; omega)))) .nil)) lend_nil Try.call142 (WriteString_c g1 (.pointer (some ⟨g1, 0, none⟩)) ov bs (⟨#[92, 120]⟩ : ByteArray) (.inr rfl) (by (try simp only [List.length_append, List.length_cons, List.length_nil]); omega) (by first | decide | omega)) (.inl rfl)) ?_
              rintro _ _ ⟨_, ⟨bv15, rfl, rfl⟩, rfl⟩
              refine OpsD.norm [.bx g1 178 (.agg [.v (.pointer (some ⟨g1, 0, none⟩)), .ov bv15]), .sl bv15 1 5 ((bs ++ (⟨#[92, 120]⟩ : ByteArray).data.toList).map dU8), .it g3 s (p + decW s p)] rfl ?_
              refine od_nil rfl ?_
              refine pd_seq ?_
              refine jd_seq [true, true, true, false, true, false, false, true, true, false, true, false, true, true, true, true, true, false, true, false] [true, true, true, false, true, false, false, true, true, false, true, false, true, true, true, true, true, false, true, true] rfl rfl rfl ?_
              refine jd_region rfl ?_
              refine od_pu rfl rfl (p_move rfl) ?_
              refine od_pu rfl rfl (p_move rfl) ?_
              obtain ⟨u1, hu1⟩ := get_byte s p (by omega)
              have hlu1 := u1.toNat_lt
              refine od_pu rfl rfl (p_index_str (k := p) rfl rfl Try.runUnderlying9 (by first | rfl | omega) hu1) ?_
              refine od_pu rfl rfl (p_shr (a := u1.toNat) (n := 4) (m := 16) rfl rfl (by decide) (by decide)) ?_
              obtain ⟨u2, hu2⟩ := get_byte (⟨#[48, 49, 50, 51, 52, 53, 54, 55, 56, 57, 97, 98, 99, 100, 101, 102]⟩ : ByteArray) (u1.toNat / 16) (by show _ < 16; omega)
              have hlu2 := u2.toNat_lt
              refine od_pu rfl rfl (p_index_str (k := u1.toNat / 16) rfl rfl Try.runUnderlying9 (by first | rfl | omega) hu2) ?_
              refine od_step rfl rfl (ef_call [.bx g1 178 (.agg [.v (.pointer (some ⟨g1, 0, none⟩)), .ov bv15]), .sl bv15 1 5 ((bs ++ (⟨#[92, 120]⟩ : ByteArray).data.toList).map dU8)] [.it g3 s (p + decW s p)] [] rfl rfl (.cons ArgC.id (.cons ArgC.id .nil)) lend_nil Try.call140 (WriteByte_c g1 (.pointer (some ⟨g1, 0, none⟩)) bv15 (bs ++ (⟨#[92, 120]⟩ : ByteArray).data.toList) u2 (.inr rfl) (by (try simp only [List.length_append, List.length_cons, List.length_nil]); omega)) (.inl rfl)) ?_
              rintro _ _ ⟨_, ⟨bv16, rfl, rfl⟩, rfl⟩
              refine OpsD.norm [.bx g1 178 (.agg [.v (.pointer (some ⟨g1, 0, none⟩)), .ov bv16]), .sl bv16 1 5 (((bs ++ (⟨#[92, 120]⟩ : ByteArray).data.toList) ++ [u2]).map dU8), .it g3 s (p + decW s p)] rfl ?_
              refine od_nil rfl ?_
              refine pd_seq ?_
              refine jd_region rfl ?_
              refine od_pu rfl rfl (p_move rfl) ?_
              refine od_pu rfl rfl (p_move rfl) ?_
              refine od_pu rfl rfl (p_index_str (k := p) rfl rfl Try.runUnderlying9 (by first | rfl | omega) hu1) ?_
              refine od_pu rfl rfl (p_and8 (a := u1.toNat) (b := 15) rfl rfl (by omega) (by decide) (and15 _)) ?_
              obtain ⟨u3, hu3⟩ := get_byte (⟨#[48, 49, 50, 51, 52, 53, 54, 55, 56, 57, 97, 98, 99, 100, 101, 102]⟩ : ByteArray) (u1.toNat % 16) (by show _ < 16; omega)
              have hlu3 := u3.toNat_lt
              refine od_pu rfl rfl (p_index_str (k := u1.toNat % 16) rfl rfl Try.runUnderlying9 (by first | rfl | omega) hu3) ?_
              refine od_step rfl rfl (ef_call [.bx g1 178 (.agg [.v (.pointer (some ⟨g1, 0, none⟩)), .ov bv16]), .sl bv16 1 5 (((bs ++ (⟨#[92, 120]⟩ : ByteArray).data.toList) ++ [u2]).map dU8)] [.it g3 s (p + decW s p)] [] rfl rfl (.cons ArgC.id (.cons ArgC.id .nil)) lend_nil Try.call140 (WriteByte_c g1 (.pointer (some ⟨g1, 0, none⟩)) bv16 ((bs ++ (⟨#[92, 120]⟩ : ByteArray).data.toList) ++ [u2]) u3 (.inr rfl) (by (try simp only [List.length_append, List.length_cons, List.length_nil]); omega)) (.inl rfl)) ?_
              rintro _ _ ⟨_, ⟨bv17, rfl, rfl⟩, rfl⟩
              refine OpsD.norm [.bx g1 178 (.agg [.v (.pointer (some ⟨g1, 0, none⟩)), .ov bv17]), .sl bv17 1 5 ((((bs ++ (⟨#[92, 120]⟩ : ByteArray).data.toList) ++ [u2]) ++ [u3]).map dU8), .it g3 s (p + decW s p)] rfl ?_
              refine od_nil rfl ?_
              refine pd_block ?_
              refine pd_block ?_
              refine PD.subH (HSub.perm (perm_front (i := 1) rfl)) ?_
              refine PD.norm [.sl bv17 1 5 ((((bs ++ (⟨#[92, 120]⟩ : ByteArray).data.toList) ++ [u2]) ++ [u3]).map dU8), .bx g1 178 (.agg [.v (.pointer (some ⟨g1, 0, none⟩)), .ov bv17]), .it g3 s (p + decW s p)] rfl ?_
              refine PD.subH (HSub.perm (perm_front (i := 1) rfl)) ?_
              refine PD.norm [.bx g1 178 (.agg [.v (.pointer (some ⟨g1, 0, none⟩)), .ov bv17]), .sl bv17 1 5 ((((bs ++ (⟨#[92, 120]⟩ : ByteArray).data.toList) ++ [u2]) ++ [u3]).map dU8), .it g3 s (p + decW s p)] rfl ?_
              refine PD.subH (HSub.perm (perm_front (i := 2) rfl)) ?_
              refine PD.norm [.it g3 s (p + decW s p), .bx g1 178 (.agg [.v (.pointer (some ⟨g1, 0, none⟩)), .ov bv17]), .sl bv17 1 5 ((((bs ++ (⟨#[92, 120]⟩ : ByteArray).data.toList) ++ [u2]) ++ [u3]).map dU8)] rfl ?_
              exact pd_loop (p + decW s p, bv17, (((bs ++ (⟨#[92, 120]⟩ : ByteArray).data.toList) ++ [u2]) ++ [u3])) ⟨sk rfl, sk rfl, sk rfl, sk rfl, trivial⟩ HSub.rfl' ⟨by have := decW_le s p hlt; omega, by (try simp only [List.length_append, List.length_cons, List.length_nil]); have := decW_pos s p; have := encR_len (decR s p); omega, by rw [hq, quoteAt_lt hlt, piece_3 (by omega) (by omega) ⟨by have := hc14.1; omega, hc14.2⟩]; rw [← byteAt_at hu1]; rw [← hexB_at hu2, ← hexB_at hu3]; simp only [List.append_assoc, List.cons_append, List.nil_append]⟩ (by have := decW_pos s p; omega)
            · simp only [Bool.and_eq_true, Bool.or_eq_true, Bool.not_eq_true', Bool.not_eq_false', Bool.and_eq_false_iff, Bool.or_eq_false_iff, decide_eq_true_eq, decide_eq_false_iff_not, Decidable.not_not, ne_eq] at hc14
              refine jd_region rfl ?_
              refine od_pu rfl rfl (p_move rfl) ?_
              refine OpsD.subH (HSub.perm (perm_front (i := 2) rfl)) ?_
              refine OpsD.norm [.sl ov 1 5 (bs.map dU8), .it g3 s (p + decW s p), .bx g1 178 (.agg [.v (.pointer (some ⟨g1, 0, none⟩)), .ov ov])] rfl ?_
              refine OpsD.subH (HSub.perm (perm_front (i := 2) rfl)) ?_
              refine OpsD.norm [.bx g1 178 (.agg [.v (.pointer (some ⟨g1, 0, none⟩)), .ov ov]), .sl ov 1 5 (bs.map dU8), .it g3 s (p + decW s p)] rfl ?_
              refine od_step rfl rfl (ef_call [.bx g1 178 (.agg [.v (.pointer (some ⟨g1, 0, none⟩)), .ov ov]), .sl ov 1 5 (bs.map dU8)] [.it g3 s (p + decW s p)] [] rfl rfl (.cons ArgC.id (.cons ArgC.id .nil)) lend_nil Try.call141 (WriteRune_c g1 (.pointer (some ⟨g1, 0, none⟩)) ov bs (decR s p) (.inr rfl) (by (try simp only [List.length_append, List.length_cons, List.length_nil]); omega) (by omega)) (.inl rfl)) ?_
              rintro _ _ ⟨_, ⟨bv18, nw19, rfl, rfl⟩, rfl⟩
              refine OpsD.norm [.bx g1 178 (.agg [.v (.pointer (some ⟨g1, 0, none⟩)), .ov bv18]), .sl bv18 1 5 ((bs ++ encR (decR s p)).map dU8), .it g3 s (p + decW s p)] rfl ?_
              refine od_nil rfl ?_
              refine pd_block ?_
              refine pd_block ?_
              refine PD.subH (HSub.perm (perm_front (i := 1) rfl)) ?_
              refine PD.norm [.sl bv18 1 5 ((bs ++ encR (decR s p)).map dU8), .bx g1 178 (.agg [.v (.pointer (some ⟨g1, 0, none⟩)), .ov bv18]), .it g3 s (p + decW s p)] rfl ?_
              refine PD.subH (HSub.perm (perm_front (i := 1) rfl)) ?_
              refine PD.norm [.bx g1 178 (.agg [.v (.pointer (some ⟨g1, 0, none⟩)), .ov bv18]), .sl bv18 1 5 ((bs ++ encR (decR s p)).map dU8), .it g3 s (p + decW s p)] rfl ?_
              refine PD.subH (HSub.perm (perm_front (i := 2) rfl)) ?_
              refine PD.norm [.it g3 s (p + decW s p), .bx g1 178 (.agg [.v (.pointer (some ⟨g1, 0, none⟩)), .ov bv18]), .sl bv18 1 5 ((bs ++ encR (decR s p)).map dU8)] rfl ?_
              exact pd_loop (p + decW s p, bv18, (bs ++ encR (decR s p))) ⟨sk rfl, sk rfl, sk rfl, sk rfl, trivial⟩ HSub.rfl' ⟨by have := decW_le s p hlt; omega, by (try simp only [List.length_append, List.length_cons, List.length_nil]); have := decW_pos s p; have := encR_len (decR s p); omega, by rw [hq, quoteAt_lt hlt, piece_4 (by omega) (by omega) (fun e => by rcases hc14 with h | h <;> first | exact h (by have := e.1; omega) | exact absurd (e.2.symm.trans h) (by decide))]; simp only [List.append_assoc, List.cons_append, List.nil_append]⟩ (by have := decW_pos s p; omega)
  · skip
    have hrune := runesAt_ge hge
    refine jd_seq [true, true, true, false, true, false, false, false] [true, true, true, false, true, false, false, true] rfl rfl rfl ?_
    refine jd_region rfl ?_
    refine od_pu rfl rfl (p_next_f (i := 0) rfl rfl hge) ?_
    refine od_pu rfl rfl (p_extract rfl rfl) ?_
    refine od_nil rfl ?_
    refine pd_seq ?_
    refine jd_seq [true, true, true, false, true, false, false, true, false] [true, true, true, false, true, false, false, true, true] rfl rfl rfl ?_
    refine jd_cond_f [true, true, true, false, true, false, false, true, false, true] rfl rfl rfl ?_
    refine jd_exit rfl ?_
    refine pd_seq_exit ?_
    refine pd_loop_exit ?_
    refine pd_block_exit ?_
    refine pd_seq ?_
    refine jd_seq [true, true, true, true, false] [true, true, true, true, true] rfl rfl rfl ?_
    refine jd_region rfl ?_
    refine OpsD.subH (HSub.perm (perm_front (i := 2) rfl)) ?_
    refine OpsD.norm [.sl ov 1 5 (bs.map dU8), .it g3 s p, .bx g1 178 (.agg [.v (.pointer (some ⟨g1, 0, none⟩)), .ov ov])] rfl ?_
    refine OpsD.subH (HSub.perm (perm_front (i := 2) rfl)) ?_
    refine OpsD.norm [.bx g1 178 (.agg [.v (.pointer (some ⟨g1, 0, none⟩)), .ov ov]), .sl ov 1 5 (bs.map dU8), .it g3 s p] rfl ?_
    refine od_step rfl rfl (ef_call [.bx g1 178 (.agg [.v (.pointer (some ⟨g1, 0, none⟩)), .ov ov]), .sl ov 1 5 (bs.map dU8)] [.it g3 s p] [] rfl rfl (.cons ArgC.id (.cons ArgC.id .nil)) lend_nil Try.call140 (WriteByte_c g1 (.pointer (some ⟨g1, 0, none⟩)) ov bs (34 : UInt8) (.inr rfl) (by (try simp only [List.length_append, List.length_cons, List.length_nil]); omega)) (.inl rfl)) ?_
    rintro _ _ ⟨_, ⟨bv20, rfl, rfl⟩, rfl⟩
    refine OpsD.norm [.bx g1 178 (.agg [.v (.pointer (some ⟨g1, 0, none⟩)), .ov bv20]), .sl bv20 1 5 ((bs ++ [(34 : UInt8)]).map dU8), .it g3 s p] rfl ?_
    refine od_nil rfl ?_
    refine pd_seq ?_
    refine jd_seq [true, true, true, true, true, false] [true, true, true, true, true, true] rfl rfl rfl ?_
    refine jd_region rfl ?_
    refine od_step rfl rfl (ef_call [.bx g1 178 (.agg [.v (.pointer (some ⟨g1, 0, none⟩)), .ov bv20]), .sl bv20 1 5 ((bs ++ [(34 : UInt8)]).map dU8)] [.it g3 s p] [] rfl rfl (.cons ArgC.id .nil) lend_nil Try.call144 (String_c g1 (.pointer (some ⟨g1, 0, none⟩)) bv20 (bs ++ [(34 : UInt8)]) (by simp)) (.inl rfl)) ?_
    rintro _ _ ⟨_, ⟨rfl, rfl⟩, rfl⟩
    refine OpsD.norm [.it g3 s p] rfl ?_
    refine od_pu rfl rfl (p_assign rfl) ?_
    refine od_nil rfl ?_
    refine pd_seq ?_
    refine jd_ret rfl ?_
    exact pd_retH Try.results104 (.cons (ro_cv (ro_tmp rfl) (Cv.eq (congrArg D.s (by rw [quoteAt_ge hge, List.append_nil] at hq; rw [← hq]; rfl)))) .nil) rfl HSub.none ⟨rfl, rfl⟩

theorem ext_mnz (args : Array Value) (w : World) : (callFunc 184 args).run Try.prog w = ((Extern.BytealgMakeNoZero.makeNoZero #[3] #[176] args).run Try.prog w).andThen fun v w' => .ok (.value v) w' :=
  run_callFunc_extern Try.func184 (by kernel_rfl) (by kernel_rfl) (by kernel_rfl) (e := Extern.BytealgMakeNoZero.makeNoZero #[3] #[176]) (by kernel_rfl) args w

set_option maxHeartbeats 4000000 in
set_option maxRecDepth 100000 in
theorem grow0_c (g n : Nat) (hn : n ≤ 1000000000000) :
    CD Try.prog 171 [.bx g 178 (.agg [.v (.pointer (some ⟨g, 0, none⟩)), .ov (.slice none 0 0)]), .sl (.slice none 0 0) 1 5 ([].map dU8)] [.v (.pointer (some ⟨g, 0, none⟩)), .v (.int .i64 ((n : Nat) : Int))] (fun r H' => ∃ v', r = .tup [] ∧ H' = [.bx g 178 (.agg [.v (.pointer (some ⟨g, 0, none⟩)), .ov v']), .sl v' 1 5 ([].map dU8)]) := by
  refine cd_of_JD Try.func171 rfl (N := 30) rfl rfl (fun C => ?_)
  refine JD.keep [0, 1] [(0, .v (.pointer (some ⟨g, 0, none⟩))), (1, .v (.int .i64 ((n : Nat) : Int)))] rfl ?_
  refine jd_seq [false] [true] rfl rfl rfl ?_
  refine JD.keep [0, 1] [(0, .v (.pointer (some ⟨g, 0, none⟩))), (1, .v (.int .i64 ((n : Nat) : Int)))] rfl ?_
  refine JD.norm [.bx g 178 (.agg [.v (.pointer (some ⟨g, 0, none⟩)), .ov (.slice none 0 0)]), .sl (.slice none 0 0) 1 5 ([].map dU8)] rfl ?_
  refine jd_drawo 14 [(5, .q (.v (.pointer (some ⟨g, 0, none⟩)))), (6, .q (.v (.pointer (some ⟨g, 0, none⟩)))), (7, .q (.v (.pointer (some ⟨g, 1, none⟩)))), (8, .q (.ov (.slice none 0 0))), (9, .q (.v (.int .i64 0))), (10, .q (.v (.int .i64 0))), (11, .q (.v (.int .i64 ((n : Nat) : Int)))), (12, .q (.v (.int .i64 ((0 + n : Nat) : Int)))), (13, .o (fun γ => [.sl (γ 8) 1 5 (List.replicate (0 + n) .any), .bx g 178 (.agg [.v (.pointer (some ⟨g, 0, none⟩)), .ov (.slice none 0 0)]), .sl (.slice none 0 0) 1 5 ([].map dU8)])), (14, .q (.v (.pointer (some ⟨g, 0, none⟩)))), (15, .q (.v (.pointer (some ⟨g, 0, none⟩)))), (16, .q (.v (.pointer (some ⟨g, 1, none⟩)))), (17, .q (.ov (.slice none 0 0))), (18, .q (.v (.int .i64 0)))] [.bx g 178 (.agg [.v (.pointer (some ⟨g, 0, none⟩)), .ov (.slice none 0 0)]), .sl (.slice none 0 0) 1 5 ([].map dU8)] (Hn := fun γ => [.sl (γ 8) 1 5 (List.replicate (0 + n) .any), .bx g 178 (.agg [.v (.pointer (some ⟨g, 0, none⟩)), .ov (.slice none 0 0)]), .sl (.slice none 0 0) 1 5 ([].map dU8)]) mixed rfl rfl (by kernel_rfl) (by kernel_rfl) (by kernel_rfl) HSub.rfl' (fun _ => rfl) (fun γ => ⟨so_p rfl rfl rfl (p_move rfl), so_p rfl rfl rfl (p_nilCheck rfl), so_p rfl rfl rfl (p_fieldAddr rfl fa_178_1 rfl), so_p rfl rfl rfl (p_load_bx1 rfl (i := 0) rfl Try.isAgg176 rfl), so_p rfl rfl rfl (p_cap_nil rfl Try.runUnderlying176), so_p rfl rfl rfl (p_mul (c := (0 : Int)) rfl rfl (w64eq (by omega) (by omega))), so_p rfl rfl rfl (p_move rfl), so_p rfl rfl rfl (p_add (c := ((0 + n : Nat) : Int)) rfl rfl (w64eq (by omega) (by omega))), so_o rfl rfl rfl rfl ((ef_makeNoZero (n := 0 + n) ext_mnz rfl (by kernel_rfl) (by omega)).mono (by rintro _ _ ⟨v, rfl, rfl⟩; exact ⟨v, rfl, rfl⟩)) (fun _ => HSub.lst 1 rfl), so_p rfl rfl rfl (p_move rfl), so_p rfl rfl rfl (p_nilCheck rfl), so_p rfl rfl rfl (p_fieldAddr rfl fa_178_1 rfl), so_p rfl rfl rfl (p_load_bx1 rfl (i := 0) rfl Try.isAgg176 rfl), so_p rfl rfl rfl (p_len_own (n := 0) (j := 1) rfl rfl Try.runUnderlying176 rfl), trivial⟩) (fun γ => ?_)
  refine OpsD.keep [0, 1, 5, 6, 7, 8, 9, 10, 11, 12, 13, 14, 15, 16, 17, 18] [(0, .v (.pointer (some ⟨g, 0, none⟩))), (1, .v (.int .i64 ((n : Nat) : Int))), (5, .v (.pointer (some ⟨g, 0, none⟩))), (6, .v (.pointer (some ⟨g, 0, none⟩))), (7, .v (.pointer (some ⟨g, 1, none⟩))), (8, .ov (.slice none 0 0)), (9, .v (.int .i64 0)), (10, .v (.int .i64 0)), (11, .v (.int .i64 ((n : Nat) : Int))), (12, .v (.int .i64 ((0 + n : Nat) : Int))), (13, .ov (γ 8)), (14, .v (.pointer (some ⟨g, 0, none⟩))), (15, .v (.pointer (some ⟨g, 0, none⟩))), (16, .v (.pointer (some ⟨g, 1, none⟩))), (17, .ov (.slice none 0 0)), (18, .v (.int .i64 0))] rfl ?_
  refine od_pu rfl rfl (p_slice_ownov (a := 0) (b := 0) (j := 0) rfl rfl rfl rfl rfl rfl Try.runUnderlying176 Try.sizeOf5 (Nat.zero_le _) (Nat.zero_le _)) ?_
  refine od_pu rfl rfl (p_assign rfl) ?_
  refine od_nil rfl ?_
  refine pd_seq ?_
  refine JD.keep [0, 4] [(0, .v (.pointer (some ⟨g, 0, none⟩))), (4, .ov (cut 1 (γ 8) 0 0))] rfl ?_
  refine jd_seq [true, false] [true, true] rfl rfl rfl ?_
  refine JD.subH (HSub.turn (h' := .sl (cut 1 (γ 8) 0 0) 1 5 []) (Hp.front_blk _) (Hp.front (m := 0) (Nat.zero_le _))) ?_
  refine JD.norm [.sl (cut 1 (γ 8) 0 0) 1 5 ([].map dU8), .bx g 178 (.agg [.v (.pointer (some ⟨g, 0, none⟩)), .ov (.slice none 0 0)]), .sl (.slice none 0 0) 1 5 ([].map dU8)] rfl ?_
  refine JD.sub [(0, .v (.pointer (some ⟨g, 0, none⟩))), (4, .ov (cut 1 (γ 8) 0 0))] ⟨sk rfl, sk rfl, trivial⟩ ?_
  refine jd_region rfl ?_
  refine od_pu rfl rfl (p_move rfl) ?_
  refine od_pu rfl rfl (p_move rfl) ?_
  refine od_pu rfl rfl (p_nilCheck rfl) ?_
  refine od_pu rfl rfl (p_fieldAddr rfl fa_178_1 rfl) ?_
  refine od_pu rfl rfl (p_load_bx1 rfl (i := 1) rfl Try.isAgg176 rfl) ?_
  refine od_pu rfl rfl (p_copy0 (i := 0) rfl rfl rfl Try.runUnderlying176 Try.sizeOf5) ?_
  refine od_nil rfl ?_
  refine pd_seq ?_
  refine jd_region rfl ?_
  refine od_pu rfl rfl (p_move rfl) ?_
  refine od_pu rfl rfl (p_move rfl) ?_
  refine od_pu rfl rfl (p_nilCheck rfl) ?_
  refine od_pu rfl rfl (p_fieldAddr rfl fa_178_1 rfl) ?_
  refine od_step rfl rfl (ef_store_bx (i := 1) (X' := .agg [.v (.pointer (some ⟨g, 0, none⟩)), .ov (cut 1 (γ 8) 0 0)]) rfl rfl rfl (CellD.o) Try.sizeOf176 rfl rfl rfl) ?_
  rintro _ _ ⟨rfl, rfl⟩
  refine OpsD.norm [.sl (cut 1 (γ 8) 0 0) 1 5 ([].map dU8), .bx g 178 (.agg [.v (.pointer (some ⟨g, 0, none⟩)), .ov (cut 1 (γ 8) 0 0)]), .sl (.slice none 0 0) 1 5 ([].map dU8)] rfl ?_
  refine od_nil rfl ?_
  refine PD.subH (HSub.perm (perm_front (i := 1) rfl)) ?_
  refine PD.norm [.bx g 178 (.agg [.v (.pointer (some ⟨g, 0, none⟩)), .ov (cut 1 (γ 8) 0 0)]), .sl (cut 1 (γ 8) 0 0) 1 5 ([].map dU8), .sl (.slice none 0 0) 1 5 ([].map dU8)] rfl ?_
  exact pd_endH Try.results171 .nil rfl (HSub.fst 2 rfl) ⟨(cut 1 (γ 8) 0 0), rfl, rfl⟩

set_option maxHeartbeats 4000000 in
set_option maxRecDepth 100000 in
theorem Grow0_c (g n : Nat) (p : Value) (hp : p = .pointer none ∨ p = .pointer (some ⟨g, 0, none⟩)) (hn : n ≤ 1000000000000) :
    CD Try.prog 145 [.bx g 178 (.agg [.v p, .ov (.slice none 0 0)]), .sl (.slice none 0 0) 1 5 ([].map dU8)] [.v (.pointer (some ⟨g, 0, none⟩)), .v (.int .i64 ((n : Nat) : Int))] (fun r H' => ∃ v', r = .tup [] ∧ H' = [.bx g 178 (.agg [.v (.pointer (some ⟨g, 0, none⟩)), .ov v']), .sl v' 1 5 ([].map dU8)]) := by
  refine cd_of_JD Try.func145 rfl (N := 25) rfl rfl (fun C => ?_)
  refine JD.keep [0, 1] [(0, .v (.pointer (some ⟨g, 0, none⟩))), (1, .v (.int .i64 ((n : Nat) : Int)))] rfl ?_
  refine jd_seq [false] [true] rfl rfl rfl ?_
  refine jd_region rfl ?_
  refine od_pu rfl rfl (p_move rfl) ?_
  refine od_step rfl rfl (ef_call [.bx g 178 (.agg [.v p, .ov (.slice none 0 0)])] [.sl (.slice none 0 0) 1 5 ([].map dU8)] [] rfl rfl (.cons ArgC.id .nil) lend_nil Try.call168 (copyCheck_c g p (.ov (.slice none 0 0)) hp) (.inl rfl)) ?_
  rintro _ _ ⟨_, ⟨rfl, rfl⟩, rfl⟩
  refine OpsD.norm [.bx g 178 (.agg [.v (.pointer (some ⟨g, 0, none⟩)), .ov (.slice none 0 0)]), .sl (.slice none 0 0) 1 5 ([].map dU8)] rfl ?_
  refine od_nil rfl ?_
  refine pd_seq ?_
  refine jd_seq [true, false] [true, true] rfl rfl rfl ?_
  refine jd_seq [true, false, false] [true, false, true] rfl rfl rfl ?_
  refine jd_region rfl ?_
  refine od_pu rfl rfl (p_move rfl) ?_
  refine od_pu rfl rfl (p_lss rfl rfl rfl) ?_
  refine od_nil rfl ?_
  refine pd_seq ?_
  refine jd_cond [true, false, true, false] [true, false, true, true] rfl rfl rfl rfl (fun hc1 => ?_) (fun hc1 => ?_)
  · replace hc1 := of_decide_eq_true hc1
    exfalso; omega
  · replace hc1 := of_decide_eq_false hc1
    refine jd_skip rfl ?_
    refine pd_seq ?_
    refine jd_seq [true, true, false] [true, true, true] rfl rfl rfl ?_
    refine JD.keep [0, 1, 4, 5, 6, 7] [(0, .v (.pointer (some ⟨g, 0, none⟩))), (1, .v (.int .i64 ((n : Nat) : Int))), (4, .v (.pointer (some ⟨g, 0, none⟩))), (5, .tup []), (6, .v (.int .i64 ((n : Nat) : Int))), (7, .v (.bool (decide (((n : Nat) : Int) < (0 : Int)))))] rfl ?_
    refine JD.norm [.bx g 178 (.agg [.v (.pointer (some ⟨g, 0, none⟩)), .ov (.slice none 0 0)]), .sl (.slice none 0 0) 1 5 ([].map dU8)] rfl ?_
    refine jd_draw 12 [(9, .v (.pointer (some ⟨g, 0, none⟩)), none), (10, .v (.pointer (some ⟨g, 0, none⟩)), none), (11, .v (.pointer (some ⟨g, 1, none⟩)), none), (12, .ov (.slice none 0 0), none), (13, .v (.int .i64 0), none), (14, .v (.pointer (some ⟨g, 0, none⟩)), none), (15, .v (.pointer (some ⟨g, 0, none⟩)), none), (16, .v (.pointer (some ⟨g, 1, none⟩)), none), (17, .ov (.slice none 0 0), none), (18, .v (.int .i64 0), none), (19, .v (.int .i64 0), none), (20, .v (.int .i64 ((n : Nat) : Int)), none)] [.bx g 178 (.agg [.v (.pointer (some ⟨g, 0, none⟩)), .ov (.slice none 0 0)]), .sl (.slice none 0 0) 1 5 ([].map dU8)] (Hn := [.bx g 178 (.agg [.v (.pointer (some ⟨g, 0, none⟩)), .ov (.slice none 0 0)]), .sl (.slice none 0 0) 1 5 ([].map dU8)]) mixed rfl rfl rfl rfl HSub.rfl' rfl ⟨sa_p rfl rfl rfl (p_move rfl), sa_p rfl rfl rfl (p_nilCheck rfl), sa_p rfl rfl rfl (p_fieldAddr rfl fa_178_1 rfl), sa_p rfl rfl rfl (p_load_bx1 rfl (i := 0) rfl Try.isAgg176 rfl), sa_p rfl rfl rfl (p_cap_nil rfl Try.runUnderlying176), sa_p rfl rfl rfl (p_move rfl), sa_p rfl rfl rfl (p_nilCheck rfl), sa_p rfl rfl rfl (p_fieldAddr rfl fa_178_1 rfl), sa_p rfl rfl rfl (p_load_bx1 rfl (i := 0) rfl Try.isAgg176 rfl), sa_p rfl rfl rfl (p_len_own (n := 0) (j := 1) rfl rfl Try.runUnderlying176 rfl), sa_p rfl rfl rfl (p_sub (c := (0 : Int)) rfl rfl (w64eq (by omega) (by omega))), sa_p rfl rfl rfl (p_move rfl), trivial⟩ ?_
    refine OpsD.keep [0, 1, 4, 5, 6, 7, 9, 10, 11, 12, 13, 14, 15, 16, 17, 18, 19, 20] [(0, .v (.pointer (some ⟨g, 0, none⟩))), (1, .v (.int .i64 ((n : Nat) : Int))), (4, .v (.pointer (some ⟨g, 0, none⟩))), (5, .tup []), (6, .v (.int .i64 ((n : Nat) : Int))), (7, .v (.bool (decide (((n : Nat) : Int) < (0 : Int))))), (9, .v (.pointer (some ⟨g, 0, none⟩))), (10, .v (.pointer (some ⟨g, 0, none⟩))), (11, .v (.pointer (some ⟨g, 1, none⟩))), (12, .ov (.slice none 0 0)), (13, .v (.int .i64 0)), (14, .v (.pointer (some ⟨g, 0, none⟩))), (15, .v (.pointer (some ⟨g, 0, none⟩))), (16, .v (.pointer (some ⟨g, 1, none⟩))), (17, .ov (.slice none 0 0)), (18, .v (.int .i64 0)), (19, .v (.int .i64 0)), (20, .v (.int .i64 ((n : Nat) : Int)))] rfl ?_
    refine od_pu rfl rfl (p_lss rfl rfl rfl) ?_
    refine od_nil rfl ?_
    refine pd_seq ?_
    refine JD.keep [0, 1, 21] [(0, .v (.pointer (some ⟨g, 0, none⟩))), (1, .v (.int .i64 ((n : Nat) : Int))), (21, .v (.bool (decide ((0 : Int) < ((n : Nat) : Int)))))] rfl ?_
    refine jd_cond [true, true, true, false] [true, true, true, true] rfl rfl rfl rfl (fun hc2 => ?_) (fun hc2 => ?_)
    · replace hc2 := of_decide_eq_true hc2
      refine jd_region rfl ?_
      refine od_pu rfl rfl (p_move rfl) ?_
      refine od_pu rfl rfl (p_move rfl) ?_
      refine od_step rfl rfl (ef_call [.bx g 178 (.agg [.v (.pointer (some ⟨g, 0, none⟩)), .ov (.slice none 0 0)]), .sl (.slice none 0 0) 1 5 ([].map dU8)] [] [] rfl rfl (.cons ArgC.id (.cons ArgC.id .nil)) lend_nil Try.call171 (grow0_c g n (by omega)) (.inl rfl)) ?_
      rintro _ _ ⟨_, ⟨bv3, rfl, rfl⟩, rfl⟩
      refine OpsD.norm [.bx g 178 (.agg [.v (.pointer (some ⟨g, 0, none⟩)), .ov bv3]), .sl bv3 1 5 ([].map dU8)] rfl ?_
      refine od_nil rfl ?_
      exact pd_endH Try.results145 .nil rfl (HSub.fst 2 rfl) ⟨bv3, rfl, rfl⟩
    · replace hc2 := of_decide_eq_false hc2
      refine jd_skip rfl ?_
      exact pd_endH Try.results145 .nil rfl (HSub.fst 2 rfl) ⟨(.slice none 0 0), rfl, rfl⟩

set_option maxHeartbeats 4000000 in
set_option maxRecDepth 100000 in
theorem Join_c (l : List ByteArray) (sep : ByteArray) (hl : l.length ≤ 1000000) (hs : sumSz l ≤ 1000000000) (h0 : 0 < sep.size) (h1 : sep.size ≤ 1000) :
    CD Try.prog 105 [] [.sh 1 (l.map D.s), .s sep] (isR (D.s (joinB sep l))) := by
  refine cd_of_JD Try.func105 rfl (N := 75) rfl rfl (fun C => ?_)
  refine JD.keep [0, 1] [(0, .sh 1 (l.map D.s)), (1, .s sep)] rfl ?_
  refine JD.bd 0 rfl (fun bd0 => ?_)
  have nl0 := bd_len bd0
  refine JD.bd 1 rfl (fun bd1 => ?_)
  have sz1 : sep.size ≤ 9223372036854775807 := bd1
  refine jd_seq [false] [true] rfl rfl rfl ?_
  refine jd_region rfl ?_
  refine od_pu rfl rfl (p_assign rfl) ?_
  refine od_nil rfl ?_
  refine pd_seq ?_
  refine jd_seq [true, false] [true, true] rfl rfl rfl ?_
  refine jd_seq [true, false, false] [true, false, true] rfl rfl rfl ?_
  refine jd_region rfl ?_
  refine od_pu rfl rfl (p_move rfl) ?_
  refine od_pu rfl rfl (p_len (n := l.length) rfl Try.runUnderlying76 (by simp only [List.length_map, List.length_cons, List.length_nil])) ?_
  refine od_nil rfl ?_
  refine pd_seq ?_
  refine jd_block [true, false, true, false] rfl rfl ?_
  refine jd_seq [true, false, true, false, false] [true, false, true, false, true] rfl rfl rfl ?_
  refine jd_region rfl ?_
  refine od_pu rfl rfl (p_eql rfl rfl rfl) ?_
  refine od_pu rfl rfl (p_assign rfl) ?_
  refine od_nil rfl ?_
  refine pd_seq ?_
  refine jd_cond [true, false, true, false, true, false] [true, false, true, false, true, true] rfl rfl rfl rfl (fun hc1 => ?_) (fun hc1 => ?_)
  · replace hc1 := of_decide_eq_true hc1
    refine jd_seq [true, false, true, false, true, false, false] [true, false, true, false, true, false, true] rfl rfl rfl ?_
    refine jd_region rfl ?_
    refine od_pu rfl rfl (p_assign rfl) ?_
    refine od_nil rfl ?_
    refine pd_seq ?_
    refine jd_ret rfl ?_
    refine pd_block_ret ?_
    refine pd_seq_ret ?_
    exact pd_retH Try.results105 (.cons (ro_cv (ro_tmp rfl) (((Cv.str (by first | decide | (unfold maxLen; omega)))).trans (Cv.eq (congrArg D.s (by exact joinB_none (by omega)))))) .nil) rfl HSub.none ⟨rfl, rfl⟩
  · replace hc1 := of_decide_eq_false hc1
    refine jd_seq [true, false, true, false, true, true, false] [true, false, true, false, true, true, true] rfl rfl rfl ?_
    refine jd_region rfl ?_
    refine od_pu rfl rfl (p_eql rfl rfl rfl) ?_
    refine od_pu rfl rfl (p_assign rfl) ?_
    refine od_nil rfl ?_
    refine pd_seq ?_
    refine jd_cond [true, false, true, false, true, true, true, false] [true, false, true, false, true, true, true, true] rfl rfl rfl rfl (fun hc2 => ?_) (fun hc2 => ?_)
    · replace hc2 := of_decide_eq_true hc2
      refine jd_seq [true, false, true, false, true, true, true, false, false] [true, false, true, false, true, true, true, false, true] rfl rfl rfl ?_
      refine jd_region rfl ?_
      refine od_pu rfl rfl (p_move rfl) ?_
      obtain ⟨x1, hx1⟩ := get_some l 0 (by (try simp only [List.length_drop]); omega)
      have hsk0 := sumSz_le l 1
      have hsx0 : sumSz (l.take 1) = sumSz (l.take 0) + x1.size := sumSz_take hx1
      refine od_pu rfl rfl (p_indexAddr (k := 0) rfl rfl Try.runUnderlying76 Try.sizeOf9 (by first | rfl | omega) (get_map hx1)) ?_
      refine od_pu rfl rfl (p_load_el1 rfl Try.isAgg9 rfl) ?_
      refine od_pu rfl rfl (p_assign rfl) ?_
      refine od_nil rfl ?_
      refine pd_seq ?_
      refine JD.keep [0, 1, 4] [(0, .sh 1 (l.map D.s)), (1, .s sep), (4, .s x1)] rfl ?_
      refine jd_ret rfl ?_
      refine pd_block_ret ?_
      refine pd_seq_ret ?_
      exact pd_retH Try.results105 (.cons (ro_cv (ro_tmp rfl) (Cv.eq (congrArg D.s (by exact joinB_one hx1 (by omega))))) .nil) rfl HSub.none ⟨rfl, rfl⟩
    · replace hc2 := of_decide_eq_false hc2
      refine jd_skip rfl ?_
      refine pd_block ?_
      refine pd_seq ?_
      refine jd_seq [true, true, false] [true, true, true] rfl rfl rfl ?_
      refine jd_region rfl ?_
      refine od_pu rfl rfl (p_assign rfl) ?_
      refine od_nil rfl ?_
      refine pd_seq ?_
      refine jd_seq [true, true, true, false] [true, true, true, true] rfl rfl rfl ?_
      refine jd_seq [true, true, true, false, false] [true, true, true, false, true] rfl rfl rfl ?_
      refine jd_region rfl ?_
      refine od_pu rfl rfl (p_move rfl) ?_
      refine od_pu rfl rfl (p_len_str rfl Try.runUnderlying9) ?_
      refine od_pu rfl rfl (p_gtr rfl rfl rfl) ?_
      refine od_nil rfl ?_
      refine pd_seq ?_
      refine jd_cond [true, true, true, false, true, false] [true, true, true, false, true, true] rfl rfl rfl rfl (fun hc3 => ?_) (fun hc3 => ?_)
      · replace hc3 := of_decide_eq_true hc3
        refine jd_seq [true, true, true, false, true, false, false] [true, true, true, false, true, false, true] rfl rfl rfl ?_
        refine jd_seq [true, true, true, false, true, false, false, false] [true, true, true, false, true, false, false, true] rfl rfl rfl ?_
        refine jd_region rfl ?_
        refine od_pu rfl rfl (p_move rfl) ?_
        refine od_pu rfl rfl (p_len_str rfl Try.runUnderlying9) ?_
        refine od_pu rfl rfl (p_move rfl) ?_
        refine od_pu rfl rfl (p_len (n := l.length) rfl Try.runUnderlying76 (by simp only [List.length_map, List.length_cons, List.length_nil])) ?_
        refine od_pu rfl rfl (p_sub (c := ((l.length - 1 : Nat) : Int)) rfl rfl (w64eq (by omega) (by omega))) ?_
        obtain ⟨q, hq, hq1, hq2⟩ : ∃ q : Nat, 9223372036854775807 / (l.length - 1) = q ∧ 1001 ≤ q ∧ q ≤ 9223372036854775807 := ⟨_, rfl, (Nat.le_div_iff_mul_le (by omega)).2 (by omega), Nat.div_le_self _ _⟩
        refine od_pu rfl rfl (p_quo (c := ((q : Nat) : Int)) rfl rfl (by omega) (w64eq (by rw [Int.tdiv_eq_ediv_of_nonneg (by omega), ← hq]; first | exact Int.natCast_ediv _ _ | exact (Int.natCast_ediv _ _).symm) (by omega))) ?_
        refine od_pu rfl rfl (p_geq rfl rfl rfl) ?_
        refine od_nil rfl ?_
        refine pd_seq ?_
        refine JD.keep [0, 1, 4, 5, 29] [(0, .sh 1 (l.map D.s)), (1, .s sep), (4, .v (.string ByteArray.empty)), (5, .v (.int .i64 0)), (29, .v (.bool (decide (((q : Nat) : Int) ≤ ((sep.size : Nat) : Int)))))] rfl ?_
        refine jd_cond [true, true, true, false, true, false, false, true, false] [true, true, true, false, true, false, false, true, true] rfl rfl rfl rfl (fun hc4 => ?_) (fun hc4 => ?_)
        · replace hc4 := of_decide_eq_true hc4
          exfalso; omega
        · replace hc4 := of_decide_eq_false hc4
          refine jd_skip rfl ?_
          refine pd_seq ?_
          refine jd_region rfl ?_
          refine od_pu rfl rfl (p_move rfl) ?_
          refine od_pu rfl rfl (p_move rfl) ?_
          refine od_pu rfl rfl (p_len_str rfl Try.runUnderlying9) ?_
          refine od_pu rfl rfl (p_move rfl) ?_
          refine od_pu rfl rfl (p_len (n := l.length) rfl Try.runUnderlying76 (by simp only [List.length_map, List.length_cons, List.length_nil])) ?_
          refine od_pu rfl rfl (p_sub (c := ((l.length - 1 : Nat) : Int)) rfl rfl (w64eq (by omega) (by omega))) ?_
          obtain ⟨m, hm, hm1⟩ : ∃ m : Nat, sep.size * (l.length - 1) = m ∧ m ≤ 1000000000 := ⟨_, rfl, Nat.le_trans (Nat.mul_le_mul h1 (show (l.length - 1) ≤ 1000000 by omega)) (by decide)⟩
          refine od_pu rfl rfl (p_mul (c := ((m : Nat) : Int)) rfl rfl (w64eq (by rw [← hm]; first | exact Int.natCast_mul _ _ | exact (Int.natCast_mul _ _).symm) (by omega))) ?_
          refine od_pu rfl rfl (p_add (c := ((0 + m : Nat) : Int)) rfl rfl (w64eq (by omega) (by omega))) ?_
          refine od_pu rfl rfl (p_assign rfl) ?_
          refine od_nil rfl ?_
          refine pd_seq ?_
          refine JD.keep [0, 1, 4, 5] [(0, .sh 1 (l.map D.s)), (1, .s sep), (4, .v (.string ByteArray.empty)), (5, .v (.int .i64 ((0 + m : Nat) : Int)))] rfl ?_
          refine jd_seq [true, true, true, true, false] [true, true, true, true, true] rfl rfl rfl ?_
          refine jd_seq [true, true, true, true, false, false] [true, true, true, true, false, true] rfl rfl rfl ?_
          refine jd_region rfl ?_
          refine od_pu rfl rfl (p_move rfl) ?_
          refine od_pu rfl rfl (p_len (n := l.length) rfl Try.runUnderlying76 (by simp only [List.length_map, List.length_cons, List.length_nil])) ?_
          refine od_pu rfl rfl (p_move rfl) ?_
          refine od_nil rfl ?_
          refine pd_seq ?_
          refine jd_block [true, true, true, true, false, true, false] rfl rfl ?_
          refine jd_loop (fun (g : Nat × Nat) => [(0, .sh 1 (l.map D.s)), (1, .s sep), (4, .v (.string ByteArray.empty)), (39, .sh 1 (l.map D.s)), (40, .v (.int .i64 ((l.length : Nat) : Int))), (41, .v (.int .i64 ((g.1 : Nat) : Int))), (5, .v (.int .i64 ((g.2 : Nat) : Int)))]) (fun (g : Nat × Nat) => []) (fun (g : Nat × Nat) => (g.2 ≤ 1000000000 + sumSz (l.take g.1))) (fun (g : Nat × Nat) => l.length - g.1) [true, true, true, true, false, true, false, false] (0, 0 + m) rfl rfl ⟨sk rfl, sk rfl, sk rfl, sk rfl, sk rfl, sk rfl, sk rfl, trivial⟩ HSub.rfl' (by show _ ≤ _ + sumSz (l.take 0); omega) ?_
          rintro ⟨k, n⟩ hn
          replace hn : n ≤ 1000000000 + sumSz (l.take k) := hn
          refine JD.keep [0, 1, 4, 39, 40, 41, 5] [(0, .sh 1 (l.map D.s)), (1, .s sep), (4, .v (.string ByteArray.empty)), (39, .sh 1 (l.map D.s)), (40, .v (.int .i64 ((l.length : Nat) : Int))), (41, .v (.int .i64 ((k : Nat) : Int))), (5, .v (.int .i64 ((n : Nat) : Int)))] rfl ?_
          refine JD.norm [] rfl ?_
          have hskk := sumSz_le l k
          refine jd_seq [true, true, true, true, false, true, false, false, false] [true, true, true, true, false, true, false, false, true] rfl rfl rfl ?_
          refine jd_region rfl ?_
          refine od_pu rfl rfl (p_lss rfl rfl rfl) ?_
          refine od_nil rfl ?_
          refine pd_seq ?_
          refine jd_seq [true, true, true, true, false, true, false, false, true, false] [true, true, true, true, false, true, false, false, true, true] rfl rfl rfl ?_
          refine jd_cond [true, true, true, true, false, true, false, false, true, false, false] [true, true, true, true, false, true, false, false, true, false, true] rfl rfl rfl rfl (fun hc5 => ?_) (fun hc5 => ?_)
          · replace hc5 := of_decide_eq_true hc5
            refine jd_skip rfl ?_
            refine pd_seq ?_
            refine jd_seq [true, true, true, true, false, true, false, false, true, true, false] [true, true, true, true, false, true, false, false, true, true, true] rfl rfl rfl ?_
            refine jd_block [true, true, true, true, false, true, false, false, true, true, false, false] rfl rfl ?_
            refine jd_seq [true, true, true, true, false, true, false, false, true, true, false, false, false] [true, true, true, true, false, true, false, false, true, true, false, false, true] rfl rfl rfl ?_
            refine jd_region rfl ?_
            obtain ⟨x2, hx2⟩ := get_some l k (by (try simp only [List.length_drop]); omega)
            have hsk := sumSz_le l (k + 1)
            have hsx := sumSz_take hx2
            refine od_pu rfl rfl (p_indexAddr (k := k) rfl rfl Try.runUnderlying76 Try.sizeOf9 (by first | rfl | omega) (get_map hx2)) ?_
            refine od_pu rfl rfl (p_load_el1 rfl Try.isAgg9 rfl) ?_
            refine od_pu rfl rfl (p_assign rfl) ?_
            refine od_nil rfl ?_
            refine pd_seq ?_
            refine jd_seq [true, true, true, true, false, true, false, false, true, true, false, false, true, false] [true, true, true, true, false, true, false, false, true, true, false, false, true, true] rfl rfl rfl ?_
            refine jd_seq [true, true, true, true, false, true, false, false, true, true, false, false, true, false, false] [true, true, true, true, false, true, false, false, true, true, false, false, true, false, true] rfl rfl rfl ?_
            refine jd_region rfl ?_
            refine od_pu rfl rfl (p_move rfl) ?_
            refine od_pu rfl rfl (p_len_str rfl Try.runUnderlying9) ?_
            refine od_pu rfl rfl (p_move rfl) ?_
            refine od_pu rfl rfl (p_sub (c := ((9223372036854775807 - n : Nat) : Int)) rfl rfl (w64eq (by omega) (by omega))) ?_
            refine od_pu rfl rfl (p_gtr rfl rfl rfl) ?_
            refine od_nil rfl ?_
            refine pd_seq ?_
            refine jd_cond [true, true, true, true, false, true, false, false, true, true, false, false, true, false, true, false] [true, true, true, true, false, true, false, false, true, true, false, false, true, false, true, true] rfl rfl rfl rfl (fun hc6 => ?_) (fun hc6 => ?_)
            · replace hc6 := of_decide_eq_true hc6
              exfalso; omega
            · replace hc6 := of_decide_eq_false hc6
              refine jd_skip rfl ?_
              refine pd_seq ?_
              refine jd_region rfl ?_
              refine od_pu rfl rfl (p_move rfl) ?_
              refine od_pu rfl rfl (p_move rfl) ?_
              refine od_pu rfl rfl (p_len_str rfl Try.runUnderlying9) ?_
              refine od_pu rfl rfl (p_add (c := ((n + x2.size : Nat) : Int)) rfl rfl (w64eq (by omega) (by omega))) ?_
              refine od_pu rfl rfl (p_assign rfl) ?_
              refine od_nil rfl ?_
              refine pd_block ?_
              refine pd_seq ?_
              refine jd_region rfl ?_
              refine od_pu rfl rfl (p_add (c := ((k + 1 : Nat) : Int)) rfl rfl (w64eq (by omega) (by omega))) ?_
              refine od_pu rfl rfl (p_move rfl) ?_
              refine od_nil rfl ?_
              exact pd_loop (k + 1, n + x2.size) ⟨sk rfl, sk rfl, sk rfl, sk rfl, sk rfl, sk rfl, sk rfl, trivial⟩ HSub.rfl' (by have := sumSz_take hx2; show _ ≤ 1000000000 + sumSz (l.take (k + 1)); omega) (by omega)
          · replace hc5 := of_decide_eq_false hc5
            refine jd_exit rfl ?_
            refine pd_seq_exit ?_
            refine pd_loop_exit ?_
            refine pd_block_exit ?_
            refine pd_seq ?_
            refine jd_seq [true, true, true, true, true, false] [true, true, true, true, true, true] rfl rfl rfl ?_
            refine jd_region rfl ?_
            refine od_step rfl rfl (ef_alloc (zv := (.agg #[(.pointer none), (.slice none 0 0)])) (X := .agg [.v (.pointer none), .ov (.slice none 0 0)]) Try.zeroValue178 ⟨rfl, rfl, trivial⟩ ((Cv.vagg (by decide)).trans (Cv.agg (.cons Cv.rfl' (.cons (Cv.ov rfl) .nil))))) ?_
            rintro _ _ ⟨g7, rfl, rfl⟩
            refine OpsD.subH (HSub.nil 1 5) ?_
            refine OpsD.norm [.sl (.slice none 0 0) 1 5 ([].map dU8), .bx g7 178 (.agg [.v (.pointer none), .ov (.slice none 0 0)])] rfl ?_
            refine od_nil rfl ?_
            refine pd_seq ?_
            refine jd_seq [true, true, true, true, true, true, false] [true, true, true, true, true, true, true] rfl rfl rfl ?_
            refine jd_region rfl ?_
            refine od_pu rfl rfl (p_move rfl) ?_
            refine OpsD.subH (HSub.perm (perm_front (i := 1) rfl)) ?_
            refine OpsD.norm [.bx g7 178 (.agg [.v (.pointer none), .ov (.slice none 0 0)]), .sl (.slice none 0 0) 1 5 ([].map dU8)] rfl ?_
            refine od_step rfl rfl (ef_call [.bx g7 178 (.agg [.v (.pointer none), .ov (.slice none 0 0)]), .sl (.slice none 0 0) 1 5 ([].map dU8)] [] [] rfl rfl (.cons ArgC.id (.cons ArgC.id .nil)) lend_nil Try.call145 (Grow0_c g7 n (.pointer none) (.inl rfl) (by omega)) (.inl rfl)) ?_
            rintro _ _ ⟨_, ⟨bv8, rfl, rfl⟩, rfl⟩
            refine OpsD.norm [.bx g7 178 (.agg [.v (.pointer (some ⟨g7, 0, none⟩)), .ov bv8]), .sl bv8 1 5 ([].map dU8)] rfl ?_
            refine od_nil rfl ?_
            refine pd_seq ?_
            refine jd_seq [true, true, true, true, true, true, true, false] [true, true, true, true, true, true, true, true] rfl rfl rfl ?_
            refine jd_region rfl ?_
            refine od_pu rfl rfl (p_move rfl) ?_
            obtain ⟨x1, hx1⟩ := get_some l 0 (by (try simp only [List.length_drop]); omega)
            have hsk0 := sumSz_le l 1
            have hsx0 : sumSz (l.take 1) = sumSz (l.take 0) + x1.size := sumSz_take hx1
            refine od_pu rfl rfl (p_indexAddr (k := 0) rfl rfl Try.runUnderlying76 Try.sizeOf9 (by first | rfl | omega) (get_map hx1)) ?_
            refine od_pu rfl rfl (p_load_el1 rfl Try.isAgg9 rfl) ?_
            refine od_step rfl rfl (ef_call [.bx g7 178 (.agg [.v (.pointer (some ⟨g7, 0, none⟩)), .ov bv8]), .sl bv8 1 5 ([].map dU8)] [] [] rfl rfl (.cons ArgC.id (.cons ArgC.id .nil)) lend_nil Try.call142 (WriteString_c g7 (.pointer (some ⟨g7, 0, none⟩)) bv8 [] x1 (.inr rfl) (by (try simp only [List.length_append, List.length_cons, List.length_nil, len_toList]); omega) (by first | decide | omega)) (.inl rfl)) ?_
            rintro _ _ ⟨_, ⟨bv9, rfl, rfl⟩, rfl⟩
            refine OpsD.norm [.bx g7 178 (.agg [.v (.pointer (some ⟨g7, 0, none⟩)), .ov bv9]), .sl bv9 1 5 (([] ++ x1.data.toList).map dU8)] rfl ?_
            refine od_nil rfl ?_
            refine pd_seq ?_
            refine JD.keep [0, 1, 4, 8] [(0, .sh 1 (l.map D.s)), (1, .s sep), (4, .v (.string ByteArray.empty)), (8, .v (.pointer (some ⟨g7, 0, none⟩)))] rfl ?_
            refine jd_seq [true, true, true, true, true, true, true, true, false] [true, true, true, true, true, true, true, true, true] rfl rfl rfl ?_
            refine jd_seq [true, true, true, true, true, true, true, true, false, false] [true, true, true, true, true, true, true, true, false, true] rfl rfl rfl ?_
            refine jd_region rfl ?_
            refine od_pu rfl rfl (p_move rfl) ?_
            refine od_pu rfl rfl ((p_slice (a := 1) (b := l.length) rfl rfl rfl (by first | rfl | (show _ = _; omega)) (by first | rfl | exact List.length_map _) Try.runUnderlying76 Try.sizeOf9 (by omega) (by simp only [List.length_map]; omega)).cv (Cv.eq (by rw [← List.map_take, ← List.map_drop, List.take_length]))) ?_
            refine od_pu rfl rfl (p_len (n := (l.drop 1).length) rfl Try.runUnderlying76 (by simp only [List.length_map, List.length_cons, List.length_nil])) ?_
            refine od_pu rfl rfl (p_move rfl) ?_
            refine od_nil rfl ?_
            refine pd_seq ?_
            refine jd_block [true, true, true, true, true, true, true, true, false, true, false] rfl rfl ?_
            refine jd_loop (fun (g : Nat × Value × List UInt8) => [(1, .s sep), (4, .v (.string ByteArray.empty)), (8, .v (.pointer (some ⟨g7, 0, none⟩))), (63, .sh 1 ((l.drop 1).map D.s)), (64, .v (.int .i64 (((l.drop 1).length : Nat) : Int))), (65, .v (.int .i64 ((g.1 : Nat) : Int)))]) (fun (g : Nat × Value × List UInt8) => [.bx g7 178 (.agg [.v (.pointer (some ⟨g7, 0, none⟩)), .ov g.2.1]), .sl g.2.1 1 5 (g.2.2.map dU8)]) (fun (g : Nat × Value × List UInt8) => (g.2.2 = joinL sep (l.take (g.1 + 1))) ∧ (g.2.2.length ≤ (g.1 + 1) * 1000 + sumSz (l.take (g.1 + 1))) ∧ (g.1 = 0 ∨ g.2.2 ≠ [])) (fun (g : Nat × Value × List UInt8) => l.length - g.1) [true, true, true, true, true, true, true, true, false, true, false, false] (0, bv9, ([] ++ x1.data.toList)) rfl rfl ⟨sk rfl, sk rfl, sk rfl, sk rfl, sk rfl, sk rfl, trivial⟩ HSub.rfl' ⟨by rw [joinL_one hx1]; rfl, by have : sumSz (l.take 1) = sumSz (l.take 0) + _ := sumSz_take hx1; show _ ≤ (0 + 1) * 1000 + sumSz (l.take 1); (try simp only [List.length_append, List.length_nil, len_toList]); omega, .inl rfl⟩ ?_
            rintro ⟨j, ov, bs⟩ ⟨hbs, hlb, hne⟩
            replace hbs : bs = joinL sep (l.take (j + 1)) := hbs
            replace hlb : bs.length ≤ (j + 1) * 1000 + sumSz (l.take (j + 1)) := hlb
            replace hne : j = 0 ∨ bs ≠ [] := hne
            refine JD.keep [1, 4, 8, 63, 64, 65] [(1, .s sep), (4, .v (.string ByteArray.empty)), (8, .v (.pointer (some ⟨g7, 0, none⟩))), (63, .sh 1 ((l.drop 1).map D.s)), (64, .v (.int .i64 (((l.drop 1).length : Nat) : Int))), (65, .v (.int .i64 ((j : Nat) : Int)))] rfl ?_
            refine JD.norm [.bx g7 178 (.agg [.v (.pointer (some ⟨g7, 0, none⟩)), .ov ov]), .sl ov 1 5 (bs.map dU8)] rfl ?_
            have hld : (l.drop 1).length = l.length - 1 := List.length_drop
            refine jd_seq [true, true, true, true, true, true, true, true, false, true, false, false, false] [true, true, true, true, true, true, true, true, false, true, false, false, true] rfl rfl rfl ?_
            refine jd_region rfl ?_
            refine od_pu rfl rfl (p_lss rfl rfl rfl) ?_
            refine od_nil rfl ?_
            refine pd_seq ?_
            refine jd_seq [true, true, true, true, true, true, true, true, false, true, false, false, true, false] [true, true, true, true, true, true, true, true, false, true, false, false, true, true] rfl rfl rfl ?_
            refine jd_cond [true, true, true, true, true, true, true, true, false, true, false, false, true, false, false] [true, true, true, true, true, true, true, true, false, true, false, false, true, false, true] rfl rfl rfl rfl (fun hc10 => ?_) (fun hc10 => ?_)
            · replace hc10 := of_decide_eq_true hc10
              refine jd_skip rfl ?_
              refine pd_seq ?_
              refine jd_seq [true, true, true, true, true, true, true, true, false, true, false, false, true, true, false] [true, true, true, true, true, true, true, true, false, true, false, false, true, true, true] rfl rfl rfl ?_
              refine jd_block [true, true, true, true, true, true, true, true, false, true, false, false, true, true, false, false] rfl rfl ?_
              refine jd_seq [true, true, true, true, true, true, true, true, false, true, false, false, true, true, false, false, false] [true, true, true, true, true, true, true, true, false, true, false, false, true, true, false, false, true] rfl rfl rfl ?_
              refine jd_region rfl ?_
              obtain ⟨x3, hx3⟩ := get_some (l.drop 1) j (by (try simp only [List.length_drop]); omega)
              have hsj := sumSz_le l (j + 2)
              have hsx : sumSz (l.take (j + 2)) = sumSz (l.take (j + 1)) + x3.size := sumSz_take (show l[j + 1]? = some x3 by have hx := hx3; rw [List.getElem?_drop, Nat.add_comm 1 j] at hx; exact hx)
              refine od_pu rfl rfl (p_indexAddr (k := j) rfl rfl Try.runUnderlying76 Try.sizeOf9 (by first | rfl | omega) (get_map hx3)) ?_
              refine od_pu rfl rfl (p_load_el1 rfl Try.isAgg9 rfl) ?_
              refine od_pu rfl rfl (p_assign rfl) ?_
              refine od_nil rfl ?_
              refine pd_seq ?_
              refine jd_seq [true, true, true, true, true, true, true, true, false, true, false, false, true, true, false, false, true, false] [true, true, true, true, true, true, true, true, false, true, false, false, true, true, false, false, true, true] rfl rfl rfl ?_
              refine jd_region rfl ?_
              refine od_pu rfl rfl (p_move rfl) ?_
              refine od_step rfl rfl (ef_call [.bx g7 178 (.agg [.v (.pointer (some ⟨g7, 0, none⟩)), .ov ov]), .sl ov 1 5 (bs.map dU8)] [] [] rfl rfl (.cons ArgC.id (.cons ArgC.id .nil)) lend_nil Try.call142 (WriteString_c g7 (.pointer (some ⟨g7, 0, none⟩)) ov bs sep (.inr rfl) (by (try simp only [List.length_append, List.length_cons, List.length_nil, len_toList]); omega) (by first | decide | omega)) (.inl rfl)) ?_
              rintro _ _ ⟨_, ⟨bv11, rfl, rfl⟩, rfl⟩
              refine OpsD.norm [.bx g7 178 (.agg [.v (.pointer (some ⟨g7, 0, none⟩)), .ov bv11]), .sl bv11 1 5 ((bs ++ sep.data.toList).map dU8)] rfl ?_
              refine od_nil rfl ?_
              refine pd_seq ?_
              refine jd_region rfl ?_
              refine od_pu rfl rfl (p_move rfl) ?_
              refine od_step rfl rfl (ef_call [.bx g7 178 (.agg [.v (.pointer (some ⟨g7, 0, none⟩)), .ov bv11]), .sl bv11 1 5 ((bs ++ sep.data.toList).map dU8)] [] [] rfl rfl (.cons ArgC.id (.cons ArgC.id .nil)) lend_nil Try.call142 (WriteString_c g7 (.pointer (some ⟨g7, 0, none⟩)) bv11 (bs ++ sep.data.toList) x3 (.inr rfl) (by (try simp only [List.length_append, List.length_cons, List.length_nil, len_toList]); omega) (by first | decide | omega)) (.inl rfl)) ?_
              rintro _ _ ⟨_, ⟨bv12, rfl, rfl⟩, rfl⟩
              refine OpsD.norm [.bx g7 178 (.agg [.v (.pointer (some ⟨g7, 0, none⟩)), .ov bv12]), .sl bv12 1 5 (((bs ++ sep.data.toList) ++ x3.data.toList).map dU8)] rfl ?_
              refine od_nil rfl ?_
              refine pd_block ?_
              refine pd_seq ?_
              refine jd_region rfl ?_
              refine od_pu rfl rfl (p_add (c := ((j + 1 : Nat) : Int)) rfl rfl (w64eq (by omega) (by omega))) ?_
              refine od_pu rfl rfl (p_move rfl) ?_
              refine od_nil rfl ?_
              exact pd_loop (j + 1, bv12, ((bs ++ sep.data.toList) ++ x3.data.toList)) ⟨sk rfl, sk rfl, sk rfl, sk rfl, sk rfl, sk rfl, trivial⟩ HSub.rfl' ⟨by have hx := hx3; rw [List.getElem?_drop, Nat.add_comm 1 j] at hx; rw [joinL_take hx, hbs], by have hx := hx3; rw [List.getElem?_drop, Nat.add_comm 1 j] at hx; show _ ≤ (j + 1 + 1) * 1000 + sumSz (l.take (j + 2)); (try simp only [List.length_append, len_toList]); omega, .inr (by intro e; have := congrArg List.length e; simp only [List.length_append, len_toList, List.length_nil] at this; omega)⟩ (by omega)
            · replace hc10 := of_decide_eq_false hc10
              refine jd_exit rfl ?_
              refine pd_seq_exit ?_
              refine pd_loop_exit ?_
              refine pd_block_exit ?_
              refine pd_seq ?_
              refine jd_seq [true, true, true, true, true, true, true, true, true, false] [true, true, true, true, true, true, true, true, true, true] rfl rfl rfl ?_
              refine jd_region rfl ?_
              refine od_step rfl rfl (ef_call [.bx g7 178 (.agg [.v (.pointer (some ⟨g7, 0, none⟩)), .ov ov]), .sl ov 1 5 (bs.map dU8)] [] [] rfl rfl (.cons ArgC.id .nil) lend_nil Try.call144 (String_c g7 (.pointer (some ⟨g7, 0, none⟩)) ov bs (hne.resolve_left (by omega))) (.inl rfl)) ?_
              rintro _ _ ⟨_, ⟨rfl, rfl⟩, rfl⟩
              refine OpsD.norm [] rfl ?_
              refine od_pu rfl rfl (p_assign rfl) ?_
              refine od_nil rfl ?_
              refine pd_seq ?_
              refine jd_ret rfl ?_
              exact pd_retH Try.results105 (.cons (ro_cv (ro_tmp rfl) (Cv.eq (congrArg D.s (by exact joinB_all hbs (by omega))))) .nil) rfl HSub.none ⟨rfl, rfl⟩
      · replace hc3 := of_decide_eq_false hc3
        exfalso; omega
end Lp
