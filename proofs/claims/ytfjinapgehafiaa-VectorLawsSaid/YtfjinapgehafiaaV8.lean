/- Walks, printed by a program of mine. -/
import Derived.Test.YtfjinapgehafiaaV4
set_option linter.unusedSimpArgs false
set_option linter.unusedVariables false
namespace Lp
open Go Go.RowKit Go.Proofs

namespace HdYtfjinapgehafiaaV8
theorem cv_21_105 {a : Int} (h : 0 ≤ a ∧ a ≤ 4294967295) : ∀ w, (convert 21 105 (.int .i32 a)).run Try.prog w = .ok (.int .u32 a) w := fun w => by
  have e : IntKind.u32.wrap a = a := by simp [IntKind.wrap, IntKind.bits, IntKind.signed]; omega
  simp [convert, run_underlying (show Try.prog.underlying 21 = some _ by kernel_rfl), run_underlying (show Try.prog.underlying 105 = some _ by kernel_rfl), Conv.intToInt, e]
theorem zbi (b o : Nat) : ∀ w, (Instr.fieldAt 77 (.pointer (some ⟨b, o, none⟩)) 1).run Try.prog w = .ok (.pointer (some ⟨b, o + 1, none⟩)) w := fun _ => by kernel_rfl
theorem zcF : ∃ i, Try.prog.info? 5 = some i ∧ i.zero = some (.int .u8 0) ∧ i.size = 1 ∧ i.bytes = 1 := zbG (by kernel_rfl)
theorem zcC : Try.prog.underlying 75 = some (.slice 5) := by kernel_rfl
end HdYtfjinapgehafiaaV8
open HdYtfjinapgehafiaaV8

theorem za1 (a : Nat) : ∀ w, (convert 21 5 (.int .i32 (a : Int))).run Try.prog w = .ok (.int .u8 ((a % 256 : Nat) : Int)) w := fun w => by
  have e : IntKind.u8.wrap (a : Int) = ((a % 256 : Nat) : Int) := by simp [IntKind.wrap, IntKind.bits, IntKind.signed]
  simp [convert, run_underlying (show Try.prog.underlying 21 = some _ by kernel_rfl), run_underlying (show Try.prog.underlying 5 = some _ by kernel_rfl), Conv.intToInt, e]

set_option maxHeartbeats 4000000 in
set_option maxRecDepth 100000 in
theorem appNA_c (v : Value) (bs : List UInt8) (x : Nat) (h1 : 127 < x) (h2 : x < 2147483648) (hl : bs.length ≤ 1000000000000) :
    CD Try.prog 78 [.sl v 1 5 (bs.map dU8)] [.ov v, .v (.int .i32 ((x : Nat) : Int))] (fun r H' => ∃ v', r = .ov v' ∧ H' = [.sl v' 1 5 ((bs ++ encR x).map dU8)]) := by
  refine zL Try.func78 rfl (N := 78) rfl rfl (fun C => ?_)
  refine JD.keep [0, 1] [(0, .ov v), (1, .v (.int .i32 ((x : Nat) : Int)))] rfl (zh _ _ rfl rfl rfl (zc rfl (za rfl rfl (ze rfl) (zg rfl (zf (zh _ _ rfl rfl rfl (zc rfl (za rfl rfl (zb rfl) (za rfl rfl (zaO rfl (c := ((x : Nat) : Int)) (cv_21_105 (by omega))) (za rfl rfl (ze rfl) (zg rfl (zf (zy _ rfl rfl (zh _ _ rfl rfl rfl (zc rfl (za rfl rfl (zb rfl) (za rfl rfl (zaS rfl rfl rfl) (za rfl rfl (ze rfl) (zg rfl (zf ?_))))))))))))))))))))
  refine zu _ _ rfl rfl rfl rfl (fun hc1 => ?_) (fun hc1 => ?_)
  · replace hc1 := of_decide_eq_true hc1
    refine zh _ _ rfl rfl rfl (zc rfl (za rfl rfl (zb rfl) (za rfl rfl (zb rfl) (za rfl rfl (zcr (a := x) (n := 6) (m := 64) rfl rfl (by decide) (by decide)) (za rfl rfl (zaO rfl (c := (((x / 64) % 256 : Nat) : Int)) (za1 _)) (za rfl rfl (zcs (a := 192) (b := (x / 64) % 256) rfl rfl (by decide) (by omega) (or192 _ (by omega))) (za rfl rfl (zb rfl) (za rfl rfl (zaO rfl (c := ((x % 256 : Nat) : Int)) (za1 _)) (za rfl rfl (zcp (a := x % 256) (b := 63) rfl rfl (by omega) (by decide) (zdz _)) (za rfl rfl (zcs (a := 128) (b := (x % 256) % 64) rfl rfl (by decide) (by omega) (zdn _ (by omega))) (zl rfl rfl (z5 [.tmp 18, .tmp 22] rfl rfl (.cons (CellD.v rfl) (.cons (CellD.v rfl) .nil)) rfl Try.runUnderlying75 Try.sizeOf5 Try.zeroValue5 rfl rfl rfl rfl) ?_)))))))))))
    rintro _ _ ⟨g2, rfl, rfl⟩
    refine OpsD.subH (HSub.turn (h' := .sl (vS g2 2 2) 1 5 ([(UInt8.ofNat (192 + ((x / 64) % 256))), (UInt8.ofNat (128 + ((x % 256) % 64)))].map dU8)) rfl (Hp.cvs_sl (.cons (Cv.eq (zch rfl (by omega))) (.cons (Cv.eq (zch rfl (by omega))) .nil)))) (zl rfl rfl (z4 (f := dU8) (l := bs) (l' := [(UInt8.ofNat (192 + ((x / 64) % 256))), (UInt8.ofNat (128 + ((x % 256) % 64)))]) (i := 1) rfl rfl rfl (SrcD.own (j := 0) rfl rfl) zcC zcF rfl rfl (by unfold maxLen; (try simp only [la, lc, ln, lm, lt', ld, ls, lr]); omega) (by (try simp only [la, lc, ln, lm, lt', ld, ls, lr]); omega)) ?_)
    rintro _ _ ⟨v3, rfl, rfl⟩
    refine OpsD.norm [.sl (vS g2 2 2) 1 5 ([(UInt8.ofNat (192 + ((x / 64) % 256))), (UInt8.ofNat (128 + ((x % 256) % 64)))].map dU8), .sl v3 1 5 ((bs ++ [(UInt8.ofNat (192 + ((x / 64) % 256))), (UInt8.ofNat (128 + ((x % 256) % 64)))]).map dU8)] rfl (za rfl rfl (ze rfl) (zg rfl (zf (JD.keep [4] [(4, .ov v3)] rfl (zB rfl (zn (PD.subH (HSub.perm (zO (i := 1) rfl)) (PD.norm [.sl v3 1 5 ((bs ++ [(UInt8.ofNat (192 + ((x / 64) % 256))), (UInt8.ofNat (128 + ((x % 256) % 64)))]).map dU8), .sl (vS g2 2 2) 1 5 ([(UInt8.ofNat (192 + ((x / 64) % 256))), (UInt8.ofNat (128 + ((x % 256) % 64)))].map dU8)] rfl (PD.norm [.sl v3 1 5 ((bs ++ encR x).map dU8), .sl (vS g2 2 2) 1 5 ([(UInt8.ofNat (192 + ((x / 64) % 256))), (UInt8.ofNat (128 + ((x % 256) % 64)))].map dU8)] (by first | (exfalso; omega) | skip; unfold encR; first | rw [if_neg (by omega), if_pos (by omega)] | rw [if_neg (by omega), if_neg (by omega), if_pos (by omega)] | rw [if_neg (by omega), if_neg (by omega), if_neg (by omega), if_pos (by omega)] | rw [if_neg (by omega), if_neg (by omega), if_neg (by omega), if_neg (by omega)]) ?_)))))))))
    exact zx Try.results78 (.cons (zs rfl) .nil) rfl (HSub.fst 1 rfl) ⟨v3, rfl, rfl⟩
  · replace hc1 := of_decide_eq_false hc1
    refine zh _ _ rfl rfl rfl (zh _ _ rfl rfl rfl (zc rfl (za rfl rfl (zb rfl) (za rfl rfl (zaa rfl rfl rfl) (za rfl rfl (ze rfl) (zg rfl (zf ?_)))))))
    refine zu _ _ rfl rfl rfl rfl (fun hc4 => ?_) (fun hc4 => ?_)
    · replace hc4 := of_decide_eq_true hc4
      refine zz rfl (zf ?_)
      refine zu _ _ rfl rfl rfl rfl (fun hc5 => ?_) (fun hc5 => ?_)
      · replace hc5 := of_decide_eq_true hc5
        refine zh _ _ rfl rfl rfl (zc rfl (za rfl rfl (zb rfl) (za rfl rfl (zb rfl) (za rfl rfl (zcr (a := x) (n := 12) (m := 4096) rfl rfl (by decide) (by decide)) (za rfl rfl (zaO rfl (c := (((x / 4096) % 256 : Nat) : Int)) (za1 _)) (za rfl rfl (zcs (a := 224) (b := (x / 4096) % 256) rfl rfl (by decide) (by omega) (or224 _ (by omega))) (za rfl rfl (zb rfl) (za rfl rfl (zcr (a := x) (n := 6) (m := 64) rfl rfl (by decide) (by decide)) (za rfl rfl (zaO rfl (c := (((x / 64) % 256 : Nat) : Int)) (za1 _)) (za rfl rfl (zcp (a := (x / 64) % 256) (b := 63) rfl rfl (by omega) (by decide) (zdz _)) (za rfl rfl (zcs (a := 128) (b := ((x / 64) % 256) % 64) rfl rfl (by decide) (by omega) (zdn _ (by omega))) (za rfl rfl (zb rfl) (za rfl rfl (zaO rfl (c := ((x % 256 : Nat) : Int)) (za1 _)) (za rfl rfl (zcp (a := x % 256) (b := 63) rfl rfl (by omega) (by decide) (zdz _)) (za rfl rfl (zcs (a := 128) (b := (x % 256) % 64) rfl rfl (by decide) (by omega) (zdn _ (by omega))) (zl rfl rfl (z5 [.tmp 38, .tmp 43, .tmp 47] rfl rfl (.cons (CellD.v rfl) (.cons (CellD.v rfl) (.cons (CellD.v rfl) .nil))) rfl Try.runUnderlying75 Try.sizeOf5 Try.zeroValue5 rfl rfl rfl rfl) ?_))))))))))))))))
        rintro _ _ ⟨g6, rfl, rfl⟩
        refine OpsD.subH (HSub.turn (h' := .sl (vS g6 3 3) 1 5 ([(UInt8.ofNat (224 + ((x / 4096) % 256))), (UInt8.ofNat (128 + (((x / 64) % 256) % 64))), (UInt8.ofNat (128 + ((x % 256) % 64)))].map dU8)) rfl (Hp.cvs_sl (.cons (Cv.eq (zch rfl (by omega))) (.cons (Cv.eq (zch rfl (by omega))) (.cons (Cv.eq (zch rfl (by omega))) .nil))))) (zl rfl rfl (z4 (f := dU8) (l := bs) (l' := [(UInt8.ofNat (224 + ((x / 4096) % 256))), (UInt8.ofNat (128 + (((x / 64) % 256) % 64))), (UInt8.ofNat (128 + ((x % 256) % 64)))]) (i := 1) rfl rfl rfl (SrcD.own (j := 0) rfl rfl) zcC zcF rfl rfl (by unfold maxLen; (try simp only [la, lc, ln, lm, lt', ld, ls, lr]); omega) (by (try simp only [la, lc, ln, lm, lt', ld, ls, lr]); omega)) ?_)
        rintro _ _ ⟨v7, rfl, rfl⟩
        refine OpsD.norm [.sl (vS g6 3 3) 1 5 ([(UInt8.ofNat (224 + ((x / 4096) % 256))), (UInt8.ofNat (128 + (((x / 64) % 256) % 64))), (UInt8.ofNat (128 + ((x % 256) % 64)))].map dU8), .sl v7 1 5 ((bs ++ [(UInt8.ofNat (224 + ((x / 4096) % 256))), (UInt8.ofNat (128 + (((x / 64) % 256) % 64))), (UInt8.ofNat (128 + ((x % 256) % 64)))]).map dU8)] rfl (za rfl rfl (ze rfl) (zg rfl (zf (JD.keep [4] [(4, .ov v7)] rfl (zB rfl (zn (PD.subH (HSub.perm (zO (i := 1) rfl)) (PD.norm [.sl v7 1 5 ((bs ++ [(UInt8.ofNat (224 + ((x / 4096) % 256))), (UInt8.ofNat (128 + (((x / 64) % 256) % 64))), (UInt8.ofNat (128 + ((x % 256) % 64)))]).map dU8), .sl (vS g6 3 3) 1 5 ([(UInt8.ofNat (224 + ((x / 4096) % 256))), (UInt8.ofNat (128 + (((x / 64) % 256) % 64))), (UInt8.ofNat (128 + ((x % 256) % 64)))].map dU8)] rfl ?_))))))))
        refine PD.norm [.sl v7 1 5 ((bs ++ encR x).map dU8), .sl (vS g6 3 3) 1 5 ([(UInt8.ofNat (224 + ((x / 4096) % 256))), (UInt8.ofNat (128 + (((x / 64) % 256) % 64))), (UInt8.ofNat (128 + ((x % 256) % 64)))].map dU8)] (by first | (exfalso; omega) | skip; unfold encR; first | rw [if_neg (by omega), if_pos (by omega)] | rw [if_neg (by omega), if_neg (by omega), if_pos (by omega)] | rw [if_neg (by omega), if_neg (by omega), if_neg (by omega), if_pos (by omega)] | rw [if_neg (by omega), if_neg (by omega), if_neg (by omega), if_neg (by omega)]) ?_
        exact zx Try.results78 (.cons (zs rfl) .nil) rfl (HSub.fst 1 rfl) ⟨v7, rfl, rfl⟩
      · replace hc5 := of_decide_eq_false hc5
        refine zh _ _ rfl rfl rfl (JD.keep [0, 1, 4, 5] [(0, .ov v), (1, .v (.int .i32 ((x : Nat) : Int))), (4, dZ), (5, .v (.int .u32 ((x : Nat) : Int)))] rfl ?_)
        refine zaj 50 ((decide ((65535 : Int) < ((x : Nat) : Int)) && decide (((x : Nat) : Int) ≤ (1114111 : Int)))) [.sl v 1 5 (bs.map dU8)] (fun _ hQ8 => ?_) ?_
        · skip
          by_cases hg9 : (65535 : Int) < ((x : Nat) : Int)
          · skip
            refine zc rfl (za rfl rfl (zb rfl) (za rfl rfl (zaM rfl rfl (decide_eq_true hg9)) (za rfl rfl (zb rfl) (zi rfl rfl rfl rfl rfl (zb rfl) (zi rfl rfl rfl rfl rfl (zaS rfl rfl rfl) (za rfl rfl (zr rfl rfl) (za rfl rfl (ze rfl) (zg rfl ?_))))))))
            exact PD.sub ((50, dB (decide ((65535 : Int) < ((x : Nat) : Int)) && decide (((x : Nat) : Int) ≤ (1114111 : Int)))) :: [(0, .ov v), (1, .v (.int .i32 ((x : Nat) : Int))), (4, dZ), (5, .v (.int .u32 ((x : Nat) : Int)))]) ⟨sc rfl (Cv.eq (congrArg (fun b => D.v (.bool b)) (by first | (simp [hc1, hc5, hg9]; done) | (simp_all; done)))), sk rfl, sk rfl, sk rfl, sk rfl, trivial⟩ hQ8
          · skip
            refine zc rfl (za rfl rfl (zb rfl) (za rfl rfl (zaM rfl rfl (decide_eq_false hg9)) (za rfl rfl (zb rfl) (zj rfl rfl rfl rfl rfl (by decide) (zj rfl rfl rfl rfl rfl (by decide) (za rfl rfl (zm rfl rfl) (za rfl rfl (ze rfl) (zg rfl ?_))))))))
            exact PD.sub ((50, dB (decide ((65535 : Int) < ((x : Nat) : Int)) && decide (((x : Nat) : Int) ≤ (1114111 : Int)))) :: [(0, .ov v), (1, .v (.int .i32 ((x : Nat) : Int))), (4, dZ), (5, .v (.int .u32 ((x : Nat) : Int)))]) ⟨sc rfl (Cv.eq (congrArg (fun b => D.v (.bool b)) (by first | (simp [hc1, hc5, hg9]; done) | (simp_all; done)))), sk rfl, sk rfl, sk rfl, sk rfl, trivial⟩ hQ8
        · skip
          refine zf ?_
          refine zu _ _ rfl rfl rfl rfl (fun hc10 => ?_) (fun hc10 => ?_)
          · simp only [Bool.and_eq_true, Bool.or_eq_true, Bool.not_eq_true', Bool.not_eq_false', Bool.and_eq_false_iff, Bool.or_eq_false_iff, decide_eq_true_eq, decide_eq_false_iff_not, Decidable.not_not, ne_eq] at hc10
            refine zh _ _ rfl rfl rfl (zc rfl (za rfl rfl (zb rfl) (za rfl rfl (zb rfl) (za rfl rfl (zcr (a := x) (n := 18) (m := 262144) rfl rfl (by decide) (by decide)) (za rfl rfl (zaO rfl (c := (((x / 262144) % 256 : Nat) : Int)) (za1 _)) (za rfl rfl (zcs (a := 240) (b := (x / 262144) % 256) rfl rfl (by decide) (by omega) (or240 _ (by omega))) (za rfl rfl (zb rfl) (za rfl rfl (zcr (a := x) (n := 12) (m := 4096) rfl rfl (by decide) (by decide)) (za rfl rfl (zaO rfl (c := (((x / 4096) % 256 : Nat) : Int)) (za1 _)) (za rfl rfl (zcp (a := (x / 4096) % 256) (b := 63) rfl rfl (by omega) (by decide) (zdz _)) (za rfl rfl (zcs (a := 128) (b := ((x / 4096) % 256) % 64) rfl rfl (by decide) (by omega) (zdn _ (by omega))) (za rfl rfl (zb rfl) (za rfl rfl (zcr (a := x) (n := 6) (m := 64) rfl rfl (by decide) (by decide)) (za rfl rfl (zaO rfl (c := (((x / 64) % 256 : Nat) : Int)) (za1 _)) (za rfl rfl (zcp (a := (x / 64) % 256) (b := 63) rfl rfl (by omega) (by decide) (zdz _)) (za rfl rfl (zcs (a := 128) (b := ((x / 64) % 256) % 64) rfl rfl (by decide) (by omega) (zdn _ (by omega))) (za rfl rfl (zb rfl) (za rfl rfl (zaO rfl (c := ((x % 256 : Nat) : Int)) (za1 _)) ?_))))))))))))))))))
            refine za rfl rfl (zcp (a := x % 256) (b := 63) rfl rfl (by omega) (by decide) (zdz _)) (za rfl rfl (zcs (a := 128) (b := (x % 256) % 64) rfl rfl (by decide) (by omega) (zdn _ (by omega))) (zl rfl rfl (z5 [.tmp 61, .tmp 66, .tmp 71, .tmp 75] rfl rfl (.cons (CellD.v rfl) (.cons (CellD.v rfl) (.cons (CellD.v rfl) (.cons (CellD.v rfl) .nil)))) rfl Try.runUnderlying75 Try.sizeOf5 Try.zeroValue5 rfl rfl rfl rfl) ?_))
            rintro _ _ ⟨g11, rfl, rfl⟩
            refine OpsD.subH (HSub.turn (h' := .sl (vS g11 4 4) 1 5 ([(UInt8.ofNat (240 + ((x / 262144) % 256))), (UInt8.ofNat (128 + (((x / 4096) % 256) % 64))), (UInt8.ofNat (128 + (((x / 64) % 256) % 64))), (UInt8.ofNat (128 + ((x % 256) % 64)))].map dU8)) rfl (Hp.cvs_sl (.cons (Cv.eq (zch rfl (by omega))) (.cons (Cv.eq (zch rfl (by omega))) (.cons (Cv.eq (zch rfl (by omega))) (.cons (Cv.eq (zch rfl (by omega))) .nil)))))) (zl rfl rfl (z4 (f := dU8) (l := bs) (l' := [(UInt8.ofNat (240 + ((x / 262144) % 256))), (UInt8.ofNat (128 + (((x / 4096) % 256) % 64))), (UInt8.ofNat (128 + (((x / 64) % 256) % 64))), (UInt8.ofNat (128 + ((x % 256) % 64)))]) (i := 1) rfl rfl rfl (SrcD.own (j := 0) rfl rfl) zcC zcF rfl rfl (by unfold maxLen; (try simp only [la, lc, ln, lm, lt', ld, ls, lr]); omega) (by (try simp only [la, lc, ln, lm, lt', ld, ls, lr]); omega)) ?_)
            rintro _ _ ⟨v12, rfl, rfl⟩
            refine OpsD.norm [.sl (vS g11 4 4) 1 5 ([(UInt8.ofNat (240 + ((x / 262144) % 256))), (UInt8.ofNat (128 + (((x / 4096) % 256) % 64))), (UInt8.ofNat (128 + (((x / 64) % 256) % 64))), (UInt8.ofNat (128 + ((x % 256) % 64)))].map dU8), .sl v12 1 5 ((bs ++ [(UInt8.ofNat (240 + ((x / 262144) % 256))), (UInt8.ofNat (128 + (((x / 4096) % 256) % 64))), (UInt8.ofNat (128 + (((x / 64) % 256) % 64))), (UInt8.ofNat (128 + ((x % 256) % 64)))]).map dU8)] rfl (za rfl rfl (ze rfl) (zg rfl (zf (JD.keep [4] [(4, .ov v12)] rfl (zB rfl (zn (PD.subH (HSub.perm (zO (i := 1) rfl)) (PD.norm [.sl v12 1 5 ((bs ++ [(UInt8.ofNat (240 + ((x / 262144) % 256))), (UInt8.ofNat (128 + (((x / 4096) % 256) % 64))), (UInt8.ofNat (128 + (((x / 64) % 256) % 64))), (UInt8.ofNat (128 + ((x % 256) % 64)))]).map dU8), .sl (vS g11 4 4) 1 5 ([(UInt8.ofNat (240 + ((x / 262144) % 256))), (UInt8.ofNat (128 + (((x / 4096) % 256) % 64))), (UInt8.ofNat (128 + (((x / 64) % 256) % 64))), (UInt8.ofNat (128 + ((x % 256) % 64)))].map dU8)] rfl ?_))))))))
            refine PD.norm [.sl v12 1 5 ((bs ++ encR x).map dU8), .sl (vS g11 4 4) 1 5 ([(UInt8.ofNat (240 + ((x / 262144) % 256))), (UInt8.ofNat (128 + (((x / 4096) % 256) % 64))), (UInt8.ofNat (128 + (((x / 64) % 256) % 64))), (UInt8.ofNat (128 + ((x % 256) % 64)))].map dU8)] (by first | (exfalso; omega) | skip; unfold encR; first | rw [if_neg (by omega), if_pos (by omega)] | rw [if_neg (by omega), if_neg (by omega), if_pos (by omega)] | rw [if_neg (by omega), if_neg (by omega), if_neg (by omega), if_pos (by omega)] | rw [if_neg (by omega), if_neg (by omega), if_neg (by omega), if_neg (by omega)]) ?_
            exact zx Try.results78 (.cons (zs rfl) .nil) rfl (HSub.fst 1 rfl) ⟨v12, rfl, rfl⟩
          · simp only [Bool.and_eq_true, Bool.or_eq_true, Bool.not_eq_true', Bool.not_eq_false', Bool.and_eq_false_iff, Bool.or_eq_false_iff, decide_eq_true_eq, decide_eq_false_iff_not, Decidable.not_not, ne_eq] at hc10
            refine zh _ _ rfl rfl rfl (zc rfl (za rfl rfl (zb rfl) (zl rfl rfl (z5 [.const (.int .u8 239), .const (.int .u8 191), .const (.int .u8 189)] rfl rfl (.cons (CellD.v rfl) (.cons (CellD.v rfl) (.cons (CellD.v rfl) .nil))) rfl Try.runUnderlying75 Try.sizeOf5 Try.zeroValue5 rfl rfl rfl rfl) ?_)))
            rintro _ _ ⟨g13, rfl, rfl⟩
            refine zl rfl rfl (z4 (f := dU8) (l := bs) (l' := [(239 : UInt8), (191 : UInt8), (189 : UInt8)]) (i := 1) rfl rfl rfl (SrcD.own (j := 0) rfl rfl) zcC zcF rfl rfl (by unfold maxLen; (try simp only [la, lc, ln, lm, lt', ld, ls, lr]); omega) (by (try simp only [la, lc, ln, lm, lt', ld, ls, lr]); omega)) ?_
            rintro _ _ ⟨v14, rfl, rfl⟩
            refine OpsD.norm [.sl (vS g13 3 3) 1 5 ([.v (.int .u8 239), .v (.int .u8 191), .v (.int .u8 189)]), .sl v14 1 5 ((bs ++ [(239 : UInt8), (191 : UInt8), (189 : UInt8)]).map dU8)] rfl (za rfl rfl (ze rfl) (zg rfl (zf (zB rfl (zn (PD.subH (HSub.perm (zO (i := 1) rfl)) (PD.norm [.sl v14 1 5 ((bs ++ [(239 : UInt8), (191 : UInt8), (189 : UInt8)]).map dU8), .sl (vS g13 3 3) 1 5 ([.v (.int .u8 239), .v (.int .u8 191), .v (.int .u8 189)])] rfl (PD.norm [.sl v14 1 5 ((bs ++ encR x).map dU8), .sl (vS g13 3 3) 1 5 ([.v (.int .u8 239), .v (.int .u8 191), .v (.int .u8 189)])] (by first | (exfalso; omega) | skip; unfold encR; first | rw [if_neg (by omega), if_pos (by omega)] | rw [if_neg (by omega), if_neg (by omega), if_pos (by omega)] | rw [if_neg (by omega), if_neg (by omega), if_neg (by omega), if_pos (by omega)] | rw [if_neg (by omega), if_neg (by omega), if_neg (by omega), if_neg (by omega)]) ?_))))))))
            exact zx Try.results78 (.cons (zs rfl) .nil) rfl (HSub.fst 1 rfl) ⟨v14, rfl, rfl⟩
    · replace hc4 := of_decide_eq_false hc4
      refine JD.keep [0, 1, 4, 5] [(0, .ov v), (1, .v (.int .i32 ((x : Nat) : Int))), (4, dZ), (5, .v (.int .u32 ((x : Nat) : Int)))] rfl ?_
      refine zaj 25 ((decide ((57343 : Int) < ((x : Nat) : Int)) && decide (((x : Nat) : Int) ≤ (65535 : Int)))) [.sl v 1 5 (bs.map dU8)] (fun _ hQ15 => ?_) ?_
      · skip
        by_cases hg16 : (57343 : Int) < ((x : Nat) : Int)
        · skip
          refine zc rfl (za rfl rfl (zb rfl) (za rfl rfl (zaa rfl rfl (decide_eq_true hg16)) (za rfl rfl (zb rfl) (zi rfl rfl rfl rfl rfl (zb rfl) (zi rfl rfl rfl rfl rfl (zaS rfl rfl rfl) (za rfl rfl (zr rfl rfl) (za rfl rfl (ze rfl) (zg rfl ?_))))))))
          exact PD.sub ((25, dB (decide ((57343 : Int) < ((x : Nat) : Int)) && decide (((x : Nat) : Int) ≤ (65535 : Int)))) :: [(0, .ov v), (1, .v (.int .i32 ((x : Nat) : Int))), (4, dZ), (5, .v (.int .u32 ((x : Nat) : Int)))]) ⟨sc rfl (Cv.eq (congrArg (fun b => D.v (.bool b)) (by first | (simp [hc1, hc4, hg16]; done) | (simp_all; done)))), sk rfl, sk rfl, sk rfl, sk rfl, trivial⟩ hQ15
        · skip
          refine zc rfl (za rfl rfl (zb rfl) (za rfl rfl (zaa rfl rfl (decide_eq_false hg16)) (za rfl rfl (zb rfl) (zj rfl rfl rfl rfl rfl (by decide) (zj rfl rfl rfl rfl rfl (by decide) (za rfl rfl (zm rfl rfl) (za rfl rfl (ze rfl) (zg rfl ?_))))))))
          exact PD.sub ((25, dB (decide ((57343 : Int) < ((x : Nat) : Int)) && decide (((x : Nat) : Int) ≤ (65535 : Int)))) :: [(0, .ov v), (1, .v (.int .i32 ((x : Nat) : Int))), (4, dZ), (5, .v (.int .u32 ((x : Nat) : Int)))]) ⟨sc rfl (Cv.eq (congrArg (fun b => D.v (.bool b)) (by first | (simp [hc1, hc4, hg16]; done) | (simp_all; done)))), sk rfl, sk rfl, sk rfl, sk rfl, trivial⟩ hQ15
      · skip
        refine zf ?_
        refine zu _ _ rfl rfl rfl rfl (fun hc17 => ?_) (fun hc17 => ?_)
        · simp only [Bool.and_eq_true, Bool.or_eq_true, Bool.not_eq_true', Bool.not_eq_false', Bool.and_eq_false_iff, Bool.or_eq_false_iff, decide_eq_true_eq, decide_eq_false_iff_not, Decidable.not_not, ne_eq] at hc17
          refine zh _ _ rfl rfl rfl (zc rfl (za rfl rfl (zb rfl) (za rfl rfl (zb rfl) (za rfl rfl (zcr (a := x) (n := 12) (m := 4096) rfl rfl (by decide) (by decide)) (za rfl rfl (zaO rfl (c := (((x / 4096) % 256 : Nat) : Int)) (za1 _)) (za rfl rfl (zcs (a := 224) (b := (x / 4096) % 256) rfl rfl (by decide) (by omega) (or224 _ (by omega))) (za rfl rfl (zb rfl) (za rfl rfl (zcr (a := x) (n := 6) (m := 64) rfl rfl (by decide) (by decide)) (za rfl rfl (zaO rfl (c := (((x / 64) % 256 : Nat) : Int)) (za1 _)) (za rfl rfl (zcp (a := (x / 64) % 256) (b := 63) rfl rfl (by omega) (by decide) (zdz _)) (za rfl rfl (zcs (a := 128) (b := ((x / 64) % 256) % 64) rfl rfl (by decide) (by omega) (zdn _ (by omega))) (za rfl rfl (zb rfl) (za rfl rfl (zaO rfl (c := ((x % 256 : Nat) : Int)) (za1 _)) (za rfl rfl (zcp (a := x % 256) (b := 63) rfl rfl (by omega) (by decide) (zdz _)) (za rfl rfl (zcs (a := 128) (b := (x % 256) % 64) rfl rfl (by decide) (by omega) (zdn _ (by omega))) (zl rfl rfl (z5 [.tmp 38, .tmp 43, .tmp 47] rfl rfl (.cons (CellD.v rfl) (.cons (CellD.v rfl) (.cons (CellD.v rfl) .nil))) rfl Try.runUnderlying75 Try.sizeOf5 Try.zeroValue5 rfl rfl rfl rfl) ?_))))))))))))))))
          rintro _ _ ⟨g18, rfl, rfl⟩
          refine OpsD.subH (HSub.turn (h' := .sl (vS g18 3 3) 1 5 ([(UInt8.ofNat (224 + ((x / 4096) % 256))), (UInt8.ofNat (128 + (((x / 64) % 256) % 64))), (UInt8.ofNat (128 + ((x % 256) % 64)))].map dU8)) rfl (Hp.cvs_sl (.cons (Cv.eq (zch rfl (by omega))) (.cons (Cv.eq (zch rfl (by omega))) (.cons (Cv.eq (zch rfl (by omega))) .nil))))) (zl rfl rfl (z4 (f := dU8) (l := bs) (l' := [(UInt8.ofNat (224 + ((x / 4096) % 256))), (UInt8.ofNat (128 + (((x / 64) % 256) % 64))), (UInt8.ofNat (128 + ((x % 256) % 64)))]) (i := 1) rfl rfl rfl (SrcD.own (j := 0) rfl rfl) zcC zcF rfl rfl (by unfold maxLen; (try simp only [la, lc, ln, lm, lt', ld, ls, lr]); omega) (by (try simp only [la, lc, ln, lm, lt', ld, ls, lr]); omega)) ?_)
          rintro _ _ ⟨v19, rfl, rfl⟩
          refine OpsD.norm [.sl (vS g18 3 3) 1 5 ([(UInt8.ofNat (224 + ((x / 4096) % 256))), (UInt8.ofNat (128 + (((x / 64) % 256) % 64))), (UInt8.ofNat (128 + ((x % 256) % 64)))].map dU8), .sl v19 1 5 ((bs ++ [(UInt8.ofNat (224 + ((x / 4096) % 256))), (UInt8.ofNat (128 + (((x / 64) % 256) % 64))), (UInt8.ofNat (128 + ((x % 256) % 64)))]).map dU8)] rfl (za rfl rfl (ze rfl) (zg rfl (zf (JD.keep [4] [(4, .ov v19)] rfl (zB rfl (zn (PD.subH (HSub.perm (zO (i := 1) rfl)) (PD.norm [.sl v19 1 5 ((bs ++ [(UInt8.ofNat (224 + ((x / 4096) % 256))), (UInt8.ofNat (128 + (((x / 64) % 256) % 64))), (UInt8.ofNat (128 + ((x % 256) % 64)))]).map dU8), .sl (vS g18 3 3) 1 5 ([(UInt8.ofNat (224 + ((x / 4096) % 256))), (UInt8.ofNat (128 + (((x / 64) % 256) % 64))), (UInt8.ofNat (128 + ((x % 256) % 64)))].map dU8)] rfl ?_))))))))
          refine PD.norm [.sl v19 1 5 ((bs ++ encR x).map dU8), .sl (vS g18 3 3) 1 5 ([(UInt8.ofNat (224 + ((x / 4096) % 256))), (UInt8.ofNat (128 + (((x / 64) % 256) % 64))), (UInt8.ofNat (128 + ((x % 256) % 64)))].map dU8)] (by first | (exfalso; omega) | skip; unfold encR; first | rw [if_neg (by omega), if_pos (by omega)] | rw [if_neg (by omega), if_neg (by omega), if_pos (by omega)] | rw [if_neg (by omega), if_neg (by omega), if_neg (by omega), if_pos (by omega)] | rw [if_neg (by omega), if_neg (by omega), if_neg (by omega), if_neg (by omega)]) ?_
          exact zx Try.results78 (.cons (zs rfl) .nil) rfl (HSub.fst 1 rfl) ⟨v19, rfl, rfl⟩
        · simp only [Bool.and_eq_true, Bool.or_eq_true, Bool.not_eq_true', Bool.not_eq_false', Bool.and_eq_false_iff, Bool.or_eq_false_iff, decide_eq_true_eq, decide_eq_false_iff_not, Decidable.not_not, ne_eq] at hc17
          refine zh _ _ rfl rfl rfl (JD.keep [0, 1, 4, 5] [(0, .ov v), (1, .v (.int .i32 ((x : Nat) : Int))), (4, dZ), (5, .v (.int .u32 ((x : Nat) : Int)))] rfl ?_)
          refine zaj 50 ((decide ((65535 : Int) < ((x : Nat) : Int)) && decide (((x : Nat) : Int) ≤ (1114111 : Int)))) [.sl v 1 5 (bs.map dU8)] (fun _ hQ20 => ?_) ?_
          · skip
            by_cases hg21 : (65535 : Int) < ((x : Nat) : Int)
            · skip
              refine zc rfl (za rfl rfl (zb rfl) (za rfl rfl (zaM rfl rfl (decide_eq_true hg21)) (za rfl rfl (zb rfl) (zi rfl rfl rfl rfl rfl (zb rfl) (zi rfl rfl rfl rfl rfl (zaS rfl rfl rfl) (za rfl rfl (zr rfl rfl) (za rfl rfl (ze rfl) (zg rfl ?_))))))))
              exact PD.sub ((50, dB (decide ((65535 : Int) < ((x : Nat) : Int)) && decide (((x : Nat) : Int) ≤ (1114111 : Int)))) :: [(0, .ov v), (1, .v (.int .i32 ((x : Nat) : Int))), (4, dZ), (5, .v (.int .u32 ((x : Nat) : Int)))]) ⟨sc rfl (Cv.eq (congrArg (fun b => D.v (.bool b)) (by first | (simp [hc1, hc4, hg21]; done) | (simp_all; done)))), sk rfl, sk rfl, sk rfl, sk rfl, trivial⟩ hQ20
            · skip
              refine zc rfl (za rfl rfl (zb rfl) (za rfl rfl (zaM rfl rfl (decide_eq_false hg21)) (za rfl rfl (zb rfl) (zj rfl rfl rfl rfl rfl (by decide) (zj rfl rfl rfl rfl rfl (by decide) (za rfl rfl (zm rfl rfl) (za rfl rfl (ze rfl) (zg rfl ?_))))))))
              exact PD.sub ((50, dB (decide ((65535 : Int) < ((x : Nat) : Int)) && decide (((x : Nat) : Int) ≤ (1114111 : Int)))) :: [(0, .ov v), (1, .v (.int .i32 ((x : Nat) : Int))), (4, dZ), (5, .v (.int .u32 ((x : Nat) : Int)))]) ⟨sc rfl (Cv.eq (congrArg (fun b => D.v (.bool b)) (by first | (simp [hc1, hc4, hg21]; done) | (simp_all; done)))), sk rfl, sk rfl, sk rfl, sk rfl, trivial⟩ hQ20
          · skip
            refine zf ?_
            refine zu _ _ rfl rfl rfl rfl (fun hc22 => ?_) (fun hc22 => ?_)
            · simp only [Bool.and_eq_true, Bool.or_eq_true, Bool.not_eq_true', Bool.not_eq_false', Bool.and_eq_false_iff, Bool.or_eq_false_iff, decide_eq_true_eq, decide_eq_false_iff_not, Decidable.not_not, ne_eq] at hc22
              refine zh _ _ rfl rfl rfl (zc rfl (za rfl rfl (zb rfl) (za rfl rfl (zb rfl) (za rfl rfl (zcr (a := x) (n := 18) (m := 262144) rfl rfl (by decide) (by decide)) (za rfl rfl (zaO rfl (c := (((x / 262144) % 256 : Nat) : Int)) (za1 _)) (za rfl rfl (zcs (a := 240) (b := (x / 262144) % 256) rfl rfl (by decide) (by omega) (or240 _ (by omega))) (za rfl rfl (zb rfl) (za rfl rfl (zcr (a := x) (n := 12) (m := 4096) rfl rfl (by decide) (by decide)) (za rfl rfl (zaO rfl (c := (((x / 4096) % 256 : Nat) : Int)) (za1 _)) (za rfl rfl (zcp (a := (x / 4096) % 256) (b := 63) rfl rfl (by omega) (by decide) (zdz _)) (za rfl rfl (zcs (a := 128) (b := ((x / 4096) % 256) % 64) rfl rfl (by decide) (by omega) (zdn _ (by omega))) (za rfl rfl (zb rfl) (za rfl rfl (zcr (a := x) (n := 6) (m := 64) rfl rfl (by decide) (by decide)) (za rfl rfl (zaO rfl (c := (((x / 64) % 256 : Nat) : Int)) (za1 _)) (za rfl rfl (zcp (a := (x / 64) % 256) (b := 63) rfl rfl (by omega) (by decide) (zdz _)) (za rfl rfl (zcs (a := 128) (b := ((x / 64) % 256) % 64) rfl rfl (by decide) (by omega) (zdn _ (by omega))) (za rfl rfl (zb rfl) (za rfl rfl (zaO rfl (c := ((x % 256 : Nat) : Int)) (za1 _)) ?_))))))))))))))))))
              refine za rfl rfl (zcp (a := x % 256) (b := 63) rfl rfl (by omega) (by decide) (zdz _)) (za rfl rfl (zcs (a := 128) (b := (x % 256) % 64) rfl rfl (by decide) (by omega) (zdn _ (by omega))) (zl rfl rfl (z5 [.tmp 61, .tmp 66, .tmp 71, .tmp 75] rfl rfl (.cons (CellD.v rfl) (.cons (CellD.v rfl) (.cons (CellD.v rfl) (.cons (CellD.v rfl) .nil)))) rfl Try.runUnderlying75 Try.sizeOf5 Try.zeroValue5 rfl rfl rfl rfl) ?_))
              rintro _ _ ⟨g23, rfl, rfl⟩
              refine OpsD.subH (HSub.turn (h' := .sl (vS g23 4 4) 1 5 ([(UInt8.ofNat (240 + ((x / 262144) % 256))), (UInt8.ofNat (128 + (((x / 4096) % 256) % 64))), (UInt8.ofNat (128 + (((x / 64) % 256) % 64))), (UInt8.ofNat (128 + ((x % 256) % 64)))].map dU8)) rfl (Hp.cvs_sl (.cons (Cv.eq (zch rfl (by omega))) (.cons (Cv.eq (zch rfl (by omega))) (.cons (Cv.eq (zch rfl (by omega))) (.cons (Cv.eq (zch rfl (by omega))) .nil)))))) (zl rfl rfl (z4 (f := dU8) (l := bs) (l' := [(UInt8.ofNat (240 + ((x / 262144) % 256))), (UInt8.ofNat (128 + (((x / 4096) % 256) % 64))), (UInt8.ofNat (128 + (((x / 64) % 256) % 64))), (UInt8.ofNat (128 + ((x % 256) % 64)))]) (i := 1) rfl rfl rfl (SrcD.own (j := 0) rfl rfl) zcC zcF rfl rfl (by unfold maxLen; (try simp only [la, lc, ln, lm, lt', ld, ls, lr]); omega) (by (try simp only [la, lc, ln, lm, lt', ld, ls, lr]); omega)) ?_)
              rintro _ _ ⟨v24, rfl, rfl⟩
              refine OpsD.norm [.sl (vS g23 4 4) 1 5 ([(UInt8.ofNat (240 + ((x / 262144) % 256))), (UInt8.ofNat (128 + (((x / 4096) % 256) % 64))), (UInt8.ofNat (128 + (((x / 64) % 256) % 64))), (UInt8.ofNat (128 + ((x % 256) % 64)))].map dU8), .sl v24 1 5 ((bs ++ [(UInt8.ofNat (240 + ((x / 262144) % 256))), (UInt8.ofNat (128 + (((x / 4096) % 256) % 64))), (UInt8.ofNat (128 + (((x / 64) % 256) % 64))), (UInt8.ofNat (128 + ((x % 256) % 64)))]).map dU8)] rfl (za rfl rfl (ze rfl) (zg rfl (zf (JD.keep [4] [(4, .ov v24)] rfl (zB rfl (zn (PD.subH (HSub.perm (zO (i := 1) rfl)) (PD.norm [.sl v24 1 5 ((bs ++ [(UInt8.ofNat (240 + ((x / 262144) % 256))), (UInt8.ofNat (128 + (((x / 4096) % 256) % 64))), (UInt8.ofNat (128 + (((x / 64) % 256) % 64))), (UInt8.ofNat (128 + ((x % 256) % 64)))]).map dU8), .sl (vS g23 4 4) 1 5 ([(UInt8.ofNat (240 + ((x / 262144) % 256))), (UInt8.ofNat (128 + (((x / 4096) % 256) % 64))), (UInt8.ofNat (128 + (((x / 64) % 256) % 64))), (UInt8.ofNat (128 + ((x % 256) % 64)))].map dU8)] rfl ?_))))))))
              refine PD.norm [.sl v24 1 5 ((bs ++ encR x).map dU8), .sl (vS g23 4 4) 1 5 ([(UInt8.ofNat (240 + ((x / 262144) % 256))), (UInt8.ofNat (128 + (((x / 4096) % 256) % 64))), (UInt8.ofNat (128 + (((x / 64) % 256) % 64))), (UInt8.ofNat (128 + ((x % 256) % 64)))].map dU8)] (by first | (exfalso; omega) | skip; unfold encR; first | rw [if_neg (by omega), if_pos (by omega)] | rw [if_neg (by omega), if_neg (by omega), if_pos (by omega)] | rw [if_neg (by omega), if_neg (by omega), if_neg (by omega), if_pos (by omega)] | rw [if_neg (by omega), if_neg (by omega), if_neg (by omega), if_neg (by omega)]) ?_
              exact zx Try.results78 (.cons (zs rfl) .nil) rfl (HSub.fst 1 rfl) ⟨v24, rfl, rfl⟩
            · simp only [Bool.and_eq_true, Bool.or_eq_true, Bool.not_eq_true', Bool.not_eq_false', Bool.and_eq_false_iff, Bool.or_eq_false_iff, decide_eq_true_eq, decide_eq_false_iff_not, Decidable.not_not, ne_eq] at hc22
              refine zh _ _ rfl rfl rfl (zc rfl (za rfl rfl (zb rfl) (zl rfl rfl (z5 [.const (.int .u8 239), .const (.int .u8 191), .const (.int .u8 189)] rfl rfl (.cons (CellD.v rfl) (.cons (CellD.v rfl) (.cons (CellD.v rfl) .nil))) rfl Try.runUnderlying75 Try.sizeOf5 Try.zeroValue5 rfl rfl rfl rfl) ?_)))
              rintro _ _ ⟨g25, rfl, rfl⟩
              refine zl rfl rfl (z4 (f := dU8) (l := bs) (l' := [(239 : UInt8), (191 : UInt8), (189 : UInt8)]) (i := 1) rfl rfl rfl (SrcD.own (j := 0) rfl rfl) zcC zcF rfl rfl (by unfold maxLen; (try simp only [la, lc, ln, lm, lt', ld, ls, lr]); omega) (by (try simp only [la, lc, ln, lm, lt', ld, ls, lr]); omega)) ?_
              rintro _ _ ⟨v26, rfl, rfl⟩
              refine OpsD.norm [.sl (vS g25 3 3) 1 5 ([.v (.int .u8 239), .v (.int .u8 191), .v (.int .u8 189)]), .sl v26 1 5 ((bs ++ [(239 : UInt8), (191 : UInt8), (189 : UInt8)]).map dU8)] rfl (za rfl rfl (ze rfl) (zg rfl (zf (zB rfl (zn (PD.subH (HSub.perm (zO (i := 1) rfl)) (PD.norm [.sl v26 1 5 ((bs ++ [(239 : UInt8), (191 : UInt8), (189 : UInt8)]).map dU8), .sl (vS g25 3 3) 1 5 ([.v (.int .u8 239), .v (.int .u8 191), .v (.int .u8 189)])] rfl (PD.norm [.sl v26 1 5 ((bs ++ encR x).map dU8), .sl (vS g25 3 3) 1 5 ([.v (.int .u8 239), .v (.int .u8 191), .v (.int .u8 189)])] (by first | (exfalso; omega) | skip; unfold encR; first | rw [if_neg (by omega), if_pos (by omega)] | rw [if_neg (by omega), if_neg (by omega), if_pos (by omega)] | rw [if_neg (by omega), if_neg (by omega), if_neg (by omega), if_pos (by omega)] | rw [if_neg (by omega), if_neg (by omega), if_neg (by omega), if_neg (by omega)]) ?_))))))))
              exact zx Try.results78 (.cons (zs rfl) .nil) rfl (HSub.fst 1 rfl) ⟨v26, rfl, rfl⟩

set_option maxHeartbeats 4000000 in
set_option maxRecDepth 100000 in
theorem appR_c (v : Value) (bs : List UInt8) (x : Nat) (h2 : x < 2147483648) (hl : bs.length ≤ 1000000000000) :
    CD Try.prog 68 [.sl v 1 5 (bs.map dU8)] [.ov v, .v (.int .i32 ((x : Nat) : Int))] (fun r H' => ∃ v', r = .ov v' ∧ H' = [.sl v' 1 5 ((bs ++ encR x).map dU8)]) := by
  refine zL Try.func68 rfl (N := 16) rfl rfl (fun C => ?_)
  refine JD.keep [0, 1] [(0, .ov v), (1, .v (.int .i32 ((x : Nat) : Int)))] rfl (zh _ _ rfl rfl rfl (zc rfl (za rfl rfl (ze rfl) (zg rfl (zf (zh _ _ rfl rfl rfl (zh _ _ rfl rfl rfl (zc rfl (za rfl rfl (zb rfl) (za rfl rfl (zaO rfl (c := ((x : Nat) : Int)) (cv_21_105 (by omega))) (za rfl rfl (zaS rfl rfl rfl) (zg rfl (zf ?_)))))))))))))
  refine zu _ _ rfl rfl rfl rfl (fun hc1 => ?_) (fun hc1 => ?_)
  · replace hc1 := of_decide_eq_true hc1
    refine zh _ _ rfl rfl rfl (zc rfl (za rfl rfl (zb rfl) (za rfl rfl (zb rfl) (za rfl rfl (zaO rfl (c := ((x % 256 : Nat) : Int)) (za1 _)) (zl rfl rfl (z5 [.tmp 10] rfl rfl (.cons (CellD.v rfl) .nil) rfl Try.runUnderlying75 Try.sizeOf5 Try.zeroValue5 rfl rfl rfl rfl) ?_)))))
    rintro _ _ ⟨g2, rfl, rfl⟩
    refine OpsD.subH (HSub.turn (h' := .sl (vS g2 1 1) 1 5 ([(UInt8.ofNat (x % 256))].map dU8)) rfl (Hp.cvs_sl (.cons (Cv.eq (zch rfl (by omega))) .nil))) (zl rfl rfl (z4 (f := dU8) (l := bs) (l' := [(UInt8.ofNat (x % 256))]) (i := 1) rfl rfl rfl (SrcD.own (j := 0) rfl rfl) zcC zcF rfl rfl (by unfold maxLen; (try simp only [la, lc, ln, lm, lt', ld, ls, lr]); omega) (by (try simp only [la, lc, ln, lm, lt', ld, ls, lr]); omega)) ?_)
    rintro _ _ ⟨v3, rfl, rfl⟩
    refine OpsD.norm [.sl (vS g2 1 1) 1 5 ([(UInt8.ofNat (x % 256))].map dU8), .sl v3 1 5 ((bs ++ [(UInt8.ofNat (x % 256))]).map dU8)] rfl (za rfl rfl (ze rfl) (zg rfl (zf (zB rfl (zp (PD.subH (HSub.perm (zO (i := 1) rfl)) (PD.norm [.sl v3 1 5 ((bs ++ [(UInt8.ofNat (x % 256))]).map dU8), .sl (vS g2 1 1) 1 5 ([(UInt8.ofNat (x % 256))].map dU8)] rfl (PD.norm [.sl v3 1 5 ((bs ++ encR x).map dU8), .sl (vS g2 1 1) 1 5 ([(UInt8.ofNat (x % 256))].map dU8)] (by unfold encR; rw [if_pos (by omega)]) ?_))))))))
    exact zx Try.results68 (.cons (zs rfl) .nil) rfl (HSub.fst 1 rfl) ⟨v3, rfl, rfl⟩
  · replace hc1 := of_decide_eq_false hc1
    refine zz rfl (zf (zh _ _ rfl rfl rfl (zc rfl (za rfl rfl (zb rfl) (za rfl rfl (zb rfl) (zl rfl rfl (zt [.sl v 1 5 (bs.map dU8)] [] [] rfl rfl (.cons ArgC.id (.cons ArgC.id .nil)) zo Try.call78 (appNA_c v bs x (by omega) (by omega) (by (try simp only [la, lc, ln]); omega)) (.inl rfl)) ?_))))))
    rintro _ _ ⟨_, ⟨rv4, rfl, rfl⟩, rfl⟩
    refine OpsD.norm [.sl rv4 1 5 ((bs ++ encR x).map dU8)] rfl (za rfl rfl (ze rfl) (zg rfl (zf (zB rfl ?_))))
    exact zx Try.results68 (.cons (zs rfl) .nil) rfl (HSub.fst 1 rfl) ⟨rv4, rfl, rfl⟩

set_option maxHeartbeats 4000000 in
set_option maxRecDepth 100000 in
theorem WriteRune_c (g : Nat) (p v : Value) (bs : List UInt8) (x : Nat) (hp : p = .pointer none ∨ p = .pointer (some ⟨g, 0, none⟩)) (hl : bs.length ≤ 1000000000000) (hx : x < 2147483648) :
    CD Try.prog 53 [.bx g 77 (.agg [.v p, .ov v]), .sl v 1 5 (bs.map dU8)] [dP g 0, .v (.int .i32 ((x : Nat) : Int))] (fun r H' => ∃ v' n, r = .tup [dI n, .v .nilIface] ∧ H' = [.bx g 77 (.agg [dP g 0, .ov v']), .sl v' 1 5 ((bs ++ encR x).map dU8)]) := by
  refine zL Try.func53 rfl (N := 30) rfl rfl (fun C => ?_)
  refine JD.keep [0, 1] [(0, dP g 0), (1, .v (.int .i32 ((x : Nat) : Int)))] rfl ?_
  have hel := zc6 x
  refine zh _ _ rfl rfl rfl (zc rfl (za rfl rfl (ze rfl) (za rfl rfl (ze rfl) (zg rfl (zf (zh _ _ rfl rfl rfl (zc rfl (za rfl rfl (zb rfl) (zl rfl rfl (zt [.bx g 77 (.agg [.v p, .ov v])] [.sl v 1 5 (bs.map dU8)] [] rfl rfl (.cons ArgC.id .nil) zo Try.call67 (copyCheck_c g p (.ov v) hp) (.inl rfl)) ?_)))))))))
  rintro _ _ ⟨_, ⟨rfl, rfl⟩, rfl⟩
  refine OpsD.norm [.bx g 77 (.agg [dP g 0, .ov v]), .sl v 1 5 (bs.map dU8)] rfl (zg rfl (zf (zh _ _ rfl rfl rfl (zc rfl (za rfl rfl (zb rfl) (za rfl rfl (zal rfl) (za rfl rfl (zA rfl zbi rfl) (za rfl rfl (zR rfl (i := 0) rfl Try.isAgg75 rfl) (za rfl rfl (z6 (n := bs.length) (j := 1) rfl rfl Try.runUnderlying75 (List.length_map _)) (za rfl rfl (ze rfl) (zg rfl (zf (zh _ _ rfl rfl rfl (zc rfl (za rfl rfl (zb rfl) (za rfl rfl (zb rfl) (za rfl rfl (zal rfl) (za rfl rfl (zA rfl zbi rfl) (za rfl rfl (zR rfl (i := 0) rfl Try.isAgg75 rfl) (za rfl rfl (zb rfl) (OpsD.subH (HSub.perm (zO (i := 1) rfl)) (OpsD.norm [.sl v 1 5 (bs.map dU8), .bx g 77 (.agg [dP g 0, .ov v])] rfl (zl rfl rfl (zt [.sl v 1 5 (bs.map dU8)] [.bx g 77 (.agg [dP g 0, .ov v])] [] rfl rfl (.cons ArgC.id (.cons ArgC.id .nil)) zo Try.call68 (appR_c v bs x  (by omega) (by (try simp only [la, lc, ln]); omega)) (.inl rfl)) ?_)))))))))))))))))))))))
  rintro _ _ ⟨_, ⟨rv1, rfl, rfl⟩, rfl⟩
  refine OpsD.norm [.sl rv1 1 5 ((bs ++ encR x).map dU8), .bx g 77 (.agg [dP g 0, .ov v])] rfl (za rfl rfl (zal rfl) (za rfl rfl (zA rfl zbi rfl) (zl rfl rfl (zab (i := 1) (X' := .agg [dP g 0, .ov rv1]) rfl rfl rfl (CellD.o) Try.sizeOf75 rfl rfl rfl) ?_)))
  rintro _ _ ⟨rfl, rfl⟩
  refine OpsD.norm [.sl rv1 1 5 ((bs ++ encR x).map dU8), .bx g 77 (.agg [dP g 0, .ov rv1])] rfl (zg rfl (zf (JD.keep [0, 4, 5, 6] [(0, dP g 0), (4, dI 0), (5, .v .nilIface), (6, dN bs.length)] rfl (zh _ _ rfl rfl rfl (zc rfl (za rfl rfl (zb rfl) (za rfl rfl (zal rfl) (za rfl rfl (zA rfl zbi rfl) (za rfl rfl (zR rfl (i := 1) rfl Try.isAgg75 rfl) (za rfl rfl (z6 (n := (bs ++ encR x).length) (j := 0) rfl rfl Try.runUnderlying75 (List.length_map _)) (za rfl rfl (zb rfl) (za rfl rfl (zaR (c := ((((bs ++ encR x).length : Nat) : Int) - ((bs.length : Nat) : Int))) rfl rfl (zT (by omega) (by (try simp only [la]); omega))) (za rfl rfl (ze rfl) (za rfl rfl (ze rfl) (zg rfl (zf (JD.keep [4, 5] [(4, dI ((((bs ++ encR x).length : Nat) : Int) - ((bs.length : Nat) : Int))), (5, .v .nilIface)] rfl (zB rfl (PD.subH (HSub.perm (zO (i := 1) rfl)) (PD.norm [.bx g 77 (.agg [dP g 0, .ov rv1]), .sl rv1 1 5 ((bs ++ encR x).map dU8)] rfl ?_))))))))))))))))))))
  exact zx Try.results53 (.cons (zs rfl) (.cons (zs rfl) .nil)) rfl (HSub.fst 2 rfl) ⟨rv1, _, rfl, rfl⟩

set_option maxHeartbeats 4000000 in
set_option maxRecDepth 100000 in
theorem String_c (g : Nat) (p v : Value) (bs : List UInt8) (h0 : bs ≠ []) :
    CD Try.prog 56 [.bx g 77 (.agg [.v p, .ov v]), .sl v 1 5 (bs.map dU8)] [dP g 0] (fun r H' => r = .s ⟨bs.toArray⟩ ∧ H' = []) := by
  refine zL Try.func56 rfl (N := 14) rfl rfl (fun C => ?_)
  refine JD.keep [0] [(0, dP g 0)] rfl (zh _ _ rfl rfl rfl (zc rfl (za rfl rfl (ze rfl) (zg rfl (zf (zh _ _ rfl rfl rfl (JD.keep [0, 2] [(0, dP g 0), (2, .v (.string ByteArray.empty))] rfl (JD.norm [.bx g 77 (.agg [.v p, .ov v]), .sl v 1 5 (bs.map dU8)] rfl ?_))))))))
  refine zai 10 [(3, dP g 0, none), (4, dP g 0, none), (5, dP g 1, none), (6, .ov v, none), (7, .v (.pointer (some ⟨bl v, 0, none⟩)), none), (8, dP g 0, none), (9, dP g 0, none), (10, dP g 1, none), (11, .ov v, none), (12, dN bs.length, none)] [.bx g 77 (.agg [.v p, .ov v]), .sl v 1 5 (bs.map dU8)] (Hn := [.bx g 77 (.agg [.v p, .ov v]), .sl v 1 5 (bs.map dU8)]) zaz rfl rfl rfl rfl HSub.rfl' rfl ⟨sa_p rfl rfl rfl (zb rfl), sa_p rfl rfl rfl (zal rfl), sa_p rfl rfl rfl (zA rfl zbi rfl), sa_p rfl rfl rfl (zR rfl (i := 0) rfl Try.isAgg75 rfl), sa_p rfl rfl rfl (p_sliceData (i := 1) rfl rfl (by rw [List.length_map]; exact List.length_pos_iff.2 h0)), sa_p rfl rfl rfl (zb rfl), sa_p rfl rfl rfl (zal rfl), sa_p rfl rfl rfl (zA rfl zbi rfl), sa_p rfl rfl rfl (zR rfl (i := 0) rfl Try.isAgg75 rfl), sa_p rfl rfl rfl (z6 (n := bs.length) (j := 1) rfl rfl Try.runUnderlying75 (List.length_map _)), trivial⟩ ?_
  refine OpsD.keep [0, 2, 3, 4, 5, 6, 7, 8, 9, 10, 11, 12] [(0, dP g 0), (2, .v (.string ByteArray.empty)), (3, dP g 0), (4, dP g 0), (5, dP g 1), (6, .ov v), (7, .v (.pointer (some ⟨bl v, 0, none⟩))), (8, dP g 0), (9, dP g 0), (10, dP g 1), (11, .ov v), (12, dN bs.length)] rfl (zl rfl rfl (ef_unsafeString (i := 1) (bs := bs) rfl rfl rfl rfl h0 (by kernel_rfl) (by kernel_rfl)) ?_)
  rintro _ _ ⟨rfl, rfl⟩
  refine OpsD.norm [.bx g 77 (.agg [.v p, .ov v])] rfl (za rfl rfl (ze rfl) (zg rfl (zf (JD.keep [2] [(2, .s (⟨bs.toArray⟩))] rfl (zB rfl ?_)))))
  exact zx Try.results56 (.cons (zs rfl) .nil) rfl HSub.none ⟨rfl, rfl⟩

set_option maxHeartbeats 4000000 in
set_option maxRecDepth 100000 in
theorem hasP_c (a : ByteArray) (b : ByteArray)  :
    CD Try.prog 69 [] [.s a, .s b] (isR (dB (hasP a b))) := by
  refine zL Try.func69 rfl (N := 18) rfl rfl (fun C => ?_)
  refine JD.keep [0, 1] [(0, .s a), (1, .s b)] rfl ?_
  refine JD.bd 0 rfl (fun bd0 => ?_)
  have sz0 : a.size ≤ 9223372036854775807 := bd0
  refine JD.bd 1 rfl (fun bd1 => ?_)
  have sz1 : b.size ≤ 9223372036854775807 := bd1
  refine zh _ _ rfl rfl rfl (zc rfl (za rfl rfl (ze rfl) (zg rfl (zf (zh _ _ rfl rfl rfl (JD.keep [0, 1] [(0, .s a), (1, .s b)] rfl ?_))))))
  refine zaj 4 ((decide (((b.size : Nat) : Int) ≤ ((a.size : Nat) : Int)) && decide ((a.extract 0 b.size) = b))) [] (fun _ hQ1 => ?_) ?_
  · skip
    by_cases hg2 : ((b.size : Nat) : Int) ≤ ((a.size : Nat) : Int)
    · skip
      refine zc rfl (za rfl rfl (zb rfl) (za rfl rfl (zaF rfl Try.runUnderlying9) (za rfl rfl (zb rfl) (za rfl rfl (zaF rfl Try.runUnderlying9) (za rfl rfl (zac rfl rfl (decide_eq_true hg2)) (za rfl rfl (zb rfl) (zi rfl rfl rfl rfl rfl (zb rfl) (zi rfl rfl rfl rfl rfl (zb rfl) (zi rfl rfl rfl rfl rfl (zaF rfl Try.runUnderlying9) (zi rfl rfl rfl rfl rfl (p_slice_str (a := 0) (c := b.size) rfl rfl rfl (by first | rfl | (show _ = _; omega)) (by first | rfl | (show _ = _; omega)) Try.runUnderlying9 (by omega) (by omega)) (zi rfl rfl rfl rfl rfl (zb rfl) (zi rfl rfl rfl rfl rfl (zbW rfl rfl rfl) (za rfl rfl (zr rfl rfl) (za rfl rfl (ze rfl) (zg rfl ?_)))))))))))))))
      exact PD.sub ((4, dB (decide (((b.size : Nat) : Int) ≤ ((a.size : Nat) : Int)) && decide ((a.extract 0 b.size) = b))) :: [(0, .s a), (1, .s b)]) ⟨sc rfl (Cv.eq (congrArg (fun b => D.v (.bool b)) (by first | (simp [hg2]; done) | (simp_all; done)))), sk rfl, sk rfl, trivial⟩ hQ1
    · skip
      refine zc rfl (za rfl rfl (zb rfl) (za rfl rfl (zaF rfl Try.runUnderlying9) (za rfl rfl (zb rfl) (za rfl rfl (zaF rfl Try.runUnderlying9) (za rfl rfl (zac rfl rfl (decide_eq_false hg2)) (za rfl rfl (zb rfl) (zj rfl rfl rfl rfl rfl (by decide) (zj rfl rfl rfl rfl rfl (by decide) (zj rfl rfl rfl rfl rfl (by decide) (zj rfl rfl rfl rfl rfl (by decide) (zj rfl rfl rfl rfl rfl (by decide) (zj rfl rfl rfl rfl rfl (by decide) (za rfl rfl (zm rfl rfl) (za rfl rfl (ze rfl) (zg rfl ?_)))))))))))))))
      exact PD.sub ((4, dB (decide (((b.size : Nat) : Int) ≤ ((a.size : Nat) : Int)) && decide ((a.extract 0 b.size) = b))) :: [(0, .s a), (1, .s b)]) ⟨sc rfl (Cv.eq (congrArg (fun b => D.v (.bool b)) (by first | (simp [hg2]; done) | (simp_all; done)))), sk rfl, sk rfl, trivial⟩ hQ1
  · skip
    refine zf (zB rfl ?_)
    exact zx Try.results69 (.cons (zM (zs rfl) (Cv.eq (congrArg (fun b => D.v (.bool b)) (by unfold hasP; simp [*])))) .nil) rfl HSub.none ⟨rfl, rfl⟩

set_option maxHeartbeats 4000000 in
set_option maxRecDepth 100000 in
theorem HasPrefix_c (a : ByteArray) (b : ByteArray)  :
    CD Try.prog 55 [] [.s a, .s b] (isR (dB (hasP a b))) := by
  refine zL Try.func55 rfl (N := 8) rfl rfl (fun C => ?_)
  refine JD.keep [0, 1] [(0, .s a), (1, .s b)] rfl ?_
  refine JD.bd 0 rfl (fun bd0 => ?_)
  have sz0 : a.size ≤ 9223372036854775807 := bd0
  refine JD.bd 1 rfl (fun bd1 => ?_)
  have sz1 : b.size ≤ 9223372036854775807 := bd1
  refine zh _ _ rfl rfl rfl (zc rfl (za rfl rfl (ze rfl) (zg rfl (zf (zh _ _ rfl rfl rfl (zc rfl (za rfl rfl (zb rfl) (za rfl rfl (zb rfl) (zl rfl rfl (zt [] _ [] rfl rfl (.cons ArgC.id (.cons ArgC.id .nil)) zo Try.call69 (hasP_c a b) (.inl rfl)) ?_)))))))))
  rintro _ _ ⟨_, ⟨rfl, rfl⟩, rfl⟩
  refine OpsD.norm [] rfl (za rfl rfl (ze rfl) (zg rfl (zf (zB rfl ?_))))
  exact zx Try.results55 (.cons (zs rfl) .nil) rfl HSub.none ⟨rfl, rfl⟩

set_option maxHeartbeats 4000000 in
set_option maxRecDepth 100000 in
theorem Quote_c (s : ByteArray) (hs : s.size ≤ 1000000000) :
    CD Try.prog 38 [] [.s s] (isR (D.s (zca s))) := by
  refine zL Try.func38 rfl (N := 54) rfl rfl (fun C => ?_)
  refine JD.keep [0] [(0, .s s)] rfl ?_
  refine JD.bd 0 rfl (fun bd0 => ?_)
  have sz0 : s.size ≤ 9223372036854775807 := bd0
  refine zh _ _ rfl rfl rfl (zc rfl (za rfl rfl (ze rfl) (zg rfl (zf (zh _ _ rfl rfl rfl (zc rfl (zl rfl rfl (zaN (zv := (.agg #[(.pointer none), (.slice none 0 0)])) (X := .agg [.v (.pointer none), .ov (.slice none 0 0)]) Try.zeroValue77 ⟨rfl, rfl, trivial⟩ ((Cv.vagg (by decide)).trans (Cv.agg (.cons Cv.rfl' (.cons (Cv.ov rfl) .nil))))) ?_)))))))
  rintro _ _ ⟨g1, rfl, rfl⟩
  refine OpsD.subH (HSub.nil 1 5) (OpsD.norm [.sl (.slice none 0 0) 1 5 ([].map dU8), .bx g1 77 (.agg [.v (.pointer none), .ov (.slice none 0 0)])] rfl (zg rfl (zf (zh _ _ rfl rfl rfl (zc rfl (OpsD.subH (HSub.perm (zO (i := 1) rfl)) (OpsD.norm [.bx g1 77 (.agg [.v (.pointer none), .ov (.slice none 0 0)]), .sl (.slice none 0 0) 1 5 ([].map dU8)] rfl (zl rfl rfl (zt [.bx g1 77 (.agg [.v (.pointer none), .ov (.slice none 0 0)]), .sl (.slice none 0 0) 1 5 ([].map dU8)] [] [] rfl rfl (.cons ArgC.id (.cons ArgC.id .nil)) zo Try.call52 (zcn g1 (.pointer none) (.slice none 0 0) [] (34 : UInt8) (.inl rfl) (by (try simp only [la, lc, ln]); omega)) (.inl rfl)) ?_))))))))
  rintro _ _ ⟨_, ⟨bv2, rfl, rfl⟩, rfl⟩
  refine OpsD.norm [.bx g1 77 (.agg [dP g1 0, .ov bv2]), .sl bv2 1 5 (([] ++ [(34 : UInt8)]).map dU8)] rfl (zg rfl (zf (zh _ _ rfl rfl rfl (zh _ _ rfl rfl rfl (zc rfl (za rfl rfl (zb rfl) (zl rfl rfl (ef_range rfl Try.runUnderlying9) ?_)))))))
  rintro _ _ ⟨g3, rfl, rfl⟩
  refine zg rfl (zf (zy _ rfl rfl (z7 (fun (g : Nat × Value × List UInt8) => [(0, .s s), (2, .v (.string ByteArray.empty)), (3, dP g1 0), (8, dP g3 0)]) (fun (g : Nat × Value × List UInt8) => [.it g3 s g.1, .bx g1 77 (.agg [dP g1 0, .ov g.2.1]), .sl g.2.1 1 5 (g.2.2.map dU8)]) (fun (g : Nat × Value × List UInt8) => (g.1 ≤ s.size) ∧ (g.2.2.length ≤ 1 + 5 * g.1) ∧ ([34] ++ za6 s 0 = g.2.2 ++ za6 s g.1)) (fun (g : Nat × Value × List UInt8) => s.size - g.1) _ (0, bv2, ([] ++ [(34 : UInt8)])) rfl rfl ⟨sk rfl, sk rfl, sk rfl, sk rfl, trivial⟩ HSub.rfl' ⟨Nat.zero_le _, by simp, rfl⟩ ?_)))
  rintro ⟨p, ov, bs⟩ ⟨hp, hn, hq⟩
  replace hp : p ≤ s.size := hp
  replace hn : bs.length ≤ 1 + 5 * p := hn
  replace hq : [34] ++ za6 s 0 = bs ++ za6 s p := hq
  refine JD.keep [0, 2, 3, 8] [(0, .s s), (2, .v (.string ByteArray.empty)), (3, dP g1 0), (8, dP g3 0)] rfl (JD.norm [.it g3 s p, .bx g1 77 (.agg [dP g1 0, .ov ov]), .sl ov 1 5 (bs.map dU8)] rfl ?_)
  rcases Nat.lt_or_ge p s.size with hlt | hge
  · skip
    have hrune := zb9 hlt
    have hrl := zdO s p
    have hdw := zbs s p hlt
    have hdp := zaw s p
    refine zh _ _ rfl rfl rfl (zc rfl (zl rfl rfl (ef_next_t (i := 0) rfl rfl hlt) ?_))
    rintro _ _ ⟨rfl, rfl⟩
    refine OpsD.norm [.it g3 s (p + decW s p), .bx g1 77 (.agg [dP g1 0, .ov ov]), .sl ov 1 5 (bs.map dU8)] rfl (za rfl rfl (zF rfl rfl) (zg rfl (zf (zh _ _ rfl rfl rfl (zau _ rfl rfl rfl (zz rfl (zf (zy _ rfl rfl (zh _ _ rfl rfl rfl (zc rfl (za rfl rfl (zF rfl rfl) (za rfl rfl (zF rfl rfl) (za rfl rfl (ze rfl) (za rfl rfl (ze rfl) (zg rfl (zf (zy _ rfl rfl (zh _ _ rfl rfl rfl ?_))))))))))))))))))
    refine JD.keep [0, 2, 3, 4, 5, 8, 9, 10, 11, 12] [(0, .s s), (2, .v (.string ByteArray.empty)), (3, dP g1 0), (4, dN p), (5, .v (.int .i32 ((decR s p : Nat) : Int))), (8, dP g3 0), (9, .tup [dB true, dN p, .v (.int .i32 ((decR s p : Nat) : Int))]), (10, dB true), (11, dN p), (12, .v (.int .i32 ((decR s p : Nat) : Int)))] rfl ?_
    refine zaj 15 ((decide (((decR s p : Nat) : Int) = (34 : Int)) || decide (((decR s p : Nat) : Int) = (92 : Int)))) [.it g3 s (p + decW s p), .bx g1 77 (.agg [dP g1 0, .ov ov]), .sl ov 1 5 (bs.map dU8)] (fun _ hQ4 => ?_) ?_
    · skip
      by_cases hg5 : ((decR s p : Nat) : Int) = (34 : Int)
      · skip
        refine zc rfl (za rfl rfl (zb rfl) (za rfl rfl (zY rfl rfl (decide_eq_true hg5)) (za rfl rfl (zb rfl) (zj rfl rfl rfl rfl rfl (by decide) (zj rfl rfl rfl rfl rfl (by decide) (za rfl rfl (zr rfl rfl) (za rfl rfl (ze rfl) (zg rfl ?_))))))))
        exact PD.sub ((15, dB (decide (((decR s p : Nat) : Int) = (34 : Int)) || decide (((decR s p : Nat) : Int) = (92 : Int)))) :: [(0, .s s), (2, .v (.string ByteArray.empty)), (3, dP g1 0), (4, dN p), (5, .v (.int .i32 ((decR s p : Nat) : Int))), (8, dP g3 0), (9, .tup [dB true, dN p, .v (.int .i32 ((decR s p : Nat) : Int))]), (10, dB true), (11, dN p), (12, .v (.int .i32 ((decR s p : Nat) : Int)))]) ⟨sc rfl (Cv.eq (congrArg (fun b => D.v (.bool b)) (by first | (simp [hg5]; done) | (simp_all; done)))), sk rfl, sk rfl, sk rfl, sk rfl, sk rfl, sk rfl, sk rfl, sk rfl, sk rfl, sk rfl, trivial⟩ hQ4
      · skip
        refine zc rfl (za rfl rfl (zb rfl) (za rfl rfl (zY rfl rfl (decide_eq_false hg5)) (za rfl rfl (zb rfl) (zi rfl rfl rfl rfl rfl (zb rfl) (zi rfl rfl rfl rfl rfl (zY rfl rfl rfl) (za rfl rfl (zm rfl rfl) (za rfl rfl (ze rfl) (zg rfl ?_))))))))
        exact PD.sub ((15, dB (decide (((decR s p : Nat) : Int) = (34 : Int)) || decide (((decR s p : Nat) : Int) = (92 : Int)))) :: [(0, .s s), (2, .v (.string ByteArray.empty)), (3, dP g1 0), (4, dN p), (5, .v (.int .i32 ((decR s p : Nat) : Int))), (8, dP g3 0), (9, .tup [dB true, dN p, .v (.int .i32 ((decR s p : Nat) : Int))]), (10, dB true), (11, dN p), (12, .v (.int .i32 ((decR s p : Nat) : Int)))]) ⟨sc rfl (Cv.eq (congrArg (fun b => D.v (.bool b)) (by first | (simp [hg5]; done) | (simp_all; done)))), sk rfl, sk rfl, sk rfl, sk rfl, sk rfl, sk rfl, sk rfl, sk rfl, sk rfl, sk rfl, trivial⟩ hQ4
    · skip
      refine zf ?_
      refine zu _ _ rfl rfl rfl rfl (fun hc6 => ?_) (fun hc6 => ?_)
      · simp only [Bool.and_eq_true, Bool.or_eq_true, Bool.not_eq_true', Bool.not_eq_false', Bool.and_eq_false_iff, Bool.or_eq_false_iff, decide_eq_true_eq, decide_eq_false_iff_not, Decidable.not_not, ne_eq] at hc6
        refine zh _ _ rfl rfl rfl (zc rfl (OpsD.subH (HSub.perm (zO (i := 2) rfl)) (OpsD.norm [.sl ov 1 5 (bs.map dU8), .it g3 s (p + decW s p), .bx g1 77 (.agg [dP g1 0, .ov ov])] rfl (OpsD.subH (HSub.perm (zO (i := 2) rfl)) (OpsD.norm [.bx g1 77 (.agg [dP g1 0, .ov ov]), .sl ov 1 5 (bs.map dU8), .it g3 s (p + decW s p)] rfl (zl rfl rfl (zt [.bx g1 77 (.agg [dP g1 0, .ov ov]), .sl ov 1 5 (bs.map dU8)] [.it g3 s (p + decW s p)] [] rfl rfl (.cons ArgC.id (.cons ArgC.id .nil)) zo Try.call52 (zcn g1 (.pointer (some ⟨g1, 0, none⟩)) ov bs (92 : UInt8) (.inr rfl) (by (try simp only [la, lc, ln]); omega)) (.inl rfl)) ?_))))))
        rintro _ _ ⟨_, ⟨bv7, rfl, rfl⟩, rfl⟩
        refine OpsD.norm [.bx g1 77 (.agg [dP g1 0, .ov bv7]), .sl bv7 1 5 ((bs ++ [(92 : UInt8)]).map dU8), .it g3 s (p + decW s p)] rfl (zg rfl (zf (zc rfl (za rfl rfl (zb rfl) (zl rfl rfl (zt [.bx g1 77 (.agg [dP g1 0, .ov bv7]), .sl bv7 1 5 ((bs ++ [(92 : UInt8)]).map dU8)] [.it g3 s (p + decW s p)] [] rfl rfl (.cons ArgC.id (.cons ArgC.id .nil)) zo Try.call53 (WriteRune_c g1 (.pointer (some ⟨g1, 0, none⟩)) bv7 (bs ++ [(92 : UInt8)]) (decR s p) (.inr rfl) (by (try simp only [la, lc, ln]); omega) (by omega)) (.inl rfl)) ?_)))))
        rintro _ _ ⟨_, ⟨bv8, nw9, rfl, rfl⟩, rfl⟩
        refine OpsD.norm [.bx g1 77 (.agg [dP g1 0, .ov bv8]), .sl bv8 1 5 (((bs ++ [(92 : UInt8)]) ++ encR (decR s p)).map dU8), .it g3 s (p + decW s p)] rfl (zg rfl (zD (zD (PD.subH (HSub.perm (zO (i := 1) rfl)) (PD.norm [.sl bv8 1 5 (((bs ++ [(92 : UInt8)]) ++ encR (decR s p)).map dU8), .bx g1 77 (.agg [dP g1 0, .ov bv8]), .it g3 s (p + decW s p)] rfl (PD.subH (HSub.perm (zO (i := 1) rfl)) (PD.norm [.bx g1 77 (.agg [dP g1 0, .ov bv8]), .sl bv8 1 5 (((bs ++ [(92 : UInt8)]) ++ encR (decR s p)).map dU8), .it g3 s (p + decW s p)] rfl (PD.subH (HSub.perm (zO (i := 2) rfl)) (PD.norm [.it g3 s (p + decW s p), .bx g1 77 (.agg [dP g1 0, .ov bv8]), .sl bv8 1 5 (((bs ++ [(92 : UInt8)]) ++ encR (decR s p)).map dU8)] rfl ?_)))))))))
        exact zS (p + decW s p, bv8, ((bs ++ [(92 : UInt8)]) ++ encR (decR s p))) ⟨sk rfl, sk rfl, sk rfl, sk rfl, trivial⟩ HSub.rfl' ⟨by have := zbs s p hlt; omega, by (try simp only [la, lc, ln]); have := zaw s p; have := zc6 (decR s p); omega, by rw [hq, zbr hlt, piece_1 (by omega)]; simp only [List.append_assoc, List.cons_append, List.nil_append]⟩ (by have := zaw s p; omega)
      · simp only [Bool.and_eq_true, Bool.or_eq_true, Bool.not_eq_true', Bool.not_eq_false', Bool.and_eq_false_iff, Bool.or_eq_false_iff, decide_eq_true_eq, decide_eq_false_iff_not, Decidable.not_not, ne_eq] at hc6
        refine zh _ _ rfl rfl rfl (zc rfl (za rfl rfl (zb rfl) (za rfl rfl (zY rfl rfl rfl) (za rfl rfl (ze rfl) (zg rfl (zf ?_))))))
        refine zu _ _ rfl rfl rfl rfl (fun hc10 => ?_) (fun hc10 => ?_)
        · replace hc10 := of_decide_eq_true hc10
          refine zc rfl (OpsD.subH (HSub.perm (zO (i := 2) rfl)) (OpsD.norm [.sl ov 1 5 (bs.map dU8), .it g3 s (p + decW s p), .bx g1 77 (.agg [dP g1 0, .ov ov])] rfl (OpsD.subH (HSub.perm (zO (i := 2) rfl)) (OpsD.norm [.bx g1 77 (.agg [dP g1 0, .ov ov]), .sl ov 1 5 (bs.map dU8), .it g3 s (p + decW s p)] rfl (zl rfl rfl (zt [.bx g1 77 (.agg [dP g1 0, .ov ov]), .sl ov 1 5 (bs.map dU8)] [.it g3 s (p + decW s p)] [] rfl rfl (.cons ArgC.id (.cons (ArgC.cv (Cv.str (by first | decide | (unfold maxLen; omega)))) .nil)) zo Try.call54 (zbM g1 (.pointer (some ⟨g1, 0, none⟩)) ov bs (⟨#[92, 110]⟩ : ByteArray) (.inr rfl) (by (try simp only [la, lc, ln]); omega) (by first | decide | omega)) (.inl rfl)) ?_)))))
          rintro _ _ ⟨_, ⟨bv11, rfl, rfl⟩, rfl⟩
          refine OpsD.norm [.bx g1 77 (.agg [dP g1 0, .ov bv11]), .sl bv11 1 5 ((bs ++ (⟨#[92, 110]⟩ : ByteArray).data.toList).map dU8), .it g3 s (p + decW s p)] rfl (zg rfl (zD (zD (PD.subH (HSub.perm (zO (i := 1) rfl)) (PD.norm [.sl bv11 1 5 ((bs ++ (⟨#[92, 110]⟩ : ByteArray).data.toList).map dU8), .bx g1 77 (.agg [dP g1 0, .ov bv11]), .it g3 s (p + decW s p)] rfl (PD.subH (HSub.perm (zO (i := 1) rfl)) (PD.norm [.bx g1 77 (.agg [dP g1 0, .ov bv11]), .sl bv11 1 5 ((bs ++ (⟨#[92, 110]⟩ : ByteArray).data.toList).map dU8), .it g3 s (p + decW s p)] rfl (PD.subH (HSub.perm (zO (i := 2) rfl)) (PD.norm [.it g3 s (p + decW s p), .bx g1 77 (.agg [dP g1 0, .ov bv11]), .sl bv11 1 5 ((bs ++ (⟨#[92, 110]⟩ : ByteArray).data.toList).map dU8)] rfl ?_)))))))))
          exact zS (p + decW s p, bv11, (bs ++ (⟨#[92, 110]⟩ : ByteArray).data.toList)) ⟨sk rfl, sk rfl, sk rfl, sk rfl, trivial⟩ HSub.rfl' ⟨by have := zbs s p hlt; omega, by (try simp only [la, lc, ln]); have := zaw s p; have := zc6 (decR s p); omega, by rw [hq, zbr hlt, piece_2 (by omega) (by omega)]; simp only [List.append_assoc, List.cons_append, List.nil_append]⟩ (by have := zaw s p; omega)
        · replace hc10 := of_decide_eq_false hc10
          refine zh _ _ rfl rfl rfl (JD.keep [0, 2, 3, 4, 5, 8, 9, 10, 11, 12, 15, 25, 26, 27] [(0, .s s), (2, .v (.string ByteArray.empty)), (3, dP g1 0), (4, dN p), (5, .v (.int .i32 ((decR s p : Nat) : Int))), (8, dP g3 0), (9, .tup [dB true, dN p, .v (.int .i32 ((decR s p : Nat) : Int))]), (10, dB true), (11, dN p), (12, .v (.int .i32 ((decR s p : Nat) : Int))), (15, dB (decide (((decR s p : Nat) : Int) = (34 : Int)) || decide (((decR s p : Nat) : Int) = (92 : Int)))), (25, dB (decide (((decR s p : Nat) : Int) = (10 : Int)))), (26, .v (.int .i32 ((decR s p : Nat) : Int))), (27, dB (decide (((decR s p : Nat) : Int) = (10 : Int))))] rfl ?_)
          refine zaj 29 ((decide (((decR s p : Nat) : Int) = (65533 : Int)) && !(hasP (s.extract p s.size) (⟨#[239, 191, 189]⟩ : ByteArray)))) [.it g3 s (p + decW s p), .bx g1 77 (.agg [dP g1 0, .ov ov]), .sl ov 1 5 (bs.map dU8)] (fun _ hQ12 => ?_) ?_
          · skip
            by_cases hg13 : ((decR s p : Nat) : Int) = (65533 : Int)
            · skip
              refine zc rfl (za rfl rfl (zb rfl) (za rfl rfl (zY rfl rfl (decide_eq_true hg13)) (za rfl rfl (zb rfl) (zi rfl rfl rfl rfl rfl (zb rfl) (zi rfl rfl rfl rfl rfl (zb rfl) (zi rfl rfl rfl rfl rfl (p_slice_str (a := p) (c := s.size) rfl rfl rfl (by first | rfl | (show _ = _; omega)) (by first | rfl | (show _ = _; omega)) Try.runUnderlying9 (by omega) (by omega)) (zaT rfl rfl rfl rfl rfl (zt [] _ [] rfl rfl (.cons ArgC.id (.cons (ArgC.cv (Cv.str (by first | decide | (unfold maxLen; omega)))) .nil)) zo Try.call55 (HasPrefix_c (s.extract p s.size) (⟨#[239, 191, 189]⟩ : ByteArray)) (.inl rfl)) ?_)))))))
              rintro _ _ ⟨_, ⟨rfl, rfl⟩, rfl⟩
              refine OpsD.norm [.it g3 s (p + decW s p), .bx g1 77 (.agg [dP g1 0, .ov ov]), .sl ov 1 5 (bs.map dU8)] rfl (zi rfl rfl rfl rfl rfl (zag rfl) (za rfl rfl (zr rfl rfl) (za rfl rfl (ze rfl) (zg rfl ?_))))
              exact PD.sub ((29, dB (decide (((decR s p : Nat) : Int) = (65533 : Int)) && !(hasP (s.extract p s.size) (⟨#[239, 191, 189]⟩ : ByteArray)))) :: [(0, .s s), (2, .v (.string ByteArray.empty)), (3, dP g1 0), (4, dN p), (5, .v (.int .i32 ((decR s p : Nat) : Int))), (8, dP g3 0), (9, .tup [dB true, dN p, .v (.int .i32 ((decR s p : Nat) : Int))]), (10, dB true), (11, dN p), (12, .v (.int .i32 ((decR s p : Nat) : Int))), (15, dB (decide (((decR s p : Nat) : Int) = (34 : Int)) || decide (((decR s p : Nat) : Int) = (92 : Int)))), (25, dB (decide (((decR s p : Nat) : Int) = (10 : Int)))), (26, .v (.int .i32 ((decR s p : Nat) : Int))), (27, dB (decide (((decR s p : Nat) : Int) = (10 : Int))))]) ⟨sc rfl (Cv.eq (congrArg (fun b => D.v (.bool b)) (by first | (simp [hc10, hg13]; done) | (simp_all; done)))), sk rfl, sk rfl, sk rfl, sk rfl, sk rfl, sk rfl, sk rfl, sk rfl, sk rfl, sk rfl, sk rfl, sk rfl, sk rfl, sk rfl, trivial⟩ hQ12
            · skip
              refine zc rfl (za rfl rfl (zb rfl) (za rfl rfl (zY rfl rfl (decide_eq_false hg13)) (za rfl rfl (zb rfl) (zj rfl rfl rfl rfl rfl (by decide) (zj rfl rfl rfl rfl rfl (by decide) (zj rfl rfl rfl rfl rfl (by decide) (zj rfl rfl rfl rfl rfl (by decide) (zj rfl rfl rfl rfl rfl (by decide) (za rfl rfl (zm rfl rfl) (za rfl rfl (ze rfl) (zg rfl ?_)))))))))))
              exact PD.sub ((29, dB (decide (((decR s p : Nat) : Int) = (65533 : Int)) && !(hasP (s.extract p s.size) (⟨#[239, 191, 189]⟩ : ByteArray)))) :: [(0, .s s), (2, .v (.string ByteArray.empty)), (3, dP g1 0), (4, dN p), (5, .v (.int .i32 ((decR s p : Nat) : Int))), (8, dP g3 0), (9, .tup [dB true, dN p, .v (.int .i32 ((decR s p : Nat) : Int))]), (10, dB true), (11, dN p), (12, .v (.int .i32 ((decR s p : Nat) : Int))), (15, dB (decide (((decR s p : Nat) : Int) = (34 : Int)) || decide (((decR s p : Nat) : Int) = (92 : Int)))), (25, dB (decide (((decR s p : Nat) : Int) = (10 : Int)))), (26, .v (.int .i32 ((decR s p : Nat) : Int))), (27, dB (decide (((decR s p : Nat) : Int) = (10 : Int))))]) ⟨sc rfl (Cv.eq (congrArg (fun b => D.v (.bool b)) (by first | (simp [hc10, hg13]; done) | (simp_all; done)))), sk rfl, sk rfl, sk rfl, sk rfl, sk rfl, sk rfl, sk rfl, sk rfl, sk rfl, sk rfl, sk rfl, sk rfl, sk rfl, sk rfl, trivial⟩ hQ12
          · skip
            refine zf ?_
            refine zu _ _ rfl rfl rfl rfl (fun hc14 => ?_) (fun hc14 => ?_)
            · simp only [Bool.and_eq_true, Bool.or_eq_true, Bool.not_eq_true', Bool.not_eq_false', Bool.and_eq_false_iff, Bool.or_eq_false_iff, decide_eq_true_eq, decide_eq_false_iff_not, Decidable.not_not, ne_eq] at hc14
              refine zh _ _ rfl rfl rfl (zc rfl (OpsD.subH (HSub.perm (zO (i := 2) rfl)) (OpsD.norm [.sl ov 1 5 (bs.map dU8), .it g3 s (p + decW s p), .bx g1 77 (.agg [dP g1 0, .ov ov])] rfl (OpsD.subH (HSub.perm (zO (i := 2) rfl)) (OpsD.norm [.bx g1 77 (.agg [dP g1 0, .ov ov]), .sl ov 1 5 (bs.map dU8), .it g3 s (p + decW s p)] rfl (zl rfl rfl (zt [.bx g1 77 (.agg [dP g1 0, .ov ov]), .sl ov 1 5 (bs.map dU8)] [.it g3 s (p + decW s p)] [] rfl rfl (.cons ArgC.id (.cons (ArgC.cv (Cv.str (by first | decide | (unfold maxLen; omega)))) .nil)) zo Try.call54 (zbM g1 (.pointer (some ⟨g1, 0, none⟩)) ov bs (⟨#[92, 120]⟩ : ByteArray) (.inr rfl) (by (try simp only [la, lc, ln]); omega) (by first | decide | omega)) (.inl rfl)) ?_))))))
              rintro _ _ ⟨_, ⟨bv15, rfl, rfl⟩, rfl⟩
              refine OpsD.norm [.bx g1 77 (.agg [dP g1 0, .ov bv15]), .sl bv15 1 5 ((bs ++ (⟨#[92, 120]⟩ : ByteArray).data.toList).map dU8), .it g3 s (p + decW s p)] rfl (zg rfl (zf (zh _ _ rfl rfl rfl (zc rfl (za rfl rfl (zb rfl) (za rfl rfl (zb rfl) ?_))))))
              obtain ⟨u1, hu1⟩ := get_byte s p (by omega)
              have hlu1 := u1.toNat_lt
              refine za rfl rfl (zck (k := p) rfl rfl Try.runUnderlying9 (by first | rfl | omega) hu1) (za rfl rfl (zcr (a := u1.toNat) (n := 4) (m := 16) rfl rfl (by decide) (by decide)) ?_)
              obtain ⟨u2, hu2⟩ := get_byte (⟨#[48, 49, 50, 51, 52, 53, 54, 55, 56, 57, 97, 98, 99, 100, 101, 102]⟩ : ByteArray) (u1.toNat / 16) (by show _ < 16; omega)
              have hlu2 := u2.toNat_lt
              refine za rfl rfl (zck (k := u1.toNat / 16) rfl rfl Try.runUnderlying9 (by first | rfl | omega) hu2) (zl rfl rfl (zt [.bx g1 77 (.agg [dP g1 0, .ov bv15]), .sl bv15 1 5 ((bs ++ (⟨#[92, 120]⟩ : ByteArray).data.toList).map dU8)] [.it g3 s (p + decW s p)] [] rfl rfl (.cons ArgC.id (.cons ArgC.id .nil)) zo Try.call52 (zcn g1 (.pointer (some ⟨g1, 0, none⟩)) bv15 (bs ++ (⟨#[92, 120]⟩ : ByteArray).data.toList) u2 (.inr rfl) (by (try simp only [la, lc, ln]); omega)) (.inl rfl)) ?_)
              rintro _ _ ⟨_, ⟨bv16, rfl, rfl⟩, rfl⟩
              refine OpsD.norm [.bx g1 77 (.agg [dP g1 0, .ov bv16]), .sl bv16 1 5 (((bs ++ (⟨#[92, 120]⟩ : ByteArray).data.toList) ++ [u2]).map dU8), .it g3 s (p + decW s p)] rfl (zg rfl (zf (zc rfl (za rfl rfl (zb rfl) (za rfl rfl (zb rfl) (za rfl rfl (zck (k := p) rfl rfl Try.runUnderlying9 (by first | rfl | omega) hu1) (za rfl rfl (zcp (a := u1.toNat) (b := 15) rfl rfl (by omega) (by decide) (and15 _)) ?_)))))))
              obtain ⟨u3, hu3⟩ := get_byte (⟨#[48, 49, 50, 51, 52, 53, 54, 55, 56, 57, 97, 98, 99, 100, 101, 102]⟩ : ByteArray) (u1.toNat % 16) (by show _ < 16; omega)
              have hlu3 := u3.toNat_lt
              refine za rfl rfl (zck (k := u1.toNat % 16) rfl rfl Try.runUnderlying9 (by first | rfl | omega) hu3) (zl rfl rfl (zt [.bx g1 77 (.agg [dP g1 0, .ov bv16]), .sl bv16 1 5 (((bs ++ (⟨#[92, 120]⟩ : ByteArray).data.toList) ++ [u2]).map dU8)] [.it g3 s (p + decW s p)] [] rfl rfl (.cons ArgC.id (.cons ArgC.id .nil)) zo Try.call52 (zcn g1 (.pointer (some ⟨g1, 0, none⟩)) bv16 ((bs ++ (⟨#[92, 120]⟩ : ByteArray).data.toList) ++ [u2]) u3 (.inr rfl) (by (try simp only [la, lc, ln]); omega)) (.inl rfl)) ?_)
              rintro _ _ ⟨_, ⟨bv17, rfl, rfl⟩, rfl⟩
              refine OpsD.norm [.bx g1 77 (.agg [dP g1 0, .ov bv17]), .sl bv17 1 5 ((((bs ++ (⟨#[92, 120]⟩ : ByteArray).data.toList) ++ [u2]) ++ [u3]).map dU8), .it g3 s (p + decW s p)] rfl (zg rfl (zD (zD (PD.subH (HSub.perm (zO (i := 1) rfl)) (PD.norm [.sl bv17 1 5 ((((bs ++ (⟨#[92, 120]⟩ : ByteArray).data.toList) ++ [u2]) ++ [u3]).map dU8), .bx g1 77 (.agg [dP g1 0, .ov bv17]), .it g3 s (p + decW s p)] rfl (PD.subH (HSub.perm (zO (i := 1) rfl)) (PD.norm [.bx g1 77 (.agg [dP g1 0, .ov bv17]), .sl bv17 1 5 ((((bs ++ (⟨#[92, 120]⟩ : ByteArray).data.toList) ++ [u2]) ++ [u3]).map dU8), .it g3 s (p + decW s p)] rfl (PD.subH (HSub.perm (zO (i := 2) rfl)) (PD.norm [.it g3 s (p + decW s p), .bx g1 77 (.agg [dP g1 0, .ov bv17]), .sl bv17 1 5 ((((bs ++ (⟨#[92, 120]⟩ : ByteArray).data.toList) ++ [u2]) ++ [u3]).map dU8)] rfl ?_)))))))))
              exact zS (p + decW s p, bv17, (((bs ++ (⟨#[92, 120]⟩ : ByteArray).data.toList) ++ [u2]) ++ [u3])) ⟨sk rfl, sk rfl, sk rfl, sk rfl, trivial⟩ HSub.rfl' ⟨by have := zbs s p hlt; omega, by (try simp only [la, lc, ln]); have := zaw s p; have := zc6 (decR s p); omega, by rw [hq, zbr hlt, piece_3 (by omega) (by omega) ⟨by have := hc14.1; omega, hc14.2⟩]; rw [← byteAt_at hu1]; rw [← hexB_at hu2, ← hexB_at hu3]; simp only [List.append_assoc, List.cons_append, List.nil_append]⟩ (by have := zaw s p; omega)
            · simp only [Bool.and_eq_true, Bool.or_eq_true, Bool.not_eq_true', Bool.not_eq_false', Bool.and_eq_false_iff, Bool.or_eq_false_iff, decide_eq_true_eq, decide_eq_false_iff_not, Decidable.not_not, ne_eq] at hc14
              refine zc rfl (za rfl rfl (zb rfl) (OpsD.subH (HSub.perm (zO (i := 2) rfl)) (OpsD.norm [.sl ov 1 5 (bs.map dU8), .it g3 s (p + decW s p), .bx g1 77 (.agg [dP g1 0, .ov ov])] rfl (OpsD.subH (HSub.perm (zO (i := 2) rfl)) (OpsD.norm [.bx g1 77 (.agg [dP g1 0, .ov ov]), .sl ov 1 5 (bs.map dU8), .it g3 s (p + decW s p)] rfl (zl rfl rfl (zt [.bx g1 77 (.agg [dP g1 0, .ov ov]), .sl ov 1 5 (bs.map dU8)] [.it g3 s (p + decW s p)] [] rfl rfl (.cons ArgC.id (.cons ArgC.id .nil)) zo Try.call53 (WriteRune_c g1 (.pointer (some ⟨g1, 0, none⟩)) ov bs (decR s p) (.inr rfl) (by (try simp only [la, lc, ln]); omega) (by omega)) (.inl rfl)) ?_))))))
              rintro _ _ ⟨_, ⟨bv18, nw19, rfl, rfl⟩, rfl⟩
              refine OpsD.norm [.bx g1 77 (.agg [dP g1 0, .ov bv18]), .sl bv18 1 5 ((bs ++ encR (decR s p)).map dU8), .it g3 s (p + decW s p)] rfl (zg rfl (zD (zD (PD.subH (HSub.perm (zO (i := 1) rfl)) (PD.norm [.sl bv18 1 5 ((bs ++ encR (decR s p)).map dU8), .bx g1 77 (.agg [dP g1 0, .ov bv18]), .it g3 s (p + decW s p)] rfl (PD.subH (HSub.perm (zO (i := 1) rfl)) (PD.norm [.bx g1 77 (.agg [dP g1 0, .ov bv18]), .sl bv18 1 5 ((bs ++ encR (decR s p)).map dU8), .it g3 s (p + decW s p)] rfl (PD.subH (HSub.perm (zO (i := 2) rfl)) (PD.norm [.it g3 s (p + decW s p), .bx g1 77 (.agg [dP g1 0, .ov bv18]), .sl bv18 1 5 ((bs ++ encR (decR s p)).map dU8)] rfl ?_)))))))))
              exact zS (p + decW s p, bv18, (bs ++ encR (decR s p))) ⟨sk rfl, sk rfl, sk rfl, sk rfl, trivial⟩ HSub.rfl' ⟨by have := zbs s p hlt; omega, by (try simp only [la, lc, ln]); have := zaw s p; have := zc6 (decR s p); omega, by rw [hq, zbr hlt, piece_4 (by omega) (by omega) (fun e => by rcases hc14 with h | h <;> first | exact h (by have := e.1; omega) | exact absurd (e.2.symm.trans h) (by decide))]; simp only [List.append_assoc, List.cons_append, List.nil_append]⟩ (by have := zaw s p; omega)
  · skip
    have hrune := zcD hge
    refine zh _ _ rfl rfl rfl (zc rfl (za rfl rfl (p_next_f (i := 0) rfl rfl hge) (za rfl rfl (zF rfl rfl) (zg rfl (zf (zh _ _ rfl rfl rfl (zaC _ rfl rfl rfl (z3 rfl (zK (zI (zE (zf (zh _ _ rfl rfl rfl (zc rfl (OpsD.subH (HSub.perm (zO (i := 2) rfl)) (OpsD.norm [.sl ov 1 5 (bs.map dU8), .it g3 s p, .bx g1 77 (.agg [dP g1 0, .ov ov])] rfl (OpsD.subH (HSub.perm (zO (i := 2) rfl)) (OpsD.norm [.bx g1 77 (.agg [dP g1 0, .ov ov]), .sl ov 1 5 (bs.map dU8), .it g3 s p] rfl (zl rfl rfl (zt [.bx g1 77 (.agg [dP g1 0, .ov ov]), .sl ov 1 5 (bs.map dU8)] [.it g3 s p] [] rfl rfl (.cons ArgC.id (.cons ArgC.id .nil)) zo Try.call52 (zcn g1 (.pointer (some ⟨g1, 0, none⟩)) ov bs (34 : UInt8) (.inr rfl) (by (try simp only [la, lc, ln]); omega)) (.inl rfl)) ?_)))))))))))))))))))
    rintro _ _ ⟨_, ⟨bv20, rfl, rfl⟩, rfl⟩
    refine OpsD.norm [.bx g1 77 (.agg [dP g1 0, .ov bv20]), .sl bv20 1 5 ((bs ++ [(34 : UInt8)]).map dU8), .it g3 s p] rfl (zg rfl (zf (zh _ _ rfl rfl rfl (zc rfl (zl rfl rfl (zt [.bx g1 77 (.agg [dP g1 0, .ov bv20]), .sl bv20 1 5 ((bs ++ [(34 : UInt8)]).map dU8)] [.it g3 s p] [] rfl rfl (.cons ArgC.id .nil) zo Try.call56 (String_c g1 (.pointer (some ⟨g1, 0, none⟩)) bv20 (bs ++ [(34 : UInt8)]) (by simp)) (.inl rfl)) ?_)))))
    rintro _ _ ⟨_, ⟨rfl, rfl⟩, rfl⟩
    refine OpsD.norm [.it g3 s p] rfl (za rfl rfl (ze rfl) (zg rfl (zf (zB rfl ?_))))
    exact zx Try.results38 (.cons (zM (zs rfl) (Cv.eq (congrArg D.s (by rw [zcb hge, List.append_nil] at hq; rw [← hq]; rfl)))) .nil) rfl HSub.none ⟨rfl, rfl⟩

theorem ext_mnz (args : Array Value) (w : World) : (callFunc 79 args).run Try.prog w = ((Extern.BytealgMakeNoZero.makeNoZero #[3] #[75] args).run Try.prog w).andThen fun v w' => .ok (.value v) w' :=
  run_callFunc_extern Try.func79 (by kernel_rfl) (by kernel_rfl) (by kernel_rfl) (e := Extern.BytealgMakeNoZero.makeNoZero #[3] #[75]) (by kernel_rfl) args w

set_option maxHeartbeats 4000000 in
set_option maxRecDepth 100000 in
theorem grow0_c (g n : Nat) (hn : n ≤ 1000000000000) :
    CD Try.prog 70 [.bx g 77 (.agg [dP g 0, .ov (.slice none 0 0)]), .sl (.slice none 0 0) 1 5 ([].map dU8)] [dP g 0, dN n] (fun r H' => ∃ v', r = .tup [] ∧ H' = [.bx g 77 (.agg [dP g 0, .ov v']), .sl v' 1 5 ([].map dU8)]) := by
  refine zL Try.func70 rfl (N := 30) rfl rfl (fun C => ?_)
  refine JD.keep [0, 1] [(0, dP g 0), (1, dN n)] rfl (zh _ _ rfl rfl rfl (JD.keep [0, 1] [(0, dP g 0), (1, dN n)] rfl (JD.norm [.bx g 77 (.agg [dP g 0, .ov (.slice none 0 0)]), .sl (.slice none 0 0) 1 5 ([].map dU8)] rfl ?_)))
  refine zbC 14 [(5, .q (dP g 0)), (6, .q (dP g 0)), (7, .q (dP g 1)), (8, .q (.ov (.slice none 0 0))), (9, .q (dI 0)), (10, .q (dI 0)), (11, .q (dN n)), (12, .q (dN (0 + n))), (13, .o (fun γ => [.sl (γ 8) 1 5 (List.replicate (0 + n) .any), .bx g 77 (.agg [dP g 0, .ov (.slice none 0 0)]), .sl (.slice none 0 0) 1 5 ([].map dU8)])), (14, .q (dP g 0)), (15, .q (dP g 0)), (16, .q (dP g 1)), (17, .q (.ov (.slice none 0 0))), (18, .q (dI 0))] [.bx g 77 (.agg [dP g 0, .ov (.slice none 0 0)]), .sl (.slice none 0 0) 1 5 ([].map dU8)] (Hn := fun γ => [.sl (γ 8) 1 5 (List.replicate (0 + n) .any), .bx g 77 (.agg [dP g 0, .ov (.slice none 0 0)]), .sl (.slice none 0 0) 1 5 ([].map dU8)]) zaz rfl rfl (by kernel_rfl) (by kernel_rfl) (by kernel_rfl) HSub.rfl' (fun _ => rfl) (fun γ => ⟨so_p rfl rfl rfl (zb rfl), so_p rfl rfl rfl (zal rfl), so_p rfl rfl rfl (zA rfl zbi rfl), so_p rfl rfl rfl (zR rfl (i := 0) rfl Try.isAgg75 rfl), so_p rfl rfl rfl (p_cap_nil rfl Try.runUnderlying75), so_p rfl rfl rfl (zea (c := (0 : Int)) rfl rfl (zT (by omega) (by omega))), so_p rfl rfl rfl (zb rfl), so_p rfl rfl rfl (z8 (c := ((0 + n : Nat) : Int)) rfl rfl (zT (by omega) (by omega))), so_o rfl rfl rfl rfl ((ef_makeNoZero (n := 0 + n) ext_mnz rfl (by kernel_rfl) (by omega)).mono (by rintro _ _ ⟨v, rfl, rfl⟩; exact ⟨v, rfl, rfl⟩)) (fun _ => HSub.lst 1 rfl), so_p rfl rfl rfl (zb rfl), so_p rfl rfl rfl (zal rfl), so_p rfl rfl rfl (zA rfl zbi rfl), so_p rfl rfl rfl (zR rfl (i := 0) rfl Try.isAgg75 rfl), so_p rfl rfl rfl (z6 (n := 0) (j := 1) rfl rfl Try.runUnderlying75 rfl), trivial⟩) (fun γ => ?_)
  refine OpsD.keep [0, 1, 5, 6, 7, 8, 9, 10, 11, 12, 13, 14, 15, 16, 17, 18] [(0, dP g 0), (1, dN n), (5, dP g 0), (6, dP g 0), (7, dP g 1), (8, .ov (.slice none 0 0)), (9, dI 0), (10, dI 0), (11, dN n), (12, dN (0 + n)), (13, .ov (γ 8)), (14, dP g 0), (15, dP g 0), (16, dP g 1), (17, .ov (.slice none 0 0)), (18, dI 0)] rfl (za rfl rfl (p_slice_ownov (a := 0) (b := 0) (j := 0) rfl rfl rfl rfl rfl rfl Try.runUnderlying75 Try.sizeOf5 (Nat.zero_le _) (Nat.zero_le _)) (za rfl rfl (ze rfl) (zg rfl (zf (JD.keep [0, 4] [(0, dP g 0), (4, .ov (cut 1 (γ 8) 0 0))] rfl (zh _ _ rfl rfl rfl (JD.subH (HSub.turn (h' := .sl (cut 1 (γ 8) 0 0) 1 5 []) (Hp.front_blk _) (Hp.front (m := 0) (Nat.zero_le _))) (JD.norm [.sl (cut 1 (γ 8) 0 0) 1 5 ([].map dU8), .bx g 77 (.agg [dP g 0, .ov (.slice none 0 0)]), .sl (.slice none 0 0) 1 5 ([].map dU8)] rfl (JD.sub [(0, dP g 0), (4, .ov (cut 1 (γ 8) 0 0))] ⟨sk rfl, sk rfl, trivial⟩ (zc rfl (za rfl rfl (zb rfl) (za rfl rfl (zb rfl) ?_))))))))))))
  refine za rfl rfl (zal rfl) (za rfl rfl (zA rfl zbi rfl) (za rfl rfl (zR rfl (i := 1) rfl Try.isAgg75 rfl) (za rfl rfl (p_copy0 (i := 0) rfl rfl rfl Try.runUnderlying75 Try.sizeOf5) (zg rfl (zf (zc rfl (za rfl rfl (zb rfl) (za rfl rfl (zb rfl) (za rfl rfl (zal rfl) (za rfl rfl (zA rfl zbi rfl) (zl rfl rfl (zab (i := 1) (X' := .agg [dP g 0, .ov (cut 1 (γ 8) 0 0)]) rfl rfl rfl (CellD.o) Try.sizeOf75 rfl rfl rfl) ?_)))))))))))
  rintro _ _ ⟨rfl, rfl⟩
  refine OpsD.norm [.sl (cut 1 (γ 8) 0 0) 1 5 ([].map dU8), .bx g 77 (.agg [dP g 0, .ov (cut 1 (γ 8) 0 0)]), .sl (.slice none 0 0) 1 5 ([].map dU8)] rfl (zg rfl (PD.subH (HSub.perm (zO (i := 1) rfl)) (PD.norm [.bx g 77 (.agg [dP g 0, .ov (cut 1 (γ 8) 0 0)]), .sl (cut 1 (γ 8) 0 0) 1 5 ([].map dU8), .sl (.slice none 0 0) 1 5 ([].map dU8)] rfl ?_)))
  exact zb1 Try.results70 .nil rfl (HSub.fst 2 rfl) ⟨(cut 1 (γ 8) 0 0), rfl, rfl⟩

set_option maxHeartbeats 4000000 in
set_option maxRecDepth 100000 in
theorem Grow0_c (g n : Nat) (p : Value) (hp : p = .pointer none ∨ p = .pointer (some ⟨g, 0, none⟩)) (hn : n ≤ 1000000000000) :
    CD Try.prog 57 [.bx g 77 (.agg [.v p, .ov (.slice none 0 0)]), .sl (.slice none 0 0) 1 5 ([].map dU8)] [dP g 0, dN n] (fun r H' => ∃ v', r = .tup [] ∧ H' = [.bx g 77 (.agg [dP g 0, .ov v']), .sl v' 1 5 ([].map dU8)]) := by
  refine zL Try.func57 rfl (N := 25) rfl rfl (fun C => ?_)
  refine JD.keep [0, 1] [(0, dP g 0), (1, dN n)] rfl (zh _ _ rfl rfl rfl (zc rfl (za rfl rfl (zb rfl) (zl rfl rfl (zt [.bx g 77 (.agg [.v p, .ov (.slice none 0 0)])] [.sl (.slice none 0 0) 1 5 ([].map dU8)] [] rfl rfl (.cons ArgC.id .nil) zo Try.call67 (copyCheck_c g p (.ov (.slice none 0 0)) hp) (.inl rfl)) ?_))))
  rintro _ _ ⟨_, ⟨rfl, rfl⟩, rfl⟩
  refine OpsD.norm [.bx g 77 (.agg [dP g 0, .ov (.slice none 0 0)]), .sl (.slice none 0 0) 1 5 ([].map dU8)] rfl (zg rfl (zf (zh _ _ rfl rfl rfl (zh _ _ rfl rfl rfl (zc rfl (za rfl rfl (zb rfl) (za rfl rfl (zaa rfl rfl rfl) (zg rfl (zf ?_)))))))))
  refine zu _ _ rfl rfl rfl rfl (fun hc1 => ?_) (fun hc1 => ?_)
  · replace hc1 := of_decide_eq_true hc1
    exfalso; omega
  · replace hc1 := of_decide_eq_false hc1
    refine zz rfl (zf (zh _ _ rfl rfl rfl (JD.keep [0, 1, 4, 5, 6, 7] [(0, dP g 0), (1, dN n), (4, dP g 0), (5, .tup []), (6, dN n), (7, dB (decide (((n : Nat) : Int) < (0 : Int))))] rfl (JD.norm [.bx g 77 (.agg [dP g 0, .ov (.slice none 0 0)]), .sl (.slice none 0 0) 1 5 ([].map dU8)] rfl ?_))))
    refine zai 12 [(9, dP g 0, none), (10, dP g 0, none), (11, dP g 1, none), (12, .ov (.slice none 0 0), none), (13, dI 0, none), (14, dP g 0, none), (15, dP g 0, none), (16, dP g 1, none), (17, .ov (.slice none 0 0), none), (18, dI 0, none), (19, dI 0, none), (20, dN n, none)] [.bx g 77 (.agg [dP g 0, .ov (.slice none 0 0)]), .sl (.slice none 0 0) 1 5 ([].map dU8)] (Hn := [.bx g 77 (.agg [dP g 0, .ov (.slice none 0 0)]), .sl (.slice none 0 0) 1 5 ([].map dU8)]) zaz rfl rfl rfl rfl HSub.rfl' rfl ⟨sa_p rfl rfl rfl (zb rfl), sa_p rfl rfl rfl (zal rfl), sa_p rfl rfl rfl (zA rfl zbi rfl), sa_p rfl rfl rfl (zR rfl (i := 0) rfl Try.isAgg75 rfl), sa_p rfl rfl rfl (p_cap_nil rfl Try.runUnderlying75), sa_p rfl rfl rfl (zb rfl), sa_p rfl rfl rfl (zal rfl), sa_p rfl rfl rfl (zA rfl zbi rfl), sa_p rfl rfl rfl (zR rfl (i := 0) rfl Try.isAgg75 rfl), sa_p rfl rfl rfl (z6 (n := 0) (j := 1) rfl rfl Try.runUnderlying75 rfl), sa_p rfl rfl rfl (zaR (c := (0 : Int)) rfl rfl (zT (by omega) (by omega))), sa_p rfl rfl rfl (zb rfl), trivial⟩ ?_
    refine OpsD.keep [0, 1, 4, 5, 6, 7, 9, 10, 11, 12, 13, 14, 15, 16, 17, 18, 19, 20] [(0, dP g 0), (1, dN n), (4, dP g 0), (5, .tup []), (6, dN n), (7, dB (decide (((n : Nat) : Int) < (0 : Int)))), (9, dP g 0), (10, dP g 0), (11, dP g 1), (12, .ov (.slice none 0 0)), (13, dI 0), (14, dP g 0), (15, dP g 0), (16, dP g 1), (17, .ov (.slice none 0 0)), (18, dI 0), (19, dI 0), (20, dN n)] rfl (za rfl rfl (zaa rfl rfl rfl) (zg rfl (zf (JD.keep [0, 1, 21] [(0, dP g 0), (1, dN n), (21, dB (decide ((0 : Int) < ((n : Nat) : Int))))] rfl ?_))))
    refine zu _ _ rfl rfl rfl rfl (fun hc2 => ?_) (fun hc2 => ?_)
    · replace hc2 := of_decide_eq_true hc2
      refine zc rfl (za rfl rfl (zb rfl) (za rfl rfl (zb rfl) (zl rfl rfl (zt [.bx g 77 (.agg [dP g 0, .ov (.slice none 0 0)]), .sl (.slice none 0 0) 1 5 ([].map dU8)] [] [] rfl rfl (.cons ArgC.id (.cons ArgC.id .nil)) zo Try.call70 (grow0_c g n (by omega)) (.inl rfl)) ?_)))
      rintro _ _ ⟨_, ⟨bv3, rfl, rfl⟩, rfl⟩
      refine OpsD.norm [.bx g 77 (.agg [dP g 0, .ov bv3]), .sl bv3 1 5 ([].map dU8)] rfl (zg rfl ?_)
      exact zb1 Try.results57 .nil rfl (HSub.fst 2 rfl) ⟨bv3, rfl, rfl⟩
    · replace hc2 := of_decide_eq_false hc2
      refine zz rfl ?_
      exact zb1 Try.results57 .nil rfl (HSub.fst 2 rfl) ⟨(.slice none 0 0), rfl, rfl⟩

set_option maxHeartbeats 4000000 in
set_option maxRecDepth 100000 in
theorem Join_c (l : List ByteArray) (sep : ByteArray) (hl : l.length ≤ 1000000) (hs : za9 l ≤ 1000000000) (h0 : 0 < sep.size) (h1 : sep.size ≤ 1000) :
    CD Try.prog 39 [] [.sh 1 (l.map D.s), .s sep] (isR (D.s (zdM sep l))) := by
  refine zL Try.func39 rfl (N := 75) rfl rfl (fun C => ?_)
  refine JD.keep [0, 1] [(0, .sh 1 (l.map D.s)), (1, .s sep)] rfl ?_
  refine JD.bd 0 rfl (fun bd0 => ?_)
  have nl0 := zae bd0
  refine JD.bd 1 rfl (fun bd1 => ?_)
  have sz1 : sep.size ≤ 9223372036854775807 := bd1
  refine zh _ _ rfl rfl rfl (zc rfl (za rfl rfl (ze rfl) (zg rfl (zf (zh _ _ rfl rfl rfl (zh _ _ rfl rfl rfl (zc rfl (za rfl rfl (zb rfl) (za rfl rfl (zar (n := l.length) rfl Try.runUnderlying23 (by simp only [lm, lc, ln])) (zg rfl (zf (zy _ rfl rfl (zh _ _ rfl rfl rfl (zc rfl (za rfl rfl (zY rfl rfl rfl) (za rfl rfl (ze rfl) (zg rfl (zf ?_))))))))))))))))))
  refine zu _ _ rfl rfl rfl rfl (fun hc1 => ?_) (fun hc1 => ?_)
  · replace hc1 := of_decide_eq_true hc1
    refine zh _ _ rfl rfl rfl (zc rfl (za rfl rfl (ze rfl) (zg rfl (zf (zB rfl (zn (zp ?_)))))))
    exact zx Try.results39 (.cons (zM (zs rfl) (((Cv.str (by first | decide | (unfold maxLen; omega)))).trans (Cv.eq (congrArg D.s (by exact joinB_none (by omega)))))) .nil) rfl HSub.none ⟨rfl, rfl⟩
  · replace hc1 := of_decide_eq_false hc1
    refine zh _ _ rfl rfl rfl (zc rfl (za rfl rfl (zY rfl rfl rfl) (za rfl rfl (ze rfl) (zg rfl (zf ?_)))))
    refine zu _ _ rfl rfl rfl rfl (fun hc2 => ?_) (fun hc2 => ?_)
    · replace hc2 := of_decide_eq_true hc2
      refine zh _ _ rfl rfl rfl (zc rfl (za rfl rfl (zb rfl) ?_))
      obtain ⟨x1, hx1⟩ := zV l 0 (by (try simp only [ld]); omega)
      have hsk0 := zdj l 1
      have hsx0 : za9 (l.take 1) = za9 (l.take 0) + x1.size := zb7 hx1
      refine za rfl rfl (zJ (k := 0) rfl rfl Try.runUnderlying23 Try.sizeOf9 (by first | rfl | omega) (zw hx1)) (za rfl rfl (z0 rfl Try.isAgg9 rfl) (za rfl rfl (ze rfl) (zg rfl (zf (JD.keep [0, 1, 4] [(0, .sh 1 (l.map D.s)), (1, .s sep), (4, .s x1)] rfl (zB rfl (zn (zp ?_))))))))
      exact zx Try.results39 (.cons (zM (zs rfl) (Cv.eq (congrArg D.s (by exact joinB_one hx1 (by omega))))) .nil) rfl HSub.none ⟨rfl, rfl⟩
    · replace hc2 := of_decide_eq_false hc2
      refine zz rfl (zD (zf (zh _ _ rfl rfl rfl (zc rfl (za rfl rfl (ze rfl) (zg rfl (zf (zh _ _ rfl rfl rfl (zh _ _ rfl rfl rfl (zc rfl (za rfl rfl (zb rfl) (za rfl rfl (zaF rfl Try.runUnderlying9) (za rfl rfl (zaM rfl rfl rfl) (zg rfl (zf ?_)))))))))))))))
      refine zu _ _ rfl rfl rfl rfl (fun hc3 => ?_) (fun hc3 => ?_)
      · replace hc3 := of_decide_eq_true hc3
        refine zh _ _ rfl rfl rfl (zh _ _ rfl rfl rfl (zc rfl (za rfl rfl (zb rfl) (za rfl rfl (zaF rfl Try.runUnderlying9) (za rfl rfl (zb rfl) (za rfl rfl (zar (n := l.length) rfl Try.runUnderlying23 (by simp only [lm, lc, ln])) (za rfl rfl (zaR (c := ((l.length - 1 : Nat) : Int)) rfl rfl (zT (by omega) (by omega))) ?_)))))))
        obtain ⟨q, hq, hq1, hq2⟩ : ∃ q : Nat, 9223372036854775807 / (l.length - 1) = q ∧ 1001 ≤ q ∧ q ≤ 9223372036854775807 := ⟨_, rfl, (Nat.le_div_iff_mul_le (by omega)).2 (by omega), Nat.div_le_self _ _⟩
        refine za rfl rfl (p_quo (c := ((q : Nat) : Int)) rfl rfl (by omega) (zT (by rw [Int.tdiv_eq_ediv_of_nonneg (by omega), ← hq]; first | exact Int.natCast_ediv _ _ | exact (Int.natCast_ediv _ _).symm) (by omega))) (za rfl rfl (zac rfl rfl rfl) (zg rfl (zf (JD.keep [0, 1, 4, 5, 29] [(0, .sh 1 (l.map D.s)), (1, .s sep), (4, .v (.string ByteArray.empty)), (5, dI 0), (29, dB (decide (((q : Nat) : Int) ≤ ((sep.size : Nat) : Int))))] rfl ?_))))
        refine zu _ _ rfl rfl rfl rfl (fun hc4 => ?_) (fun hc4 => ?_)
        · replace hc4 := of_decide_eq_true hc4
          exfalso; omega
        · replace hc4 := of_decide_eq_false hc4
          refine zz rfl (zf (zc rfl (za rfl rfl (zb rfl) (za rfl rfl (zb rfl) (za rfl rfl (zaF rfl Try.runUnderlying9) (za rfl rfl (zb rfl) (za rfl rfl (zar (n := l.length) rfl Try.runUnderlying23 (by simp only [lm, lc, ln])) (za rfl rfl (zaR (c := ((l.length - 1 : Nat) : Int)) rfl rfl (zT (by omega) (by omega))) ?_))))))))
          obtain ⟨m, hm, hm1⟩ : ∃ m : Nat, sep.size * (l.length - 1) = m ∧ m ≤ 1000000000 := ⟨_, rfl, Nat.le_trans (Nat.mul_le_mul h1 (show (l.length - 1) ≤ 1000000 by omega)) (by decide)⟩
          refine za rfl rfl (zea (c := ((m : Nat) : Int)) rfl rfl (zT (by rw [← hm]; first | exact Int.natCast_mul _ _ | exact (Int.natCast_mul _ _).symm) (by omega))) (za rfl rfl (z8 (c := ((0 + m : Nat) : Int)) rfl rfl (zT (by omega) (by omega))) (za rfl rfl (ze rfl) (zg rfl (zf (JD.keep [0, 1, 4, 5] [(0, .sh 1 (l.map D.s)), (1, .s sep), (4, .v (.string ByteArray.empty)), (5, dN (0 + m))] rfl (zh _ _ rfl rfl rfl (zh _ _ rfl rfl rfl (zc rfl (za rfl rfl (zb rfl) (za rfl rfl (zar (n := l.length) rfl Try.runUnderlying23 (by simp only [lm, lc, ln])) (za rfl rfl (zb rfl) (zg rfl (zf (zy _ rfl rfl ?_))))))))))))))
          refine z7 (fun (g : Nat × Nat) => [(0, .sh 1 (l.map D.s)), (1, .s sep), (4, .v (.string ByteArray.empty)), (39, .sh 1 (l.map D.s)), (40, dN l.length), (41, dN g.1), (5, dN g.2)]) (fun (g : Nat × Nat) => []) (fun (g : Nat × Nat) => (g.2 ≤ 1000000000 + za9 (l.take g.1))) (fun (g : Nat × Nat) => l.length - g.1) _ (0, 0 + m) rfl rfl ⟨sk rfl, sk rfl, sk rfl, sk rfl, sk rfl, sk rfl, sk rfl, trivial⟩ HSub.rfl' (by show _ ≤ _ + za9 (l.take 0); omega) ?_
          rintro ⟨k, n⟩ hn
          replace hn : n ≤ 1000000000 + za9 (l.take k) := hn
          refine JD.keep [0, 1, 4, 39, 40, 41, 5] [(0, .sh 1 (l.map D.s)), (1, .s sep), (4, .v (.string ByteArray.empty)), (39, .sh 1 (l.map D.s)), (40, dN l.length), (41, dN k), (5, dN n)] rfl (JD.norm [] rfl ?_)
          have hskk := zdj l k
          refine zh _ _ rfl rfl rfl (zc rfl (za rfl rfl (zaa rfl rfl rfl) (zg rfl (zf (zh _ _ rfl rfl rfl ?_)))))
          refine zu _ _ rfl rfl rfl rfl (fun hc5 => ?_) (fun hc5 => ?_)
          · replace hc5 := of_decide_eq_true hc5
            refine zz rfl (zf (zh _ _ rfl rfl rfl (zy _ rfl rfl (zh _ _ rfl rfl rfl (zc rfl ?_)))))
            obtain ⟨x2, hx2⟩ := zV l k (by (try simp only [ld]); omega)
            have hsk := zdj l (k + 1)
            have hsx := zb7 hx2
            refine za rfl rfl (zJ (k := k) rfl rfl Try.runUnderlying23 Try.sizeOf9 (by first | rfl | omega) (zw hx2)) (za rfl rfl (z0 rfl Try.isAgg9 rfl) (za rfl rfl (ze rfl) (zg rfl (zf (zh _ _ rfl rfl rfl (zh _ _ rfl rfl rfl (zc rfl (za rfl rfl (zb rfl) (za rfl rfl (zaF rfl Try.runUnderlying9) (za rfl rfl (zb rfl) (za rfl rfl (zaR (c := ((9223372036854775807 - n : Nat) : Int)) rfl rfl (zT (by omega) (by omega))) (za rfl rfl (zaM rfl rfl rfl) (zg rfl (zf ?_))))))))))))))
            refine zu _ _ rfl rfl rfl rfl (fun hc6 => ?_) (fun hc6 => ?_)
            · replace hc6 := of_decide_eq_true hc6
              exfalso; omega
            · replace hc6 := of_decide_eq_false hc6
              refine zz rfl (zf (zc rfl (za rfl rfl (zb rfl) (za rfl rfl (zb rfl) (za rfl rfl (zaF rfl Try.runUnderlying9) (za rfl rfl (z8 (c := ((n + x2.size : Nat) : Int)) rfl rfl (zT (by omega) (by omega))) (za rfl rfl (ze rfl) (zg rfl (zD (zf (zc rfl (za rfl rfl (z8 (c := ((k + 1 : Nat) : Int)) rfl rfl (zT (by omega) (by omega))) (za rfl rfl (zb rfl) (zg rfl ?_))))))))))))))
              exact zS (k + 1, n + x2.size) ⟨sk rfl, sk rfl, sk rfl, sk rfl, sk rfl, sk rfl, sk rfl, trivial⟩ HSub.rfl' (by have := zb7 hx2; show _ ≤ 1000000000 + za9 (l.take (k + 1)); omega) (by omega)
          · replace hc5 := of_decide_eq_false hc5
            refine z3 rfl (zK (zI (zE (zf (zh _ _ rfl rfl rfl (zc rfl (zl rfl rfl (zaN (zv := (.agg #[(.pointer none), (.slice none 0 0)])) (X := .agg [.v (.pointer none), .ov (.slice none 0 0)]) Try.zeroValue77 ⟨rfl, rfl, trivial⟩ ((Cv.vagg (by decide)).trans (Cv.agg (.cons Cv.rfl' (.cons (Cv.ov rfl) .nil))))) ?_)))))))
            rintro _ _ ⟨g7, rfl, rfl⟩
            refine OpsD.subH (HSub.nil 1 5) (OpsD.norm [.sl (.slice none 0 0) 1 5 ([].map dU8), .bx g7 77 (.agg [.v (.pointer none), .ov (.slice none 0 0)])] rfl (zg rfl (zf (zh _ _ rfl rfl rfl (zc rfl (za rfl rfl (zb rfl) (OpsD.subH (HSub.perm (zO (i := 1) rfl)) (OpsD.norm [.bx g7 77 (.agg [.v (.pointer none), .ov (.slice none 0 0)]), .sl (.slice none 0 0) 1 5 ([].map dU8)] rfl (zl rfl rfl (zt [.bx g7 77 (.agg [.v (.pointer none), .ov (.slice none 0 0)]), .sl (.slice none 0 0) 1 5 ([].map dU8)] [] [] rfl rfl (.cons ArgC.id (.cons ArgC.id .nil)) zo Try.call57 (Grow0_c g7 n (.pointer none) (.inl rfl) (by omega)) (.inl rfl)) ?_)))))))))
            rintro _ _ ⟨_, ⟨bv8, rfl, rfl⟩, rfl⟩
            refine OpsD.norm [.bx g7 77 (.agg [dP g7 0, .ov bv8]), .sl bv8 1 5 ([].map dU8)] rfl (zg rfl (zf (zh _ _ rfl rfl rfl (zc rfl (za rfl rfl (zb rfl) ?_)))))
            obtain ⟨x1, hx1⟩ := zV l 0 (by (try simp only [ld]); omega)
            have hsk0 := zdj l 1
            have hsx0 : za9 (l.take 1) = za9 (l.take 0) + x1.size := zb7 hx1
            refine za rfl rfl (zJ (k := 0) rfl rfl Try.runUnderlying23 Try.sizeOf9 (by first | rfl | omega) (zw hx1)) (za rfl rfl (z0 rfl Try.isAgg9 rfl) (zl rfl rfl (zt [.bx g7 77 (.agg [dP g7 0, .ov bv8]), .sl bv8 1 5 ([].map dU8)] [] [] rfl rfl (.cons ArgC.id (.cons ArgC.id .nil)) zo Try.call54 (zbM g7 (.pointer (some ⟨g7, 0, none⟩)) bv8 [] x1 (.inr rfl) (by (try simp only [la, lc, ln, zbR]); omega) (by first | decide | omega)) (.inl rfl)) ?_))
            rintro _ _ ⟨_, ⟨bv9, rfl, rfl⟩, rfl⟩
            refine OpsD.norm [.bx g7 77 (.agg [dP g7 0, .ov bv9]), .sl bv9 1 5 (([] ++ x1.data.toList).map dU8)] rfl (zg rfl (zf (JD.keep [0, 1, 4, 8] [(0, .sh 1 (l.map D.s)), (1, .s sep), (4, .v (.string ByteArray.empty)), (8, dP g7 0)] rfl (zh _ _ rfl rfl rfl (zh _ _ rfl rfl rfl (zc rfl (za rfl rfl (zb rfl) (za rfl rfl ((p_slice (a := 1) (b := l.length) rfl rfl rfl (by first | rfl | (show _ = _; omega)) (by first | rfl | exact List.length_map _) Try.runUnderlying23 Try.sizeOf9 (by omega) (by simp only [lm]; omega)).cv (Cv.eq (by rw [← List.map_take, ← List.map_drop, List.take_length]))) (za rfl rfl (zar (n := (l.drop 1).length) rfl Try.runUnderlying23 (by simp only [lm, lc, ln])) (za rfl rfl (zb rfl) (zg rfl (zf (zy _ rfl rfl ?_)))))))))))))
            refine z7 (fun (g : Nat × Value × List UInt8) => [(1, .s sep), (4, .v (.string ByteArray.empty)), (8, dP g7 0), (63, .sh 1 ((l.drop 1).map D.s)), (64, dN ((l.drop 1).length)), (65, dN g.1)]) (fun (g : Nat × Value × List UInt8) => [.bx g7 77 (.agg [dP g7 0, .ov g.2.1]), .sl g.2.1 1 5 (g.2.2.map dU8)]) (fun (g : Nat × Value × List UInt8) => (g.2.2 = zbJ sep (l.take (g.1 + 1))) ∧ (g.2.2.length ≤ (g.1 + 1) * 1000 + za9 (l.take (g.1 + 1))) ∧ (g.1 = 0 ∨ g.2.2 ≠ [])) (fun (g : Nat × Value × List UInt8) => l.length - g.1) _ (0, bv9, ([] ++ x1.data.toList)) rfl rfl ⟨sk rfl, sk rfl, sk rfl, sk rfl, sk rfl, sk rfl, trivial⟩ HSub.rfl' ⟨by rw [joinL_one hx1]; rfl, by have : za9 (l.take 1) = za9 (l.take 0) + _ := zb7 hx1; show _ ≤ (0 + 1) * 1000 + za9 (l.take 1); (try simp only [la, ln, zbR]); omega, .inl rfl⟩ ?_
            rintro ⟨j, ov, bs⟩ ⟨hbs, hlb, hne⟩
            replace hbs : bs = zbJ sep (l.take (j + 1)) := hbs
            replace hlb : bs.length ≤ (j + 1) * 1000 + za9 (l.take (j + 1)) := hlb
            replace hne : j = 0 ∨ bs ≠ [] := hne
            refine JD.keep [1, 4, 8, 63, 64, 65] [(1, .s sep), (4, .v (.string ByteArray.empty)), (8, dP g7 0), (63, .sh 1 ((l.drop 1).map D.s)), (64, dN ((l.drop 1).length)), (65, dN j)] rfl (JD.norm [.bx g7 77 (.agg [dP g7 0, .ov ov]), .sl ov 1 5 (bs.map dU8)] rfl ?_)
            have hld : (l.drop 1).length = l.length - 1 := List.length_drop
            refine zh _ _ rfl rfl rfl (zc rfl (za rfl rfl (zaa rfl rfl rfl) (zg rfl (zf (zh _ _ rfl rfl rfl ?_)))))
            refine zu _ _ rfl rfl rfl rfl (fun hc10 => ?_) (fun hc10 => ?_)
            · replace hc10 := of_decide_eq_true hc10
              refine zz rfl (zf (zh _ _ rfl rfl rfl (zy _ rfl rfl (zh _ _ rfl rfl rfl (zc rfl ?_)))))
              obtain ⟨x3, hx3⟩ := zV (l.drop 1) j (by (try simp only [ld]); omega)
              have hsj := zdj l (j + 2)
              have hsx : za9 (l.take (j + 2)) = za9 (l.take (j + 1)) + x3.size := zb7 (show l[j + 1]? = some x3 by have hx := hx3; rw [List.getElem?_drop, Nat.add_comm 1 j] at hx; exact hx)
              refine za rfl rfl (zJ (k := j) rfl rfl Try.runUnderlying23 Try.sizeOf9 (by first | rfl | omega) (zw hx3)) (za rfl rfl (z0 rfl Try.isAgg9 rfl) (za rfl rfl (ze rfl) (zg rfl (zf (zh _ _ rfl rfl rfl (zc rfl (za rfl rfl (zb rfl) (zl rfl rfl (zt [.bx g7 77 (.agg [dP g7 0, .ov ov]), .sl ov 1 5 (bs.map dU8)] [] [] rfl rfl (.cons ArgC.id (.cons ArgC.id .nil)) zo Try.call54 (zbM g7 (.pointer (some ⟨g7, 0, none⟩)) ov bs sep (.inr rfl) (by (try simp only [la, lc, ln, zbR]); omega) (by first | decide | omega)) (.inl rfl)) ?_))))))))
              rintro _ _ ⟨_, ⟨bv11, rfl, rfl⟩, rfl⟩
              refine OpsD.norm [.bx g7 77 (.agg [dP g7 0, .ov bv11]), .sl bv11 1 5 ((bs ++ sep.data.toList).map dU8)] rfl (zg rfl (zf (zc rfl (za rfl rfl (zb rfl) (zl rfl rfl (zt [.bx g7 77 (.agg [dP g7 0, .ov bv11]), .sl bv11 1 5 ((bs ++ sep.data.toList).map dU8)] [] [] rfl rfl (.cons ArgC.id (.cons ArgC.id .nil)) zo Try.call54 (zbM g7 (.pointer (some ⟨g7, 0, none⟩)) bv11 (bs ++ sep.data.toList) x3 (.inr rfl) (by (try simp only [la, lc, ln, zbR]); omega) (by first | decide | omega)) (.inl rfl)) ?_)))))
              rintro _ _ ⟨_, ⟨bv12, rfl, rfl⟩, rfl⟩
              refine OpsD.norm [.bx g7 77 (.agg [dP g7 0, .ov bv12]), .sl bv12 1 5 (((bs ++ sep.data.toList) ++ x3.data.toList).map dU8)] rfl (zg rfl (zD (zf (zc rfl (za rfl rfl (z8 (c := ((j + 1 : Nat) : Int)) rfl rfl (zT (by omega) (by omega))) (za rfl rfl (zb rfl) (zg rfl ?_)))))))
              exact zS (j + 1, bv12, ((bs ++ sep.data.toList) ++ x3.data.toList)) ⟨sk rfl, sk rfl, sk rfl, sk rfl, sk rfl, sk rfl, trivial⟩ HSub.rfl' ⟨by have hx := hx3; rw [List.getElem?_drop, Nat.add_comm 1 j] at hx; rw [joinL_take hx, hbs], by have hx := hx3; rw [List.getElem?_drop, Nat.add_comm 1 j] at hx; show _ ≤ (j + 1 + 1) * 1000 + za9 (l.take (j + 2)); (try simp only [la, zbR]); omega, .inr (by intro e; have := congrArg List.length e; simp only [la, zbR, ln] at this; omega)⟩ (by omega)
            · replace hc10 := of_decide_eq_false hc10
              refine z3 rfl (zK (zI (zE (zf (zh _ _ rfl rfl rfl (zc rfl (zl rfl rfl (zt [.bx g7 77 (.agg [dP g7 0, .ov ov]), .sl ov 1 5 (bs.map dU8)] [] [] rfl rfl (.cons ArgC.id .nil) zo Try.call56 (String_c g7 (.pointer (some ⟨g7, 0, none⟩)) ov bs (hne.resolve_left (by omega))) (.inl rfl)) ?_)))))))
              rintro _ _ ⟨_, ⟨rfl, rfl⟩, rfl⟩
              refine OpsD.norm [] rfl (za rfl rfl (ze rfl) (zg rfl (zf (zB rfl ?_))))
              exact zx Try.results39 (.cons (zM (zs rfl) (Cv.eq (congrArg D.s (by exact joinB_all hbs (by omega))))) .nil) rfl HSub.none ⟨rfl, rfl⟩
      · replace hc3 := of_decide_eq_false hc3
        exfalso; omega
end Lp
