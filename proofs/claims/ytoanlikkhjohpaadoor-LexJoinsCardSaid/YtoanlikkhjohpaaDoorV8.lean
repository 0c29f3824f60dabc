/- Walks, printed by a program of mine. -/
import Derived.Test.YtoanlikkhjohpaaDoorDJ
set_option linter.unusedSimpArgs false
set_option linter.unusedVariables false
namespace Lp
open Go Go.RowKit Go.Proofs

namespace HdYtoanlikkhjohpaaDoorV8
theorem cv_21_74 {a : Int} (h : 0 ≤ a ∧ a ≤ 4294967295) : ∀ w, (convert 21 74 (.int .i32 a)).run Tryd.prog w = .ok (.int .u32 a) w := fun w => by
  have e : IntKind.u32.wrap a = a := by simp [IntKind.wrap, IntKind.bits, IntKind.signed]; omega
  simp [convert, run_underlying (show Tryd.prog.underlying 21 = some _ by kernel_rfl), run_underlying (show Tryd.prog.underlying 74 = some _ by kernel_rfl), Conv.intToInt, e]
theorem zaA (b o : Nat) : ∀ w, (Instr.fieldAt 51 (.pointer (some ⟨b, o, none⟩)) 1).run Tryd.prog w = .ok (.pointer (some ⟨b, o + 1, none⟩)) w := fun _ => by kernel_rfl
theorem zbM : ∃ i, Tryd.prog.info? 5 = some i ∧ i.zero = some (.int .u8 0) ∧ i.size = 1 ∧ i.bytes = 1 := zcC (by kernel_rfl)
theorem zbh : Tryd.prog.underlying 39 = some (.slice 5) := by kernel_rfl
end HdYtoanlikkhjohpaaDoorV8
open HdYtoanlikkhjohpaaDoorV8

theorem zao (a : Nat) : ∀ w, (convert 21 5 (.int .i32 (a : Int))).run Tryd.prog w = .ok (.int .u8 ((a % 256 : Nat) : Int)) w := fun w => by
  have e : IntKind.u8.wrap (a : Int) = ((a % 256 : Nat) : Int) := by simp [IntKind.wrap, IntKind.bits, IntKind.signed]
  simp [convert, run_underlying (show Tryd.prog.underlying 21 = some _ by kernel_rfl), run_underlying (show Tryd.prog.underlying 5 = some _ by kernel_rfl), Conv.intToInt, e]

set_option maxHeartbeats 4000000 in
set_option maxRecDepth 100000 in
theorem appNA_c (v : Value) (bs : List UInt8) (x : Nat) (h1 : 127 < x) (h2 : x < 2147483648) (hl : bs.length ≤ 1000000000000) :
    CD Tryd.prog 50 [.sl v 1 5 (bs.map dU8)] [.ov v, .v (.int .i32 ((x : Nat) : Int))] (fun r H' => ∃ v', r = .ov v' ∧ H' = [.sl v' 1 5 ((bs ++ encR x).map dU8)]) := by
  refine zC Tryd.func50 rfl (N := 78) rfl rfl (fun C => ?_)
  refine JD.keep [0, 1] [(0, .ov v), (1, .v (.int .i32 ((x : Nat) : Int)))] rfl (zf _ _ rfl rfl rfl (zb rfl (za rfl rfl (zd rfl) (zg rfl (ze (zf _ _ rfl rfl rfl (zb rfl (za rfl rfl (zc rfl) (za rfl rfl (zaL rfl (c := ((x : Nat) : Int)) (cv_21_74 (by omega))) (za rfl rfl (zd rfl) (zg rfl (ze (zH _ rfl rfl (zf _ _ rfl rfl rfl (zb rfl (za rfl rfl (zc rfl) (za rfl rfl (zbm rfl rfl rfl) (za rfl rfl (zd rfl) (zg rfl (ze ?_))))))))))))))))))))
  refine zw _ _ rfl rfl rfl rfl (fun hc1 => ?_) (fun hc1 => ?_)
  · replace hc1 := of_decide_eq_true hc1
    refine zf _ _ rfl rfl rfl (zb rfl (za rfl rfl (zc rfl) (za rfl rfl (zc rfl) (za rfl rfl (zcb (a := x) (n := 6) (m := 64) rfl rfl (by decide) (by decide)) (za rfl rfl (zaL rfl (c := (((x / 64) % 256 : Nat) : Int)) (zao _)) (za rfl rfl (zbD (a := 192) (b := (x / 64) % 256) rfl rfl (by decide) (by omega) (or192 _ (by omega))) (za rfl rfl (zc rfl) (za rfl rfl (zaL rfl (c := ((x % 256 : Nat) : Int)) (zao _)) (za rfl rfl (zbA (a := x % 256) (b := 63) rfl rfl (by omega) (by decide) (zcs _)) (za rfl rfl (zbD (a := 128) (b := (x % 256) % 64) rfl rfl (by decide) (by omega) (zcn _ (by omega))) (zi rfl rfl (zP [.tmp 18, .tmp 22] rfl rfl (.cons (CellD.v rfl) (.cons (CellD.v rfl) .nil)) rfl Tryd.runUnderlying39 Tryd.sizeOf5 Tryd.zeroValue5 rfl rfl rfl rfl) ?_)))))))))))
    rintro _ _ ⟨g2, rfl, rfl⟩
    refine OpsD.subH (HSub.turn (h' := .sl (vS g2 2 2) 1 5 ([(UInt8.ofNat (192 + ((x / 64) % 256))), (UInt8.ofNat (128 + ((x % 256) % 64)))].map dU8)) rfl (Hp.cvs_sl (.cons (Cv.eq (zbw rfl (by omega))) (.cons (Cv.eq (zbw rfl (by omega))) .nil)))) (zi rfl rfl (zad (f := dU8) (l := bs) (l' := [(UInt8.ofNat (192 + ((x / 64) % 256))), (UInt8.ofNat (128 + ((x % 256) % 64)))]) (i := 1) rfl rfl rfl (SrcD.own (j := 0) rfl rfl) zbh zbM rfl rfl (by unfold maxLen; (try simp only [la, lc, ln, lm, lt', ld, ls, lr]); omega) (by (try simp only [la, lc, ln, lm, lt', ld, ls, lr]); omega)) ?_)
    rintro _ _ ⟨v3, rfl, rfl⟩
    refine OpsD.norm [.sl (vS g2 2 2) 1 5 ([(UInt8.ofNat (192 + ((x / 64) % 256))), (UInt8.ofNat (128 + ((x % 256) % 64)))].map dU8), .sl v3 1 5 ((bs ++ [(UInt8.ofNat (192 + ((x / 64) % 256))), (UInt8.ofNat (128 + ((x % 256) % 64)))]).map dU8)] rfl (za rfl rfl (zd rfl) (zg rfl (ze (JD.keep [4] [(4, .ov v3)] rfl (zx rfl (zn (PD.subH (HSub.perm (zl (i := 1) rfl)) (PD.norm [.sl v3 1 5 ((bs ++ [(UInt8.ofNat (192 + ((x / 64) % 256))), (UInt8.ofNat (128 + ((x % 256) % 64)))]).map dU8), .sl (vS g2 2 2) 1 5 ([(UInt8.ofNat (192 + ((x / 64) % 256))), (UInt8.ofNat (128 + ((x % 256) % 64)))].map dU8)] rfl (PD.norm [.sl v3 1 5 ((bs ++ encR x).map dU8), .sl (vS g2 2 2) 1 5 ([(UInt8.ofNat (192 + ((x / 64) % 256))), (UInt8.ofNat (128 + ((x % 256) % 64)))].map dU8)] (by first | (exfalso; omega) | skip; unfold encR; first | rw [if_neg (by omega), if_pos (by omega)] | rw [if_neg (by omega), if_neg (by omega), if_pos (by omega)] | rw [if_neg (by omega), if_neg (by omega), if_neg (by omega), if_pos (by omega)] | rw [if_neg (by omega), if_neg (by omega), if_neg (by omega), if_neg (by omega)]) ?_)))))))))
    exact zp Tryd.results50 (.cons (zq rfl) .nil) rfl (HSub.fst 1 rfl) ⟨v3, rfl, rfl⟩
  · replace hc1 := of_decide_eq_false hc1
    refine zf _ _ rfl rfl rfl (zf _ _ rfl rfl rfl (zb rfl (za rfl rfl (zc rfl) (za rfl rfl (zbL rfl rfl rfl) (za rfl rfl (zd rfl) (zg rfl (ze ?_)))))))
    refine zw _ _ rfl rfl rfl rfl (fun hc4 => ?_) (fun hc4 => ?_)
    · replace hc4 := of_decide_eq_true hc4
      refine zD rfl (ze ?_)
      refine zw _ _ rfl rfl rfl rfl (fun hc5 => ?_) (fun hc5 => ?_)
      · replace hc5 := of_decide_eq_true hc5
        refine zf _ _ rfl rfl rfl (zb rfl (za rfl rfl (zc rfl) (za rfl rfl (zc rfl) (za rfl rfl (zcb (a := x) (n := 12) (m := 4096) rfl rfl (by decide) (by decide)) (za rfl rfl (zaL rfl (c := (((x / 4096) % 256 : Nat) : Int)) (zao _)) (za rfl rfl (zbD (a := 224) (b := (x / 4096) % 256) rfl rfl (by decide) (by omega) (or224 _ (by omega))) (za rfl rfl (zc rfl) (za rfl rfl (zcb (a := x) (n := 6) (m := 64) rfl rfl (by decide) (by decide)) (za rfl rfl (zaL rfl (c := (((x / 64) % 256 : Nat) : Int)) (zao _)) (za rfl rfl (zbA (a := (x / 64) % 256) (b := 63) rfl rfl (by omega) (by decide) (zcs _)) (za rfl rfl (zbD (a := 128) (b := ((x / 64) % 256) % 64) rfl rfl (by decide) (by omega) (zcn _ (by omega))) (za rfl rfl (zc rfl) (za rfl rfl (zaL rfl (c := ((x % 256 : Nat) : Int)) (zao _)) (za rfl rfl (zbA (a := x % 256) (b := 63) rfl rfl (by omega) (by decide) (zcs _)) (za rfl rfl (zbD (a := 128) (b := (x % 256) % 64) rfl rfl (by decide) (by omega) (zcn _ (by omega))) (zi rfl rfl (zP [.tmp 38, .tmp 43, .tmp 47] rfl rfl (.cons (CellD.v rfl) (.cons (CellD.v rfl) (.cons (CellD.v rfl) .nil))) rfl Tryd.runUnderlying39 Tryd.sizeOf5 Tryd.zeroValue5 rfl rfl rfl rfl) ?_))))))))))))))))
        rintro _ _ ⟨g6, rfl, rfl⟩
        refine OpsD.subH (HSub.turn (h' := .sl (vS g6 3 3) 1 5 ([(UInt8.ofNat (224 + ((x / 4096) % 256))), (UInt8.ofNat (128 + (((x / 64) % 256) % 64))), (UInt8.ofNat (128 + ((x % 256) % 64)))].map dU8)) rfl (Hp.cvs_sl (.cons (Cv.eq (zbw rfl (by omega))) (.cons (Cv.eq (zbw rfl (by omega))) (.cons (Cv.eq (zbw rfl (by omega))) .nil))))) (zi rfl rfl (zad (f := dU8) (l := bs) (l' := [(UInt8.ofNat (224 + ((x / 4096) % 256))), (UInt8.ofNat (128 + (((x / 64) % 256) % 64))), (UInt8.ofNat (128 + ((x % 256) % 64)))]) (i := 1) rfl rfl rfl (SrcD.own (j := 0) rfl rfl) zbh zbM rfl rfl (by unfold maxLen; (try simp only [la, lc, ln, lm, lt', ld, ls, lr]); omega) (by (try simp only [la, lc, ln, lm, lt', ld, ls, lr]); omega)) ?_)
        rintro _ _ ⟨v7, rfl, rfl⟩
        refine OpsD.norm [.sl (vS g6 3 3) 1 5 ([(UInt8.ofNat (224 + ((x / 4096) % 256))), (UInt8.ofNat (128 + (((x / 64) % 256) % 64))), (UInt8.ofNat (128 + ((x % 256) % 64)))].map dU8), .sl v7 1 5 ((bs ++ [(UInt8.ofNat (224 + ((x / 4096) % 256))), (UInt8.ofNat (128 + (((x / 64) % 256) % 64))), (UInt8.ofNat (128 + ((x % 256) % 64)))]).map dU8)] rfl (za rfl rfl (zd rfl) (zg rfl (ze (JD.keep [4] [(4, .ov v7)] rfl (zx rfl (zn (PD.subH (HSub.perm (zl (i := 1) rfl)) (PD.norm [.sl v7 1 5 ((bs ++ [(UInt8.ofNat (224 + ((x / 4096) % 256))), (UInt8.ofNat (128 + (((x / 64) % 256) % 64))), (UInt8.ofNat (128 + ((x % 256) % 64)))]).map dU8), .sl (vS g6 3 3) 1 5 ([(UInt8.ofNat (224 + ((x / 4096) % 256))), (UInt8.ofNat (128 + (((x / 64) % 256) % 64))), (UInt8.ofNat (128 + ((x % 256) % 64)))].map dU8)] rfl ?_))))))))
        refine PD.norm [.sl v7 1 5 ((bs ++ encR x).map dU8), .sl (vS g6 3 3) 1 5 ([(UInt8.ofNat (224 + ((x / 4096) % 256))), (UInt8.ofNat (128 + (((x / 64) % 256) % 64))), (UInt8.ofNat (128 + ((x % 256) % 64)))].map dU8)] (by first | (exfalso; omega) | skip; unfold encR; first | rw [if_neg (by omega), if_pos (by omega)] | rw [if_neg (by omega), if_neg (by omega), if_pos (by omega)] | rw [if_neg (by omega), if_neg (by omega), if_neg (by omega), if_pos (by omega)] | rw [if_neg (by omega), if_neg (by omega), if_neg (by omega), if_neg (by omega)]) ?_
        exact zp Tryd.results50 (.cons (zq rfl) .nil) rfl (HSub.fst 1 rfl) ⟨v7, rfl, rfl⟩
      · replace hc5 := of_decide_eq_false hc5
        refine zf _ _ rfl rfl rfl (JD.keep [0, 1, 4, 5] [(0, .ov v), (1, .v (.int .i32 ((x : Nat) : Int))), (4, dZ), (5, .v (.int .u32 ((x : Nat) : Int)))] rfl ?_)
        refine zaF 50 ((decide ((65535 : Int) < ((x : Nat) : Int)) && decide (((x : Nat) : Int) ≤ (1114111 : Int)))) [.sl v 1 5 (bs.map dU8)] (fun _ hQ8 => ?_) ?_
        · skip
          by_cases hg9 : (65535 : Int) < ((x : Nat) : Int)
          · skip
            refine zb rfl (za rfl rfl (zc rfl) (za rfl rfl (zbU rfl rfl (decide_eq_true hg9)) (za rfl rfl (zc rfl) (zh rfl rfl rfl rfl rfl (zc rfl) (zh rfl rfl rfl rfl rfl (zbm rfl rfl rfl) (za rfl rfl (zt rfl rfl) (za rfl rfl (zd rfl) (zg rfl ?_))))))))
            exact PD.sub ((50, dB (decide ((65535 : Int) < ((x : Nat) : Int)) && decide (((x : Nat) : Int) ≤ (1114111 : Int)))) :: [(0, .ov v), (1, .v (.int .i32 ((x : Nat) : Int))), (4, dZ), (5, .v (.int .u32 ((x : Nat) : Int)))]) ⟨sc rfl (Cv.eq (congrArg (fun b => D.v (.bool b)) (by first | (simp [hc1, hc5, hg9]; done) | (simp_all; done)))), sk rfl, sk rfl, sk rfl, sk rfl, trivial⟩ hQ8
          · skip
            refine zb rfl (za rfl rfl (zc rfl) (za rfl rfl (zbU rfl rfl (decide_eq_false hg9)) (za rfl rfl (zc rfl) (zj rfl rfl rfl rfl rfl (by decide) (zj rfl rfl rfl rfl rfl (by decide) (za rfl rfl (zo rfl rfl) (za rfl rfl (zd rfl) (zg rfl ?_))))))))
            exact PD.sub ((50, dB (decide ((65535 : Int) < ((x : Nat) : Int)) && decide (((x : Nat) : Int) ≤ (1114111 : Int)))) :: [(0, .ov v), (1, .v (.int .i32 ((x : Nat) : Int))), (4, dZ), (5, .v (.int .u32 ((x : Nat) : Int)))]) ⟨sc rfl (Cv.eq (congrArg (fun b => D.v (.bool b)) (by first | (simp [hc1, hc5, hg9]; done) | (simp_all; done)))), sk rfl, sk rfl, sk rfl, sk rfl, trivial⟩ hQ8
        · skip
          refine ze ?_
          refine zw _ _ rfl rfl rfl rfl (fun hc10 => ?_) (fun hc10 => ?_)
          · simp only [Bool.and_eq_true, Bool.or_eq_true, Bool.not_eq_true', Bool.not_eq_false', Bool.and_eq_false_iff, Bool.or_eq_false_iff, decide_eq_true_eq, decide_eq_false_iff_not, Decidable.not_not, ne_eq] at hc10
            refine zf _ _ rfl rfl rfl (zb rfl (za rfl rfl (zc rfl) (za rfl rfl (zc rfl) (za rfl rfl (zcb (a := x) (n := 18) (m := 262144) rfl rfl (by decide) (by decide)) (za rfl rfl (zaL rfl (c := (((x / 262144) % 256 : Nat) : Int)) (zao _)) (za rfl rfl (zbD (a := 240) (b := (x / 262144) % 256) rfl rfl (by decide) (by omega) (or240 _ (by omega))) (za rfl rfl (zc rfl) (za rfl rfl (zcb (a := x) (n := 12) (m := 4096) rfl rfl (by decide) (by decide)) (za rfl rfl (zaL rfl (c := (((x / 4096) % 256 : Nat) : Int)) (zao _)) (za rfl rfl (zbA (a := (x / 4096) % 256) (b := 63) rfl rfl (by omega) (by decide) (zcs _)) (za rfl rfl (zbD (a := 128) (b := ((x / 4096) % 256) % 64) rfl rfl (by decide) (by omega) (zcn _ (by omega))) (za rfl rfl (zc rfl) (za rfl rfl (zcb (a := x) (n := 6) (m := 64) rfl rfl (by decide) (by decide)) (za rfl rfl (zaL rfl (c := (((x / 64) % 256 : Nat) : Int)) (zao _)) (za rfl rfl (zbA (a := (x / 64) % 256) (b := 63) rfl rfl (by omega) (by decide) (zcs _)) (za rfl rfl (zbD (a := 128) (b := ((x / 64) % 256) % 64) rfl rfl (by decide) (by omega) (zcn _ (by omega))) (za rfl rfl (zc rfl) (za rfl rfl (zaL rfl (c := ((x % 256 : Nat) : Int)) (zao _)) ?_))))))))))))))))))
            refine za rfl rfl (zbA (a := x % 256) (b := 63) rfl rfl (by omega) (by decide) (zcs _)) (za rfl rfl (zbD (a := 128) (b := (x % 256) % 64) rfl rfl (by decide) (by omega) (zcn _ (by omega))) (zi rfl rfl (zP [.tmp 61, .tmp 66, .tmp 71, .tmp 75] rfl rfl (.cons (CellD.v rfl) (.cons (CellD.v rfl) (.cons (CellD.v rfl) (.cons (CellD.v rfl) .nil)))) rfl Tryd.runUnderlying39 Tryd.sizeOf5 Tryd.zeroValue5 rfl rfl rfl rfl) ?_))
            rintro _ _ ⟨g11, rfl, rfl⟩
            refine OpsD.subH (HSub.turn (h' := .sl (vS g11 4 4) 1 5 ([(UInt8.ofNat (240 + ((x / 262144) % 256))), (UInt8.ofNat (128 + (((x / 4096) % 256) % 64))), (UInt8.ofNat (128 + (((x / 64) % 256) % 64))), (UInt8.ofNat (128 + ((x % 256) % 64)))].map dU8)) rfl (Hp.cvs_sl (.cons (Cv.eq (zbw rfl (by omega))) (.cons (Cv.eq (zbw rfl (by omega))) (.cons (Cv.eq (zbw rfl (by omega))) (.cons (Cv.eq (zbw rfl (by omega))) .nil)))))) (zi rfl rfl (zad (f := dU8) (l := bs) (l' := [(UInt8.ofNat (240 + ((x / 262144) % 256))), (UInt8.ofNat (128 + (((x / 4096) % 256) % 64))), (UInt8.ofNat (128 + (((x / 64) % 256) % 64))), (UInt8.ofNat (128 + ((x % 256) % 64)))]) (i := 1) rfl rfl rfl (SrcD.own (j := 0) rfl rfl) zbh zbM rfl rfl (by unfold maxLen; (try simp only [la, lc, ln, lm, lt', ld, ls, lr]); omega) (by (try simp only [la, lc, ln, lm, lt', ld, ls, lr]); omega)) ?_)
            rintro _ _ ⟨v12, rfl, rfl⟩
            refine OpsD.norm [.sl (vS g11 4 4) 1 5 ([(UInt8.ofNat (240 + ((x / 262144) % 256))), (UInt8.ofNat (128 + (((x / 4096) % 256) % 64))), (UInt8.ofNat (128 + (((x / 64) % 256) % 64))), (UInt8.ofNat (128 + ((x % 256) % 64)))].map dU8), .sl v12 1 5 ((bs ++ [(UInt8.ofNat (240 + ((x / 262144) % 256))), (UInt8.ofNat (128 + (((x / 4096) % 256) % 64))), (UInt8.ofNat (128 + (((x / 64) % 256) % 64))), (UInt8.ofNat (128 + ((x % 256) % 64)))]).map dU8)] rfl (za rfl rfl (zd rfl) (zg rfl (ze (JD.keep [4] [(4, .ov v12)] rfl (zx rfl (zn (PD.subH (HSub.perm (zl (i := 1) rfl)) (PD.norm [.sl v12 1 5 ((bs ++ [(UInt8.ofNat (240 + ((x / 262144) % 256))), (UInt8.ofNat (128 + (((x / 4096) % 256) % 64))), (UInt8.ofNat (128 + (((x / 64) % 256) % 64))), (UInt8.ofNat (128 + ((x % 256) % 64)))]).map dU8), .sl (vS g11 4 4) 1 5 ([(UInt8.ofNat (240 + ((x / 262144) % 256))), (UInt8.ofNat (128 + (((x / 4096) % 256) % 64))), (UInt8.ofNat (128 + (((x / 64) % 256) % 64))), (UInt8.ofNat (128 + ((x % 256) % 64)))].map dU8)] rfl ?_))))))))
            refine PD.norm [.sl v12 1 5 ((bs ++ encR x).map dU8), .sl (vS g11 4 4) 1 5 ([(UInt8.ofNat (240 + ((x / 262144) % 256))), (UInt8.ofNat (128 + (((x / 4096) % 256) % 64))), (UInt8.ofNat (128 + (((x / 64) % 256) % 64))), (UInt8.ofNat (128 + ((x % 256) % 64)))].map dU8)] (by first | (exfalso; omega) | skip; unfold encR; first | rw [if_neg (by omega), if_pos (by omega)] | rw [if_neg (by omega), if_neg (by omega), if_pos (by omega)] | rw [if_neg (by omega), if_neg (by omega), if_neg (by omega), if_pos (by omega)] | rw [if_neg (by omega), if_neg (by omega), if_neg (by omega), if_neg (by omega)]) ?_
            exact zp Tryd.results50 (.cons (zq rfl) .nil) rfl (HSub.fst 1 rfl) ⟨v12, rfl, rfl⟩
          · simp only [Bool.and_eq_true, Bool.or_eq_true, Bool.not_eq_true', Bool.not_eq_false', Bool.and_eq_false_iff, Bool.or_eq_false_iff, decide_eq_true_eq, decide_eq_false_iff_not, Decidable.not_not, ne_eq] at hc10
            refine zf _ _ rfl rfl rfl (zb rfl (za rfl rfl (zc rfl) (zi rfl rfl (zP [.const (.int .u8 239), .const (.int .u8 191), .const (.int .u8 189)] rfl rfl (.cons (CellD.v rfl) (.cons (CellD.v rfl) (.cons (CellD.v rfl) .nil))) rfl Tryd.runUnderlying39 Tryd.sizeOf5 Tryd.zeroValue5 rfl rfl rfl rfl) ?_)))
            rintro _ _ ⟨g13, rfl, rfl⟩
            refine zi rfl rfl (zad (f := dU8) (l := bs) (l' := [(239 : UInt8), (191 : UInt8), (189 : UInt8)]) (i := 1) rfl rfl rfl (SrcD.own (j := 0) rfl rfl) zbh zbM rfl rfl (by unfold maxLen; (try simp only [la, lc, ln, lm, lt', ld, ls, lr]); omega) (by (try simp only [la, lc, ln, lm, lt', ld, ls, lr]); omega)) ?_
            rintro _ _ ⟨v14, rfl, rfl⟩
            refine OpsD.norm [.sl (vS g13 3 3) 1 5 ([.v (.int .u8 239), .v (.int .u8 191), .v (.int .u8 189)]), .sl v14 1 5 ((bs ++ [(239 : UInt8), (191 : UInt8), (189 : UInt8)]).map dU8)] rfl (za rfl rfl (zd rfl) (zg rfl (ze (zx rfl (zn (PD.subH (HSub.perm (zl (i := 1) rfl)) (PD.norm [.sl v14 1 5 ((bs ++ [(239 : UInt8), (191 : UInt8), (189 : UInt8)]).map dU8), .sl (vS g13 3 3) 1 5 ([.v (.int .u8 239), .v (.int .u8 191), .v (.int .u8 189)])] rfl (PD.norm [.sl v14 1 5 ((bs ++ encR x).map dU8), .sl (vS g13 3 3) 1 5 ([.v (.int .u8 239), .v (.int .u8 191), .v (.int .u8 189)])] (by first | (exfalso; omega) | skip; unfold encR; first | rw [if_neg (by omega), if_pos (by omega)] | rw [if_neg (by omega), if_neg (by omega), if_pos (by omega)] | rw [if_neg (by omega), if_neg (by omega), if_neg (by omega), if_pos (by omega)] | rw [if_neg (by omega), if_neg (by omega), if_neg (by omega), if_neg (by omega)]) ?_))))))))
            exact zp Tryd.results50 (.cons (zq rfl) .nil) rfl (HSub.fst 1 rfl) ⟨v14, rfl, rfl⟩
    · replace hc4 := of_decide_eq_false hc4
      refine JD.keep [0, 1, 4, 5] [(0, .ov v), (1, .v (.int .i32 ((x : Nat) : Int))), (4, dZ), (5, .v (.int .u32 ((x : Nat) : Int)))] rfl ?_
      refine zaF 25 ((decide ((57343 : Int) < ((x : Nat) : Int)) && decide (((x : Nat) : Int) ≤ (65535 : Int)))) [.sl v 1 5 (bs.map dU8)] (fun _ hQ15 => ?_) ?_
      · skip
        by_cases hg16 : (57343 : Int) < ((x : Nat) : Int)
        · skip
          refine zb rfl (za rfl rfl (zc rfl) (za rfl rfl (zbL rfl rfl (decide_eq_true hg16)) (za rfl rfl (zc rfl) (zh rfl rfl rfl rfl rfl (zc rfl) (zh rfl rfl rfl rfl rfl (zbm rfl rfl rfl) (za rfl rfl (zt rfl rfl) (za rfl rfl (zd rfl) (zg rfl ?_))))))))
          exact PD.sub ((25, dB (decide ((57343 : Int) < ((x : Nat) : Int)) && decide (((x : Nat) : Int) ≤ (65535 : Int)))) :: [(0, .ov v), (1, .v (.int .i32 ((x : Nat) : Int))), (4, dZ), (5, .v (.int .u32 ((x : Nat) : Int)))]) ⟨sc rfl (Cv.eq (congrArg (fun b => D.v (.bool b)) (by first | (simp [hc1, hc4, hg16]; done) | (simp_all; done)))), sk rfl, sk rfl, sk rfl, sk rfl, trivial⟩ hQ15
        · skip
          refine zb rfl (za rfl rfl (zc rfl) (za rfl rfl (zbL rfl rfl (decide_eq_false hg16)) (za rfl rfl (zc rfl) (zj rfl rfl rfl rfl rfl (by decide) (zj rfl rfl rfl rfl rfl (by decide) (za rfl rfl (zo rfl rfl) (za rfl rfl (zd rfl) (zg rfl ?_))))))))
          exact PD.sub ((25, dB (decide ((57343 : Int) < ((x : Nat) : Int)) && decide (((x : Nat) : Int) ≤ (65535 : Int)))) :: [(0, .ov v), (1, .v (.int .i32 ((x : Nat) : Int))), (4, dZ), (5, .v (.int .u32 ((x : Nat) : Int)))]) ⟨sc rfl (Cv.eq (congrArg (fun b => D.v (.bool b)) (by first | (simp [hc1, hc4, hg16]; done) | (simp_all; done)))), sk rfl, sk rfl, sk rfl, sk rfl, trivial⟩ hQ15
      · skip
        refine ze ?_
        refine zw _ _ rfl rfl rfl rfl (fun hc17 => ?_) (fun hc17 => ?_)
        · simp only [Bool.and_eq_true, Bool.or_eq_true, Bool.not_eq_true', Bool.not_eq_false', Bool.and_eq_false_iff, Bool.or_eq_false_iff, decide_eq_true_eq, decide_eq_false_iff_not, Decidable.not_not, ne_eq] at hc17
          refine zf _ _ rfl rfl rfl (zb rfl (za rfl rfl (zc rfl) (za rfl rfl (zc rfl) (za rfl rfl (zcb (a := x) (n := 12) (m := 4096) rfl rfl (by decide) (by decide)) (za rfl rfl (zaL rfl (c := (((x / 4096) % 256 : Nat) : Int)) (zao _)) (za rfl rfl (zbD (a := 224) (b := (x / 4096) % 256) rfl rfl (by decide) (by omega) (or224 _ (by omega))) (za rfl rfl (zc rfl) (za rfl rfl (zcb (a := x) (n := 6) (m := 64) rfl rfl (by decide) (by decide)) (za rfl rfl (zaL rfl (c := (((x / 64) % 256 : Nat) : Int)) (zao _)) (za rfl rfl (zbA (a := (x / 64) % 256) (b := 63) rfl rfl (by omega) (by decide) (zcs _)) (za rfl rfl (zbD (a := 128) (b := ((x / 64) % 256) % 64) rfl rfl (by decide) (by omega) (zcn _ (by omega))) (za rfl rfl (zc rfl) (za rfl rfl (zaL rfl (c := ((x % 256 : Nat) : Int)) (zao _)) (za rfl rfl (zbA (a := x % 256) (b := 63) rfl rfl (by omega) (by decide) (zcs _)) (za rfl rfl (zbD (a := 128) (b := (x % 256) % 64) rfl rfl (by decide) (by omega) (zcn _ (by omega))) (zi rfl rfl (zP [.tmp 38, .tmp 43, .tmp 47] rfl rfl (.cons (CellD.v rfl) (.cons (CellD.v rfl) (.cons (CellD.v rfl) .nil))) rfl Tryd.runUnderlying39 Tryd.sizeOf5 Tryd.zeroValue5 rfl rfl rfl rfl) ?_))))))))))))))))
          rintro _ _ ⟨g18, rfl, rfl⟩
          refine OpsD.subH (HSub.turn (h' := .sl (vS g18 3 3) 1 5 ([(UInt8.ofNat (224 + ((x / 4096) % 256))), (UInt8.ofNat (128 + (((x / 64) % 256) % 64))), (UInt8.ofNat (128 + ((x % 256) % 64)))].map dU8)) rfl (Hp.cvs_sl (.cons (Cv.eq (zbw rfl (by omega))) (.cons (Cv.eq (zbw rfl (by omega))) (.cons (Cv.eq (zbw rfl (by omega))) .nil))))) (zi rfl rfl (zad (f := dU8) (l := bs) (l' := [(UInt8.ofNat (224 + ((x / 4096) % 256))), (UInt8.ofNat (128 + (((x / 64) % 256) % 64))), (UInt8.ofNat (128 + ((x % 256) % 64)))]) (i := 1) rfl rfl rfl (SrcD.own (j := 0) rfl rfl) zbh zbM rfl rfl (by unfold maxLen; (try simp only [la, lc, ln, lm, lt', ld, ls, lr]); omega) (by (try simp only [la, lc, ln, lm, lt', ld, ls, lr]); omega)) ?_)
          rintro _ _ ⟨v19, rfl, rfl⟩
          refine OpsD.norm [.sl (vS g18 3 3) 1 5 ([(UInt8.ofNat (224 + ((x / 4096) % 256))), (UInt8.ofNat (128 + (((x / 64) % 256) % 64))), (UInt8.ofNat (128 + ((x % 256) % 64)))].map dU8), .sl v19 1 5 ((bs ++ [(UInt8.ofNat (224 + ((x / 4096) % 256))), (UInt8.ofNat (128 + (((x / 64) % 256) % 64))), (UInt8.ofNat (128 + ((x % 256) % 64)))]).map dU8)] rfl (za rfl rfl (zd rfl) (zg rfl (ze (JD.keep [4] [(4, .ov v19)] rfl (zx rfl (zn (PD.subH (HSub.perm (zl (i := 1) rfl)) (PD.norm [.sl v19 1 5 ((bs ++ [(UInt8.ofNat (224 + ((x / 4096) % 256))), (UInt8.ofNat (128 + (((x / 64) % 256) % 64))), (UInt8.ofNat (128 + ((x % 256) % 64)))]).map dU8), .sl (vS g18 3 3) 1 5 ([(UInt8.ofNat (224 + ((x / 4096) % 256))), (UInt8.ofNat (128 + (((x / 64) % 256) % 64))), (UInt8.ofNat (128 + ((x % 256) % 64)))].map dU8)] rfl ?_))))))))
          refine PD.norm [.sl v19 1 5 ((bs ++ encR x).map dU8), .sl (vS g18 3 3) 1 5 ([(UInt8.ofNat (224 + ((x / 4096) % 256))), (UInt8.ofNat (128 + (((x / 64) % 256) % 64))), (UInt8.ofNat (128 + ((x % 256) % 64)))].map dU8)] (by first | (exfalso; omega) | skip; unfold encR; first | rw [if_neg (by omega), if_pos (by omega)] | rw [if_neg (by omega), if_neg (by omega), if_pos (by omega)] | rw [if_neg (by omega), if_neg (by omega), if_neg (by omega), if_pos (by omega)] | rw [if_neg (by omega), if_neg (by omega), if_neg (by omega), if_neg (by omega)]) ?_
          exact zp Tryd.results50 (.cons (zq rfl) .nil) rfl (HSub.fst 1 rfl) ⟨v19, rfl, rfl⟩
        · simp only [Bool.and_eq_true, Bool.or_eq_true, Bool.not_eq_true', Bool.not_eq_false', Bool.and_eq_false_iff, Bool.or_eq_false_iff, decide_eq_true_eq, decide_eq_false_iff_not, Decidable.not_not, ne_eq] at hc17
          refine zf _ _ rfl rfl rfl (JD.keep [0, 1, 4, 5] [(0, .ov v), (1, .v (.int .i32 ((x : Nat) : Int))), (4, dZ), (5, .v (.int .u32 ((x : Nat) : Int)))] rfl ?_)
          refine zaF 50 ((decide ((65535 : Int) < ((x : Nat) : Int)) && decide (((x : Nat) : Int) ≤ (1114111 : Int)))) [.sl v 1 5 (bs.map dU8)] (fun _ hQ20 => ?_) ?_
          · skip
            by_cases hg21 : (65535 : Int) < ((x : Nat) : Int)
            · skip
              refine zb rfl (za rfl rfl (zc rfl) (za rfl rfl (zbU rfl rfl (decide_eq_true hg21)) (za rfl rfl (zc rfl) (zh rfl rfl rfl rfl rfl (zc rfl) (zh rfl rfl rfl rfl rfl (zbm rfl rfl rfl) (za rfl rfl (zt rfl rfl) (za rfl rfl (zd rfl) (zg rfl ?_))))))))
              exact PD.sub ((50, dB (decide ((65535 : Int) < ((x : Nat) : Int)) && decide (((x : Nat) : Int) ≤ (1114111 : Int)))) :: [(0, .ov v), (1, .v (.int .i32 ((x : Nat) : Int))), (4, dZ), (5, .v (.int .u32 ((x : Nat) : Int)))]) ⟨sc rfl (Cv.eq (congrArg (fun b => D.v (.bool b)) (by first | (simp [hc1, hc4, hg21]; done) | (simp_all; done)))), sk rfl, sk rfl, sk rfl, sk rfl, trivial⟩ hQ20
            · skip
              refine zb rfl (za rfl rfl (zc rfl) (za rfl rfl (zbU rfl rfl (decide_eq_false hg21)) (za rfl rfl (zc rfl) (zj rfl rfl rfl rfl rfl (by decide) (zj rfl rfl rfl rfl rfl (by decide) (za rfl rfl (zo rfl rfl) (za rfl rfl (zd rfl) (zg rfl ?_))))))))
              exact PD.sub ((50, dB (decide ((65535 : Int) < ((x : Nat) : Int)) && decide (((x : Nat) : Int) ≤ (1114111 : Int)))) :: [(0, .ov v), (1, .v (.int .i32 ((x : Nat) : Int))), (4, dZ), (5, .v (.int .u32 ((x : Nat) : Int)))]) ⟨sc rfl (Cv.eq (congrArg (fun b => D.v (.bool b)) (by first | (simp [hc1, hc4, hg21]; done) | (simp_all; done)))), sk rfl, sk rfl, sk rfl, sk rfl, trivial⟩ hQ20
          · skip
            refine ze ?_
            refine zw _ _ rfl rfl rfl rfl (fun hc22 => ?_) (fun hc22 => ?_)
            · simp only [Bool.and_eq_true, Bool.or_eq_true, Bool.not_eq_true', Bool.not_eq_false', Bool.and_eq_false_iff, Bool.or_eq_false_iff, decide_eq_true_eq, decide_eq_false_iff_not, Decidable.not_not, ne_eq] at hc22
              refine zf _ _ rfl rfl rfl (zb rfl (za rfl rfl (zc rfl) (za rfl rfl (zc rfl) (za rfl rfl (zcb (a := x) (n := 18) (m := 262144) rfl rfl (by decide) (by decide)) (za rfl rfl (zaL rfl (c := (((x / 262144) % 256 : Nat) : Int)) (zao _)) (za rfl rfl (zbD (a := 240) (b := (x / 262144) % 256) rfl rfl (by decide) (by omega) (or240 _ (by omega))) (za rfl rfl (zc rfl) (za rfl rfl (zcb (a := x) (n := 12) (m := 4096) rfl rfl (by decide) (by decide)) (za rfl rfl (zaL rfl (c := (((x / 4096) % 256 : Nat) : Int)) (zao _)) (za rfl rfl (zbA (a := (x / 4096) % 256) (b := 63) rfl rfl (by omega) (by decide) (zcs _)) (za rfl rfl (zbD (a := 128) (b := ((x / 4096) % 256) % 64) rfl rfl (by decide) (by omega) (zcn _ (by omega))) (za rfl rfl (zc rfl) (za rfl rfl (zcb (a := x) (n := 6) (m := 64) rfl rfl (by decide) (by decide)) (za rfl rfl (zaL rfl (c := (((x / 64) % 256 : Nat) : Int)) (zao _)) (za rfl rfl (zbA (a := (x / 64) % 256) (b := 63) rfl rfl (by omega) (by decide) (zcs _)) (za rfl rfl (zbD (a := 128) (b := ((x / 64) % 256) % 64) rfl rfl (by decide) (by omega) (zcn _ (by omega))) (za rfl rfl (zc rfl) (za rfl rfl (zaL rfl (c := ((x % 256 : Nat) : Int)) (zao _)) ?_))))))))))))))))))
              refine za rfl rfl (zbA (a := x % 256) (b := 63) rfl rfl (by omega) (by decide) (zcs _)) (za rfl rfl (zbD (a := 128) (b := (x % 256) % 64) rfl rfl (by decide) (by omega) (zcn _ (by omega))) (zi rfl rfl (zP [.tmp 61, .tmp 66, .tmp 71, .tmp 75] rfl rfl (.cons (CellD.v rfl) (.cons (CellD.v rfl) (.cons (CellD.v rfl) (.cons (CellD.v rfl) .nil)))) rfl Tryd.runUnderlying39 Tryd.sizeOf5 Tryd.zeroValue5 rfl rfl rfl rfl) ?_))
              rintro _ _ ⟨g23, rfl, rfl⟩
              refine OpsD.subH (HSub.turn (h' := .sl (vS g23 4 4) 1 5 ([(UInt8.ofNat (240 + ((x / 262144) % 256))), (UInt8.ofNat (128 + (((x / 4096) % 256) % 64))), (UInt8.ofNat (128 + (((x / 64) % 256) % 64))), (UInt8.ofNat (128 + ((x % 256) % 64)))].map dU8)) rfl (Hp.cvs_sl (.cons (Cv.eq (zbw rfl (by omega))) (.cons (Cv.eq (zbw rfl (by omega))) (.cons (Cv.eq (zbw rfl (by omega))) (.cons (Cv.eq (zbw rfl (by omega))) .nil)))))) (zi rfl rfl (zad (f := dU8) (l := bs) (l' := [(UInt8.ofNat (240 + ((x / 262144) % 256))), (UInt8.ofNat (128 + (((x / 4096) % 256) % 64))), (UInt8.ofNat (128 + (((x / 64) % 256) % 64))), (UInt8.ofNat (128 + ((x % 256) % 64)))]) (i := 1) rfl rfl rfl (SrcD.own (j := 0) rfl rfl) zbh zbM rfl rfl (by unfold maxLen; (try simp only [la, lc, ln, lm, lt', ld, ls, lr]); omega) (by (try simp only [la, lc, ln, lm, lt', ld, ls, lr]); omega)) ?_)
              rintro _ _ ⟨v24, rfl, rfl⟩
              refine OpsD.norm [.sl (vS g23 4 4) 1 5 ([(UInt8.ofNat (240 + ((x / 262144) % 256))), (UInt8.ofNat (128 + (((x / 4096) % 256) % 64))), (UInt8.ofNat (128 + (((x / 64) % 256) % 64))), (UInt8.ofNat (128 + ((x % 256) % 64)))].map dU8), .sl v24 1 5 ((bs ++ [(UInt8.ofNat (240 + ((x / 262144) % 256))), (UInt8.ofNat (128 + (((x / 4096) % 256) % 64))), (UInt8.ofNat (128 + (((x / 64) % 256) % 64))), (UInt8.ofNat (128 + ((x % 256) % 64)))]).map dU8)] rfl (za rfl rfl (zd rfl) (zg rfl (ze (JD.keep [4] [(4, .ov v24)] rfl (zx rfl (zn (PD.subH (HSub.perm (zl (i := 1) rfl)) (PD.norm [.sl v24 1 5 ((bs ++ [(UInt8.ofNat (240 + ((x / 262144) % 256))), (UInt8.ofNat (128 + (((x / 4096) % 256) % 64))), (UInt8.ofNat (128 + (((x / 64) % 256) % 64))), (UInt8.ofNat (128 + ((x % 256) % 64)))]).map dU8), .sl (vS g23 4 4) 1 5 ([(UInt8.ofNat (240 + ((x / 262144) % 256))), (UInt8.ofNat (128 + (((x / 4096) % 256) % 64))), (UInt8.ofNat (128 + (((x / 64) % 256) % 64))), (UInt8.ofNat (128 + ((x % 256) % 64)))].map dU8)] rfl ?_))))))))
              refine PD.norm [.sl v24 1 5 ((bs ++ encR x).map dU8), .sl (vS g23 4 4) 1 5 ([(UInt8.ofNat (240 + ((x / 262144) % 256))), (UInt8.ofNat (128 + (((x / 4096) % 256) % 64))), (UInt8.ofNat (128 + (((x / 64) % 256) % 64))), (UInt8.ofNat (128 + ((x % 256) % 64)))].map dU8)] (by first | (exfalso; omega) | skip; unfold encR; first | rw [if_neg (by omega), if_pos (by omega)] | rw [if_neg (by omega), if_neg (by omega), if_pos (by omega)] | rw [if_neg (by omega), if_neg (by omega), if_neg (by omega), if_pos (by omega)] | rw [if_neg (by omega), if_neg (by omega), if_neg (by omega), if_neg (by omega)]) ?_
              exact zp Tryd.results50 (.cons (zq rfl) .nil) rfl (HSub.fst 1 rfl) ⟨v24, rfl, rfl⟩
            · simp only [Bool.and_eq_true, Bool.or_eq_true, Bool.not_eq_true', Bool.not_eq_false', Bool.and_eq_false_iff, Bool.or_eq_false_iff, decide_eq_true_eq, decide_eq_false_iff_not, Decidable.not_not, ne_eq] at hc22
              refine zf _ _ rfl rfl rfl (zb rfl (za rfl rfl (zc rfl) (zi rfl rfl (zP [.const (.int .u8 239), .const (.int .u8 191), .const (.int .u8 189)] rfl rfl (.cons (CellD.v rfl) (.cons (CellD.v rfl) (.cons (CellD.v rfl) .nil))) rfl Tryd.runUnderlying39 Tryd.sizeOf5 Tryd.zeroValue5 rfl rfl rfl rfl) ?_)))
              rintro _ _ ⟨g25, rfl, rfl⟩
              refine zi rfl rfl (zad (f := dU8) (l := bs) (l' := [(239 : UInt8), (191 : UInt8), (189 : UInt8)]) (i := 1) rfl rfl rfl (SrcD.own (j := 0) rfl rfl) zbh zbM rfl rfl (by unfold maxLen; (try simp only [la, lc, ln, lm, lt', ld, ls, lr]); omega) (by (try simp only [la, lc, ln, lm, lt', ld, ls, lr]); omega)) ?_
              rintro _ _ ⟨v26, rfl, rfl⟩
              refine OpsD.norm [.sl (vS g25 3 3) 1 5 ([.v (.int .u8 239), .v (.int .u8 191), .v (.int .u8 189)]), .sl v26 1 5 ((bs ++ [(239 : UInt8), (191 : UInt8), (189 : UInt8)]).map dU8)] rfl (za rfl rfl (zd rfl) (zg rfl (ze (zx rfl (zn (PD.subH (HSub.perm (zl (i := 1) rfl)) (PD.norm [.sl v26 1 5 ((bs ++ [(239 : UInt8), (191 : UInt8), (189 : UInt8)]).map dU8), .sl (vS g25 3 3) 1 5 ([.v (.int .u8 239), .v (.int .u8 191), .v (.int .u8 189)])] rfl (PD.norm [.sl v26 1 5 ((bs ++ encR x).map dU8), .sl (vS g25 3 3) 1 5 ([.v (.int .u8 239), .v (.int .u8 191), .v (.int .u8 189)])] (by first | (exfalso; omega) | skip; unfold encR; first | rw [if_neg (by omega), if_pos (by omega)] | rw [if_neg (by omega), if_neg (by omega), if_pos (by omega)] | rw [if_neg (by omega), if_neg (by omega), if_neg (by omega), if_pos (by omega)] | rw [if_neg (by omega), if_neg (by omega), if_neg (by omega), if_neg (by omega)]) ?_))))))))
              exact zp Tryd.results50 (.cons (zq rfl) .nil) rfl (HSub.fst 1 rfl) ⟨v26, rfl, rfl⟩

set_option maxHeartbeats 4000000 in
set_option maxRecDepth 100000 in
theorem appR_c (v : Value) (bs : List UInt8) (x : Nat) (h2 : x < 2147483648) (hl : bs.length ≤ 1000000000000) :
    CD Tryd.prog 40 [.sl v 1 5 (bs.map dU8)] [.ov v, .v (.int .i32 ((x : Nat) : Int))] (fun r H' => ∃ v', r = .ov v' ∧ H' = [.sl v' 1 5 ((bs ++ encR x).map dU8)]) := by
  refine zC Tryd.func40 rfl (N := 16) rfl rfl (fun C => ?_)
  refine JD.keep [0, 1] [(0, .ov v), (1, .v (.int .i32 ((x : Nat) : Int)))] rfl (zf _ _ rfl rfl rfl (zb rfl (za rfl rfl (zd rfl) (zg rfl (ze (zf _ _ rfl rfl rfl (zf _ _ rfl rfl rfl (zb rfl (za rfl rfl (zc rfl) (za rfl rfl (zaL rfl (c := ((x : Nat) : Int)) (cv_21_74 (by omega))) (za rfl rfl (zbm rfl rfl rfl) (zg rfl (ze ?_)))))))))))))
  refine zw _ _ rfl rfl rfl rfl (fun hc1 => ?_) (fun hc1 => ?_)
  · replace hc1 := of_decide_eq_true hc1
    refine zf _ _ rfl rfl rfl (zb rfl (za rfl rfl (zc rfl) (za rfl rfl (zc rfl) (za rfl rfl (zaL rfl (c := ((x % 256 : Nat) : Int)) (zao _)) (zi rfl rfl (zP [.tmp 10] rfl rfl (.cons (CellD.v rfl) .nil) rfl Tryd.runUnderlying39 Tryd.sizeOf5 Tryd.zeroValue5 rfl rfl rfl rfl) ?_)))))
    rintro _ _ ⟨g2, rfl, rfl⟩
    refine OpsD.subH (HSub.turn (h' := .sl (vS g2 1 1) 1 5 ([(UInt8.ofNat (x % 256))].map dU8)) rfl (Hp.cvs_sl (.cons (Cv.eq (zbw rfl (by omega))) .nil))) (zi rfl rfl (zad (f := dU8) (l := bs) (l' := [(UInt8.ofNat (x % 256))]) (i := 1) rfl rfl rfl (SrcD.own (j := 0) rfl rfl) zbh zbM rfl rfl (by unfold maxLen; (try simp only [la, lc, ln, lm, lt', ld, ls, lr]); omega) (by (try simp only [la, lc, ln, lm, lt', ld, ls, lr]); omega)) ?_)
    rintro _ _ ⟨v3, rfl, rfl⟩
    refine OpsD.norm [.sl (vS g2 1 1) 1 5 ([(UInt8.ofNat (x % 256))].map dU8), .sl v3 1 5 ((bs ++ [(UInt8.ofNat (x % 256))]).map dU8)] rfl (za rfl rfl (zd rfl) (zg rfl (ze (zx rfl (zu (PD.subH (HSub.perm (zl (i := 1) rfl)) (PD.norm [.sl v3 1 5 ((bs ++ [(UInt8.ofNat (x % 256))]).map dU8), .sl (vS g2 1 1) 1 5 ([(UInt8.ofNat (x % 256))].map dU8)] rfl (PD.norm [.sl v3 1 5 ((bs ++ encR x).map dU8), .sl (vS g2 1 1) 1 5 ([(UInt8.ofNat (x % 256))].map dU8)] (by unfold encR; rw [if_pos (by omega)]) ?_))))))))
    exact zp Tryd.results40 (.cons (zq rfl) .nil) rfl (HSub.fst 1 rfl) ⟨v3, rfl, rfl⟩
  · replace hc1 := of_decide_eq_false hc1
    refine zD rfl (ze (zf _ _ rfl rfl rfl (zb rfl (za rfl rfl (zc rfl) (za rfl rfl (zc rfl) (zi rfl rfl (zr [.sl v 1 5 (bs.map dU8)] [] [] rfl rfl (.cons ArgC.id (.cons ArgC.id .nil)) zm Tryd.call50 (appNA_c v bs x (by omega) (by omega) (by (try simp only [la, lc, ln]); omega)) (.inl rfl)) ?_))))))
    rintro _ _ ⟨_, ⟨rv4, rfl, rfl⟩, rfl⟩
    refine OpsD.norm [.sl rv4 1 5 ((bs ++ encR x).map dU8)] rfl (za rfl rfl (zd rfl) (zg rfl (ze (zx rfl ?_))))
    exact zp Tryd.results40 (.cons (zq rfl) .nil) rfl (HSub.fst 1 rfl) ⟨rv4, rfl, rfl⟩

set_option maxHeartbeats 4000000 in
set_option maxRecDepth 100000 in
theorem WriteRune_c (g : Nat) (p v : Value) (bs : List UInt8) (x : Nat) (hp : p = .pointer none ∨ p = .pointer (some ⟨g, 0, none⟩)) (hl : bs.length ≤ 1000000000000) (hx : x < 2147483648) :
    CD Tryd.prog 27 [.bx g 51 (.agg [.v p, .ov v]), .sl v 1 5 (bs.map dU8)] [dP g 0, .v (.int .i32 ((x : Nat) : Int))] (fun r H' => ∃ v' n, r = .tup [dI n, .v .nilIface] ∧ H' = [.bx g 51 (.agg [dP g 0, .ov v']), .sl v' 1 5 ((bs ++ encR x).map dU8)]) := by
  refine zC Tryd.func27 rfl (N := 30) rfl rfl (fun C => ?_)
  refine JD.keep [0, 1] [(0, dP g 0), (1, .v (.int .i32 ((x : Nat) : Int)))] rfl ?_
  have hel := zcp x
  refine zf _ _ rfl rfl rfl (zb rfl (za rfl rfl (zd rfl) (za rfl rfl (zd rfl) (zg rfl (ze (zf _ _ rfl rfl rfl (zb rfl (za rfl rfl (zc rfl) (zi rfl rfl (zr [.bx g 51 (.agg [.v p, .ov v])] [.sl v 1 5 (bs.map dU8)] [] rfl rfl (.cons ArgC.id .nil) zm Tryd.call39 (copyCheck_c g p (.ov v) hp) (.inl rfl)) ?_)))))))))
  rintro _ _ ⟨_, ⟨rfl, rfl⟩, rfl⟩
  refine OpsD.norm [.bx g 51 (.agg [dP g 0, .ov v]), .sl v 1 5 (bs.map dU8)] rfl (zg rfl (ze (zf _ _ rfl rfl rfl (zb rfl (za rfl rfl (zc rfl) (za rfl rfl (zU rfl) (za rfl rfl (zz rfl zaA rfl) (za rfl rfl (zY rfl (i := 0) rfl Tryd.isAgg39 rfl) (za rfl rfl (zap (n := bs.length) (j := 1) rfl rfl Tryd.runUnderlying39 (List.length_map _)) (za rfl rfl (zd rfl) (zg rfl (ze (zf _ _ rfl rfl rfl (zb rfl (za rfl rfl (zc rfl) (za rfl rfl (zc rfl) (za rfl rfl (zU rfl) (za rfl rfl (zz rfl zaA rfl) (za rfl rfl (zY rfl (i := 0) rfl Tryd.isAgg39 rfl) (za rfl rfl (zc rfl) (OpsD.subH (HSub.perm (zl (i := 1) rfl)) (OpsD.norm [.sl v 1 5 (bs.map dU8), .bx g 51 (.agg [dP g 0, .ov v])] rfl (zi rfl rfl (zr [.sl v 1 5 (bs.map dU8)] [.bx g 51 (.agg [dP g 0, .ov v])] [] rfl rfl (.cons ArgC.id (.cons ArgC.id .nil)) zm Tryd.call40 (appR_c v bs x  (by omega) (by (try simp only [la, lc, ln]); omega)) (.inl rfl)) ?_)))))))))))))))))))))))
  rintro _ _ ⟨_, ⟨rv1, rfl, rfl⟩, rfl⟩
  refine OpsD.norm [.sl rv1 1 5 ((bs ++ encR x).map dU8), .bx g 51 (.agg [dP g 0, .ov v])] rfl (za rfl rfl (zU rfl) (za rfl rfl (zz rfl zaA rfl) (zi rfl rfl (zI (i := 1) (X' := .agg [dP g 0, .ov rv1]) rfl rfl rfl (CellD.o) Tryd.sizeOf39 rfl rfl rfl) ?_)))
  rintro _ _ ⟨rfl, rfl⟩
  refine OpsD.norm [.sl rv1 1 5 ((bs ++ encR x).map dU8), .bx g 51 (.agg [dP g 0, .ov rv1])] rfl (zg rfl (ze (JD.keep [0, 4, 5, 6] [(0, dP g 0), (4, dI 0), (5, .v .nilIface), (6, dN bs.length)] rfl (zf _ _ rfl rfl rfl (zb rfl (za rfl rfl (zc rfl) (za rfl rfl (zU rfl) (za rfl rfl (zz rfl zaA rfl) (za rfl rfl (zY rfl (i := 1) rfl Tryd.isAgg39 rfl) (za rfl rfl (zap (n := (bs ++ encR x).length) (j := 0) rfl rfl Tryd.runUnderlying39 (List.length_map _)) (za rfl rfl (zc rfl) (za rfl rfl (zcT (c := ((((bs ++ encR x).length : Nat) : Int) - ((bs.length : Nat) : Int))) rfl rfl (zas (by omega) (by (try simp only [la]); omega))) (za rfl rfl (zd rfl) (za rfl rfl (zd rfl) (zg rfl (ze (JD.keep [4, 5] [(4, dI ((((bs ++ encR x).length : Nat) : Int) - ((bs.length : Nat) : Int))), (5, .v .nilIface)] rfl (zx rfl (PD.subH (HSub.perm (zl (i := 1) rfl)) (PD.norm [.bx g 51 (.agg [dP g 0, .ov rv1]), .sl rv1 1 5 ((bs ++ encR x).map dU8)] rfl ?_))))))))))))))))))))
  exact zp Tryd.results27 (.cons (zq rfl) (.cons (zq rfl) .nil)) rfl (HSub.fst 2 rfl) ⟨rv1, _, rfl, rfl⟩

set_option maxHeartbeats 4000000 in
set_option maxRecDepth 100000 in
theorem String_c (g : Nat) (p v : Value) (bs : List UInt8) (h0 : bs ≠ []) :
    CD Tryd.prog 30 [.bx g 51 (.agg [.v p, .ov v]), .sl v 1 5 (bs.map dU8)] [dP g 0] (fun r H' => r = .s ⟨bs.toArray⟩ ∧ H' = []) := by
  refine zC Tryd.func30 rfl (N := 14) rfl rfl (fun C => ?_)
  refine JD.keep [0] [(0, dP g 0)] rfl (zf _ _ rfl rfl rfl (zb rfl (za rfl rfl (zd rfl) (zg rfl (ze (zf _ _ rfl rfl rfl (JD.keep [0, 2] [(0, dP g 0), (2, .v (.string ByteArray.empty))] rfl (JD.norm [.bx g 51 (.agg [.v p, .ov v]), .sl v 1 5 (bs.map dU8)] rfl ?_))))))))
  refine jd_draw 10 [(3, dP g 0, none), (4, dP g 0, none), (5, dP g 1, none), (6, .ov v, none), (7, .v (.pointer (some ⟨bl v, 0, none⟩)), none), (8, dP g 0, none), (9, dP g 0, none), (10, dP g 1, none), (11, .ov v, none), (12, dN bs.length, none)] [.bx g 51 (.agg [.v p, .ov v]), .sl v 1 5 (bs.map dU8)] (Hn := [.bx g 51 (.agg [.v p, .ov v]), .sl v 1 5 (bs.map dU8)]) mixed rfl rfl rfl rfl HSub.rfl' rfl ⟨sa_p rfl rfl rfl (zc rfl), sa_p rfl rfl rfl (zU rfl), sa_p rfl rfl rfl (zz rfl zaA rfl), sa_p rfl rfl rfl (zY rfl (i := 0) rfl Tryd.isAgg39 rfl), sa_p rfl rfl rfl (p_sliceData (i := 1) rfl rfl (by rw [List.length_map]; exact List.length_pos_iff.2 h0)), sa_p rfl rfl rfl (zc rfl), sa_p rfl rfl rfl (zU rfl), sa_p rfl rfl rfl (zz rfl zaA rfl), sa_p rfl rfl rfl (zY rfl (i := 0) rfl Tryd.isAgg39 rfl), sa_p rfl rfl rfl (zap (n := bs.length) (j := 1) rfl rfl Tryd.runUnderlying39 (List.length_map _)), trivial⟩ ?_
  refine OpsD.keep [0, 2, 3, 4, 5, 6, 7, 8, 9, 10, 11, 12] [(0, dP g 0), (2, .v (.string ByteArray.empty)), (3, dP g 0), (4, dP g 0), (5, dP g 1), (6, .ov v), (7, .v (.pointer (some ⟨bl v, 0, none⟩))), (8, dP g 0), (9, dP g 0), (10, dP g 1), (11, .ov v), (12, dN bs.length)] rfl (zi rfl rfl (ef_unsafeString (i := 1) (bs := bs) rfl rfl rfl rfl h0 (by kernel_rfl) (by kernel_rfl)) ?_)
  rintro _ _ ⟨rfl, rfl⟩
  refine OpsD.norm [.bx g 51 (.agg [.v p, .ov v])] rfl (za rfl rfl (zd rfl) (zg rfl (ze (JD.keep [2] [(2, .s (⟨bs.toArray⟩))] rfl (zx rfl ?_)))))
  exact zp Tryd.results30 (.cons (zq rfl) .nil) rfl HSub.none ⟨rfl, rfl⟩

set_option maxHeartbeats 4000000 in
set_option maxRecDepth 100000 in
theorem hasP_c (a : ByteArray) (b : ByteArray)  :
    CD Tryd.prog 41 [] [.s a, .s b] (isR (dB (hasP a b))) := by
  refine zC Tryd.func41 rfl (N := 18) rfl rfl (fun C => ?_)
  refine JD.keep [0, 1] [(0, .s a), (1, .s b)] rfl ?_
  refine JD.bd 0 rfl (fun bd0 => ?_)
  have sz0 : a.size ≤ 9223372036854775807 := bd0
  refine JD.bd 1 rfl (fun bd1 => ?_)
  have sz1 : b.size ≤ 9223372036854775807 := bd1
  refine zf _ _ rfl rfl rfl (zb rfl (za rfl rfl (zd rfl) (zg rfl (ze (zf _ _ rfl rfl rfl (JD.keep [0, 1] [(0, .s a), (1, .s b)] rfl ?_))))))
  refine zaF 4 ((decide (((b.size : Nat) : Int) ≤ ((a.size : Nat) : Int)) && decide ((a.extract 0 b.size) = b))) [] (fun _ hQ1 => ?_) ?_
  · skip
    by_cases hg2 : ((b.size : Nat) : Int) ≤ ((a.size : Nat) : Int)
    · skip
      refine zb rfl (za rfl rfl (zc rfl) (za rfl rfl (zL rfl Tryd.runUnderlying9) (za rfl rfl (zc rfl) (za rfl rfl (zL rfl Tryd.runUnderlying9) (za rfl rfl (zag rfl rfl (decide_eq_true hg2)) (za rfl rfl (zc rfl) (zh rfl rfl rfl rfl rfl (zc rfl) (zh rfl rfl rfl rfl rfl (zc rfl) (zh rfl rfl rfl rfl rfl (zL rfl Tryd.runUnderlying9) (zh rfl rfl rfl rfl rfl (z1 (a := 0) (c := b.size) rfl rfl rfl (by first | rfl | (show _ = _; omega)) (by first | rfl | (show _ = _; omega)) Tryd.runUnderlying9 (by omega) (by omega)) (zh rfl rfl rfl rfl rfl (zc rfl) (zh rfl rfl rfl rfl rfl (zcm rfl rfl rfl) (za rfl rfl (zt rfl rfl) (za rfl rfl (zd rfl) (zg rfl ?_)))))))))))))))
      exact PD.sub ((4, dB (decide (((b.size : Nat) : Int) ≤ ((a.size : Nat) : Int)) && decide ((a.extract 0 b.size) = b))) :: [(0, .s a), (1, .s b)]) ⟨sc rfl (Cv.eq (congrArg (fun b => D.v (.bool b)) (by first | (simp [hg2]; done) | (simp_all; done)))), sk rfl, sk rfl, trivial⟩ hQ1
    · skip
      refine zb rfl (za rfl rfl (zc rfl) (za rfl rfl (zL rfl Tryd.runUnderlying9) (za rfl rfl (zc rfl) (za rfl rfl (zL rfl Tryd.runUnderlying9) (za rfl rfl (zag rfl rfl (decide_eq_false hg2)) (za rfl rfl (zc rfl) (zj rfl rfl rfl rfl rfl (by decide) (zj rfl rfl rfl rfl rfl (by decide) (zj rfl rfl rfl rfl rfl (by decide) (zj rfl rfl rfl rfl rfl (by decide) (zj rfl rfl rfl rfl rfl (by decide) (zj rfl rfl rfl rfl rfl (by decide) (za rfl rfl (zo rfl rfl) (za rfl rfl (zd rfl) (zg rfl ?_)))))))))))))))
      exact PD.sub ((4, dB (decide (((b.size : Nat) : Int) ≤ ((a.size : Nat) : Int)) && decide ((a.extract 0 b.size) = b))) :: [(0, .s a), (1, .s b)]) ⟨sc rfl (Cv.eq (congrArg (fun b => D.v (.bool b)) (by first | (simp [hg2]; done) | (simp_all; done)))), sk rfl, sk rfl, trivial⟩ hQ1
  · skip
    refine ze (zx rfl ?_)
    exact zp Tryd.results41 (.cons (zB (zq rfl) (Cv.eq (congrArg (fun b => D.v (.bool b)) (by unfold hasP; simp [*])))) .nil) rfl HSub.none ⟨rfl, rfl⟩

set_option maxHeartbeats 4000000 in
set_option maxRecDepth 100000 in
theorem HasPrefix_c (a : ByteArray) (b : ByteArray)  :
    CD Tryd.prog 29 [] [.s a, .s b] (isR (dB (hasP a b))) := by
  refine zC Tryd.func29 rfl (N := 8) rfl rfl (fun C => ?_)
  refine JD.keep [0, 1] [(0, .s a), (1, .s b)] rfl ?_
  refine JD.bd 0 rfl (fun bd0 => ?_)
  have sz0 : a.size ≤ 9223372036854775807 := bd0
  refine JD.bd 1 rfl (fun bd1 => ?_)
  have sz1 : b.size ≤ 9223372036854775807 := bd1
  refine zf _ _ rfl rfl rfl (zb rfl (za rfl rfl (zd rfl) (zg rfl (ze (zf _ _ rfl rfl rfl (zb rfl (za rfl rfl (zc rfl) (za rfl rfl (zc rfl) (zi rfl rfl (zr [] _ [] rfl rfl (.cons ArgC.id (.cons ArgC.id .nil)) zm Tryd.call41 (hasP_c a b) (.inl rfl)) ?_)))))))))
  rintro _ _ ⟨_, ⟨rfl, rfl⟩, rfl⟩
  refine OpsD.norm [] rfl (za rfl rfl (zd rfl) (zg rfl (ze (zx rfl ?_))))
  exact zp Tryd.results29 (.cons (zq rfl) .nil) rfl HSub.none ⟨rfl, rfl⟩

set_option maxHeartbeats 4000000 in
set_option maxRecDepth 100000 in
theorem Quote_c (s : ByteArray) (hs : s.size ≤ 1000000000) :
    CD Tryd.prog 15 [] [.s s] (isR (D.s (zah s))) := by
  refine zC Tryd.func15 rfl (N := 54) rfl rfl (fun C => ?_)
  refine JD.keep [0] [(0, .s s)] rfl ?_
  refine JD.bd 0 rfl (fun bd0 => ?_)
  have sz0 : s.size ≤ 9223372036854775807 := bd0
  refine zf _ _ rfl rfl rfl (zb rfl (za rfl rfl (zd rfl) (zg rfl (ze (zf _ _ rfl rfl rfl (zb rfl (zi rfl rfl (za7 (zv := (.agg #[(.pointer none), (.slice none 0 0)])) (X := .agg [.v (.pointer none), .ov (.slice none 0 0)]) Tryd.zeroValue51 ⟨rfl, rfl, trivial⟩ ((Cv.vagg (by decide)).trans (Cv.agg (.cons Cv.rfl' (.cons (Cv.ov rfl) .nil))))) ?_)))))))
  rintro _ _ ⟨g1, rfl, rfl⟩
  refine OpsD.subH (HSub.nil 1 5) (OpsD.norm [.sl (.slice none 0 0) 1 5 ([].map dU8), .bx g1 51 (.agg [.v (.pointer none), .ov (.slice none 0 0)])] rfl (zg rfl (ze (zf _ _ rfl rfl rfl (zb rfl (OpsD.subH (HSub.perm (zl (i := 1) rfl)) (OpsD.norm [.bx g1 51 (.agg [.v (.pointer none), .ov (.slice none 0 0)]), .sl (.slice none 0 0) 1 5 ([].map dU8)] rfl (zi rfl rfl (zr [.bx g1 51 (.agg [.v (.pointer none), .ov (.slice none 0 0)]), .sl (.slice none 0 0) 1 5 ([].map dU8)] [] [] rfl rfl (.cons ArgC.id (.cons ArgC.id .nil)) zm Tryd.call26 (zbg g1 (.pointer none) (.slice none 0 0) [] (34 : UInt8) (.inl rfl) (by (try simp only [la, lc, ln]); omega)) (.inl rfl)) ?_))))))))
  rintro _ _ ⟨_, ⟨bv2, rfl, rfl⟩, rfl⟩
  refine OpsD.norm [.bx g1 51 (.agg [dP g1 0, .ov bv2]), .sl bv2 1 5 (([] ++ [(34 : UInt8)]).map dU8)] rfl (zg rfl (ze (zf _ _ rfl rfl rfl (zf _ _ rfl rfl rfl (zb rfl (za rfl rfl (zc rfl) (zi rfl rfl (zcq rfl Tryd.runUnderlying9) ?_)))))))
  rintro _ _ ⟨g3, rfl, rfl⟩
  refine zg rfl (ze (zH _ rfl rfl (zaX (fun (g : Nat × Value × List UInt8) => [(0, .s s), (2, .v (.string ByteArray.empty)), (3, dP g1 0), (8, dP g3 0)]) (fun (g : Nat × Value × List UInt8) => [.it g3 s g.1, .bx g1 51 (.agg [dP g1 0, .ov g.2.1]), .sl g.2.1 1 5 (g.2.2.map dU8)]) (fun (g : Nat × Value × List UInt8) => (g.1 ≤ s.size) ∧ (g.2.2.length ≤ 1 + 5 * g.1) ∧ ([34] ++ zW s 0 = g.2.2 ++ zW s g.1)) (fun (g : Nat × Value × List UInt8) => s.size - g.1) _ (0, bv2, ([] ++ [(34 : UInt8)])) rfl rfl ⟨sk rfl, sk rfl, sk rfl, sk rfl, trivial⟩ HSub.rfl' ⟨Nat.zero_le _, by simp, rfl⟩ ?_)))
  rintro ⟨p, ov, bs⟩ ⟨hp, hn, hq⟩
  replace hp : p ≤ s.size := hp
  replace hn : bs.length ≤ 1 + 5 * p := hn
  replace hq : [34] ++ zW s 0 = bs ++ zW s p := hq
  refine JD.keep [0, 2, 3, 8] [(0, .s s), (2, .v (.string ByteArray.empty)), (3, dP g1 0), (8, dP g3 0)] rfl (JD.norm [.it g3 s p, .bx g1 51 (.agg [dP g1 0, .ov ov]), .sl ov 1 5 (bs.map dU8)] rfl ?_)
  rcases Nat.lt_or_ge p s.size with hlt | hge
  · skip
    have hrune := zaO hlt
    have hrl := zca s p
    have hdw := zax s p hlt
    have hdp := zV s p
    refine zf _ _ rfl rfl rfl (zb rfl (zi rfl rfl (zb6 (i := 0) rfl rfl hlt) ?_))
    rintro _ _ ⟨rfl, rfl⟩
    refine OpsD.norm [.it g3 s (p + decW s p), .bx g1 51 (.agg [dP g1 0, .ov ov]), .sl ov 1 5 (bs.map dU8)] rfl (za rfl rfl (zA rfl rfl) (zg rfl (ze (zf _ _ rfl rfl rfl (zbt _ rfl rfl rfl (zD rfl (ze (zH _ rfl rfl (zf _ _ rfl rfl rfl (zb rfl (za rfl rfl (zA rfl rfl) (za rfl rfl (zA rfl rfl) (za rfl rfl (zd rfl) (za rfl rfl (zd rfl) (zg rfl (ze (zH _ rfl rfl (zf _ _ rfl rfl rfl ?_))))))))))))))))))
    refine JD.keep [0, 2, 3, 4, 5, 8, 9, 10, 11, 12] [(0, .s s), (2, .v (.string ByteArray.empty)), (3, dP g1 0), (4, dN p), (5, .v (.int .i32 ((decR s p : Nat) : Int))), (8, dP g3 0), (9, .tup [dB true, dN p, .v (.int .i32 ((decR s p : Nat) : Int))]), (10, dB true), (11, dN p), (12, .v (.int .i32 ((decR s p : Nat) : Int)))] rfl ?_
    refine zaF 15 ((decide (((decR s p : Nat) : Int) = (34 : Int)) || decide (((decR s p : Nat) : Int) = (92 : Int)))) [.it g3 s (p + decW s p), .bx g1 51 (.agg [dP g1 0, .ov ov]), .sl ov 1 5 (bs.map dU8)] (fun _ hQ4 => ?_) ?_
    · skip
      by_cases hg5 : ((decR s p : Nat) : Int) = (34 : Int)
      · skip
        refine zb rfl (za rfl rfl (zc rfl) (za rfl rfl (zR rfl rfl (decide_eq_true hg5)) (za rfl rfl (zc rfl) (zj rfl rfl rfl rfl rfl (by decide) (zj rfl rfl rfl rfl rfl (by decide) (za rfl rfl (zt rfl rfl) (za rfl rfl (zd rfl) (zg rfl ?_))))))))
        exact PD.sub ((15, dB (decide (((decR s p : Nat) : Int) = (34 : Int)) || decide (((decR s p : Nat) : Int) = (92 : Int)))) :: [(0, .s s), (2, .v (.string ByteArray.empty)), (3, dP g1 0), (4, dN p), (5, .v (.int .i32 ((decR s p : Nat) : Int))), (8, dP g3 0), (9, .tup [dB true, dN p, .v (.int .i32 ((decR s p : Nat) : Int))]), (10, dB true), (11, dN p), (12, .v (.int .i32 ((decR s p : Nat) : Int)))]) ⟨sc rfl (Cv.eq (congrArg (fun b => D.v (.bool b)) (by first | (simp [hg5]; done) | (simp_all; done)))), sk rfl, sk rfl, sk rfl, sk rfl, sk rfl, sk rfl, sk rfl, sk rfl, sk rfl, sk rfl, trivial⟩ hQ4
      · skip
        refine zb rfl (za rfl rfl (zc rfl) (za rfl rfl (zR rfl rfl (decide_eq_false hg5)) (za rfl rfl (zc rfl) (zh rfl rfl rfl rfl rfl (zc rfl) (zh rfl rfl rfl rfl rfl (zR rfl rfl rfl) (za rfl rfl (zo rfl rfl) (za rfl rfl (zd rfl) (zg rfl ?_))))))))
        exact PD.sub ((15, dB (decide (((decR s p : Nat) : Int) = (34 : Int)) || decide (((decR s p : Nat) : Int) = (92 : Int)))) :: [(0, .s s), (2, .v (.string ByteArray.empty)), (3, dP g1 0), (4, dN p), (5, .v (.int .i32 ((decR s p : Nat) : Int))), (8, dP g3 0), (9, .tup [dB true, dN p, .v (.int .i32 ((decR s p : Nat) : Int))]), (10, dB true), (11, dN p), (12, .v (.int .i32 ((decR s p : Nat) : Int)))]) ⟨sc rfl (Cv.eq (congrArg (fun b => D.v (.bool b)) (by first | (simp [hg5]; done) | (simp_all; done)))), sk rfl, sk rfl, sk rfl, sk rfl, sk rfl, sk rfl, sk rfl, sk rfl, sk rfl, sk rfl, trivial⟩ hQ4
    · skip
      refine ze ?_
      refine zw _ _ rfl rfl rfl rfl (fun hc6 => ?_) (fun hc6 => ?_)
      · simp only [Bool.and_eq_true, Bool.or_eq_true, Bool.not_eq_true', Bool.not_eq_false', Bool.and_eq_false_iff, Bool.or_eq_false_iff, decide_eq_true_eq, decide_eq_false_iff_not, Decidable.not_not, ne_eq] at hc6
        refine zf _ _ rfl rfl rfl (zb rfl (OpsD.subH (HSub.perm (zl (i := 2) rfl)) (OpsD.norm [.sl ov 1 5 (bs.map dU8), .it g3 s (p + decW s p), .bx g1 51 (.agg [dP g1 0, .ov ov])] rfl (OpsD.subH (HSub.perm (zl (i := 2) rfl)) (OpsD.norm [.bx g1 51 (.agg [dP g1 0, .ov ov]), .sl ov 1 5 (bs.map dU8), .it g3 s (p + decW s p)] rfl (zi rfl rfl (zr [.bx g1 51 (.agg [dP g1 0, .ov ov]), .sl ov 1 5 (bs.map dU8)] [.it g3 s (p + decW s p)] [] rfl rfl (.cons ArgC.id (.cons ArgC.id .nil)) zm Tryd.call26 (zbg g1 (.pointer (some ⟨g1, 0, none⟩)) ov bs (92 : UInt8) (.inr rfl) (by (try simp only [la, lc, ln]); omega)) (.inl rfl)) ?_))))))
        rintro _ _ ⟨_, ⟨bv7, rfl, rfl⟩, rfl⟩
        refine OpsD.norm [.bx g1 51 (.agg [dP g1 0, .ov bv7]), .sl bv7 1 5 ((bs ++ [(92 : UInt8)]).map dU8), .it g3 s (p + decW s p)] rfl (zg rfl (ze (zb rfl (za rfl rfl (zc rfl) (zi rfl rfl (zr [.bx g1 51 (.agg [dP g1 0, .ov bv7]), .sl bv7 1 5 ((bs ++ [(92 : UInt8)]).map dU8)] [.it g3 s (p + decW s p)] [] rfl rfl (.cons ArgC.id (.cons ArgC.id .nil)) zm Tryd.call27 (WriteRune_c g1 (.pointer (some ⟨g1, 0, none⟩)) bv7 (bs ++ [(92 : UInt8)]) (decR s p) (.inr rfl) (by (try simp only [la, lc, ln]); omega) (by omega)) (.inl rfl)) ?_)))))
        rintro _ _ ⟨_, ⟨bv8, nw9, rfl, rfl⟩, rfl⟩
        refine OpsD.norm [.bx g1 51 (.agg [dP g1 0, .ov bv8]), .sl bv8 1 5 (((bs ++ [(92 : UInt8)]) ++ encR (decR s p)).map dU8), .it g3 s (p + decW s p)] rfl (zg rfl (zG (zG (PD.subH (HSub.perm (zl (i := 1) rfl)) (PD.norm [.sl bv8 1 5 (((bs ++ [(92 : UInt8)]) ++ encR (decR s p)).map dU8), .bx g1 51 (.agg [dP g1 0, .ov bv8]), .it g3 s (p + decW s p)] rfl (PD.subH (HSub.perm (zl (i := 1) rfl)) (PD.norm [.bx g1 51 (.agg [dP g1 0, .ov bv8]), .sl bv8 1 5 (((bs ++ [(92 : UInt8)]) ++ encR (decR s p)).map dU8), .it g3 s (p + decW s p)] rfl (PD.subH (HSub.perm (zl (i := 2) rfl)) (PD.norm [.it g3 s (p + decW s p), .bx g1 51 (.agg [dP g1 0, .ov bv8]), .sl bv8 1 5 (((bs ++ [(92 : UInt8)]) ++ encR (decR s p)).map dU8)] rfl ?_)))))))))
        exact zai (p + decW s p, bv8, ((bs ++ [(92 : UInt8)]) ++ encR (decR s p))) ⟨sk rfl, sk rfl, sk rfl, sk rfl, trivial⟩ HSub.rfl' ⟨by have := zax s p hlt; omega, by (try simp only [la, lc, ln]); have := zV s p; have := zcp (decR s p); omega, by rw [hq, zav hlt, piece_1 (by omega)]; simp only [List.append_assoc, List.cons_append, List.nil_append]⟩ (by have := zV s p; omega)
      · simp only [Bool.and_eq_true, Bool.or_eq_true, Bool.not_eq_true', Bool.not_eq_false', Bool.and_eq_false_iff, Bool.or_eq_false_iff, decide_eq_true_eq, decide_eq_false_iff_not, Decidable.not_not, ne_eq] at hc6
        refine zf _ _ rfl rfl rfl (zb rfl (za rfl rfl (zc rfl) (za rfl rfl (zR rfl rfl rfl) (za rfl rfl (zd rfl) (zg rfl (ze ?_))))))
        refine zw _ _ rfl rfl rfl rfl (fun hc10 => ?_) (fun hc10 => ?_)
        · replace hc10 := of_decide_eq_true hc10
          refine zb rfl (OpsD.subH (HSub.perm (zl (i := 2) rfl)) (OpsD.norm [.sl ov 1 5 (bs.map dU8), .it g3 s (p + decW s p), .bx g1 51 (.agg [dP g1 0, .ov ov])] rfl (OpsD.subH (HSub.perm (zl (i := 2) rfl)) (OpsD.norm [.bx g1 51 (.agg [dP g1 0, .ov ov]), .sl ov 1 5 (bs.map dU8), .it g3 s (p + decW s p)] rfl (zi rfl rfl (zr [.bx g1 51 (.agg [dP g1 0, .ov ov]), .sl ov 1 5 (bs.map dU8)] [.it g3 s (p + decW s p)] [] rfl rfl (.cons ArgC.id (.cons (ArgC.cv (Cv.str (by first | decide | (unfold maxLen; omega)))) .nil)) zm Tryd.call28 (zaU g1 (.pointer (some ⟨g1, 0, none⟩)) ov bs (⟨#[92, 110]⟩ : ByteArray) (.inr rfl) (by (try simp only [la, lc, ln]); omega) (by first | decide | omega)) (.inl rfl)) ?_)))))
          rintro _ _ ⟨_, ⟨bv11, rfl, rfl⟩, rfl⟩
          refine OpsD.norm [.bx g1 51 (.agg [dP g1 0, .ov bv11]), .sl bv11 1 5 ((bs ++ (⟨#[92, 110]⟩ : ByteArray).data.toList).map dU8), .it g3 s (p + decW s p)] rfl (zg rfl (zG (zG (PD.subH (HSub.perm (zl (i := 1) rfl)) (PD.norm [.sl bv11 1 5 ((bs ++ (⟨#[92, 110]⟩ : ByteArray).data.toList).map dU8), .bx g1 51 (.agg [dP g1 0, .ov bv11]), .it g3 s (p + decW s p)] rfl (PD.subH (HSub.perm (zl (i := 1) rfl)) (PD.norm [.bx g1 51 (.agg [dP g1 0, .ov bv11]), .sl bv11 1 5 ((bs ++ (⟨#[92, 110]⟩ : ByteArray).data.toList).map dU8), .it g3 s (p + decW s p)] rfl (PD.subH (HSub.perm (zl (i := 2) rfl)) (PD.norm [.it g3 s (p + decW s p), .bx g1 51 (.agg [dP g1 0, .ov bv11]), .sl bv11 1 5 ((bs ++ (⟨#[92, 110]⟩ : ByteArray).data.toList).map dU8)] rfl ?_)))))))))
          exact zai (p + decW s p, bv11, (bs ++ (⟨#[92, 110]⟩ : ByteArray).data.toList)) ⟨sk rfl, sk rfl, sk rfl, sk rfl, trivial⟩ HSub.rfl' ⟨by have := zax s p hlt; omega, by (try simp only [la, lc, ln]); have := zV s p; have := zcp (decR s p); omega, by rw [hq, zav hlt, piece_2 (by omega) (by omega)]; simp only [List.append_assoc, List.cons_append, List.nil_append]⟩ (by have := zV s p; omega)
        · replace hc10 := of_decide_eq_false hc10
          refine zf _ _ rfl rfl rfl (JD.keep [0, 2, 3, 4, 5, 8, 9, 10, 11, 12, 15, 25, 26, 27] [(0, .s s), (2, .v (.string ByteArray.empty)), (3, dP g1 0), (4, dN p), (5, .v (.int .i32 ((decR s p : Nat) : Int))), (8, dP g3 0), (9, .tup [dB true, dN p, .v (.int .i32 ((decR s p : Nat) : Int))]), (10, dB true), (11, dN p), (12, .v (.int .i32 ((decR s p : Nat) : Int))), (15, dB (decide (((decR s p : Nat) : Int) = (34 : Int)) || decide (((decR s p : Nat) : Int) = (92 : Int)))), (25, dB (decide (((decR s p : Nat) : Int) = (10 : Int)))), (26, .v (.int .i32 ((decR s p : Nat) : Int))), (27, dB (decide (((decR s p : Nat) : Int) = (10 : Int))))] rfl ?_)
          refine zaF 29 ((decide (((decR s p : Nat) : Int) = (65533 : Int)) && !(hasP (s.extract p s.size) (⟨#[239, 191, 189]⟩ : ByteArray)))) [.it g3 s (p + decW s p), .bx g1 51 (.agg [dP g1 0, .ov ov]), .sl ov 1 5 (bs.map dU8)] (fun _ hQ12 => ?_) ?_
          · skip
            by_cases hg13 : ((decR s p : Nat) : Int) = (65533 : Int)
            · skip
              refine zb rfl (za rfl rfl (zc rfl) (za rfl rfl (zR rfl rfl (decide_eq_true hg13)) (za rfl rfl (zc rfl) (zh rfl rfl rfl rfl rfl (zc rfl) (zh rfl rfl rfl rfl rfl (zc rfl) (zh rfl rfl rfl rfl rfl (z1 (a := p) (c := s.size) rfl rfl rfl (by first | rfl | (show _ = _; omega)) (by first | rfl | (show _ = _; omega)) Tryd.runUnderlying9 (by omega) (by omega)) (zcJ rfl rfl rfl rfl rfl (zr [] _ [] rfl rfl (.cons ArgC.id (.cons (ArgC.cv (Cv.str (by first | decide | (unfold maxLen; omega)))) .nil)) zm Tryd.call29 (HasPrefix_c (s.extract p s.size) (⟨#[239, 191, 189]⟩ : ByteArray)) (.inl rfl)) ?_)))))))
              rintro _ _ ⟨_, ⟨rfl, rfl⟩, rfl⟩
              refine OpsD.norm [.it g3 s (p + decW s p), .bx g1 51 (.agg [dP g1 0, .ov ov]), .sl ov 1 5 (bs.map dU8)] rfl (zh rfl rfl rfl rfl rfl (zc0 rfl) (za rfl rfl (zt rfl rfl) (za rfl rfl (zd rfl) (zg rfl ?_))))
              exact PD.sub ((29, dB (decide (((decR s p : Nat) : Int) = (65533 : Int)) && !(hasP (s.extract p s.size) (⟨#[239, 191, 189]⟩ : ByteArray)))) :: [(0, .s s), (2, .v (.string ByteArray.empty)), (3, dP g1 0), (4, dN p), (5, .v (.int .i32 ((decR s p : Nat) : Int))), (8, dP g3 0), (9, .tup [dB true, dN p, .v (.int .i32 ((decR s p : Nat) : Int))]), (10, dB true), (11, dN p), (12, .v (.int .i32 ((decR s p : Nat) : Int))), (15, dB (decide (((decR s p : Nat) : Int) = (34 : Int)) || decide (((decR s p : Nat) : Int) = (92 : Int)))), (25, dB (decide (((decR s p : Nat) : Int) = (10 : Int)))), (26, .v (.int .i32 ((decR s p : Nat) : Int))), (27, dB (decide (((decR s p : Nat) : Int) = (10 : Int))))]) ⟨sc rfl (Cv.eq (congrArg (fun b => D.v (.bool b)) (by first | (simp [hc10, hg13]; done) | (simp_all; done)))), sk rfl, sk rfl, sk rfl, sk rfl, sk rfl, sk rfl, sk rfl, sk rfl, sk rfl, sk rfl, sk rfl, sk rfl, sk rfl, sk rfl, trivial⟩ hQ12
            · skip
              refine zb rfl (za rfl rfl (zc rfl) (za rfl rfl (zR rfl rfl (decide_eq_false hg13)) (za rfl rfl (zc rfl) (zj rfl rfl rfl rfl rfl (by decide) (zj rfl rfl rfl rfl rfl (by decide) (zj rfl rfl rfl rfl rfl (by decide) (zj rfl rfl rfl rfl rfl (by decide) (zj rfl rfl rfl rfl rfl (by decide) (za rfl rfl (zo rfl rfl) (za rfl rfl (zd rfl) (zg rfl ?_)))))))))))
              exact PD.sub ((29, dB (decide (((decR s p : Nat) : Int) = (65533 : Int)) && !(hasP (s.extract p s.size) (⟨#[239, 191, 189]⟩ : ByteArray)))) :: [(0, .s s), (2, .v (.string ByteArray.empty)), (3, dP g1 0), (4, dN p), (5, .v (.int .i32 ((decR s p : Nat) : Int))), (8, dP g3 0), (9, .tup [dB true, dN p, .v (.int .i32 ((decR s p : Nat) : Int))]), (10, dB true), (11, dN p), (12, .v (.int .i32 ((decR s p : Nat) : Int))), (15, dB (decide (((decR s p : Nat) : Int) = (34 : Int)) || decide (((decR s p : Nat) : Int) = (92 : Int)))), (25, dB (decide (((decR s p : Nat) : Int) = (10 : Int)))), (26, .v (.int .i32 ((decR s p : Nat) : Int))), (27, dB (decide (((decR s p : Nat) : Int) = (10 : Int))))]) ⟨sc rfl (Cv.eq (congrArg (fun b => D.v (.bool b)) (by first | (simp [hc10, hg13]; done) | (simp_all; done)))), sk rfl, sk rfl, sk rfl, sk rfl, sk rfl, sk rfl, sk rfl, sk rfl, sk rfl, sk rfl, sk rfl, sk rfl, sk rfl, sk rfl, trivial⟩ hQ12
          · skip
            refine ze ?_
            refine zw _ _ rfl rfl rfl rfl (fun hc14 => ?_) (fun hc14 => ?_)
            · simp only [Bool.and_eq_true, Bool.or_eq_true, Bool.not_eq_true', Bool.not_eq_false', Bool.and_eq_false_iff, Bool.or_eq_false_iff, decide_eq_true_eq, decide_eq_false_iff_not, Decidable.not_not, ne_eq] at hc14
              refine zf _ _ rfl rfl rfl (zb rfl (OpsD.subH (HSub.perm (zl (i := 2) rfl)) (OpsD.norm [.sl ov 1 5 (bs.map dU8), .it g3 s (p + decW s p), .bx g1 51 (.agg [dP g1 0, .ov ov])] rfl (OpsD.subH (HSub.perm (zl (i := 2) rfl)) (OpsD.norm [.bx g1 51 (.agg [dP g1 0, .ov ov]), .sl ov 1 5 (bs.map dU8), .it g3 s (p + decW s p)] rfl (zi rfl rfl (zr [.bx g1 51 (.agg [dP g1 0, .ov ov]), .sl ov 1 5 (bs.map dU8)] [.it g3 s (p + decW s p)] [] rfl rfl (.cons ArgC.id (.cons (ArgC.cv (Cv.str (by first | decide | (unfold maxLen; omega)))) .nil)) zm Tryd.call28 (zaU g1 (.pointer (some ⟨g1, 0, none⟩)) ov bs (⟨#[92, 120]⟩ : ByteArray) (.inr rfl) (by (try simp only [la, lc, ln]); omega) (by first | decide | omega)) (.inl rfl)) ?_))))))
              rintro _ _ ⟨_, ⟨bv15, rfl, rfl⟩, rfl⟩
              refine OpsD.norm [.bx g1 51 (.agg [dP g1 0, .ov bv15]), .sl bv15 1 5 ((bs ++ (⟨#[92, 120]⟩ : ByteArray).data.toList).map dU8), .it g3 s (p + decW s p)] rfl (zg rfl (ze (zf _ _ rfl rfl rfl (zb rfl (za rfl rfl (zc rfl) (za rfl rfl (zc rfl) ?_))))))
              obtain ⟨u1, hu1⟩ := zbP s p (by omega)
              have hlu1 := u1.toNat_lt
              refine za rfl rfl (zac (k := p) rfl rfl Tryd.runUnderlying9 (by first | rfl | omega) hu1) (za rfl rfl (zcb (a := u1.toNat) (n := 4) (m := 16) rfl rfl (by decide) (by decide)) ?_)
              obtain ⟨u2, hu2⟩ := zbP (⟨#[48, 49, 50, 51, 52, 53, 54, 55, 56, 57, 97, 98, 99, 100, 101, 102]⟩ : ByteArray) (u1.toNat / 16) (by show _ < 16; omega)
              have hlu2 := u2.toNat_lt
              refine za rfl rfl (zac (k := u1.toNat / 16) rfl rfl Tryd.runUnderlying9 (by first | rfl | omega) hu2) (zi rfl rfl (zr [.bx g1 51 (.agg [dP g1 0, .ov bv15]), .sl bv15 1 5 ((bs ++ (⟨#[92, 120]⟩ : ByteArray).data.toList).map dU8)] [.it g3 s (p + decW s p)] [] rfl rfl (.cons ArgC.id (.cons ArgC.id .nil)) zm Tryd.call26 (zbg g1 (.pointer (some ⟨g1, 0, none⟩)) bv15 (bs ++ (⟨#[92, 120]⟩ : ByteArray).data.toList) u2 (.inr rfl) (by (try simp only [la, lc, ln]); omega)) (.inl rfl)) ?_)
              rintro _ _ ⟨_, ⟨bv16, rfl, rfl⟩, rfl⟩
              refine OpsD.norm [.bx g1 51 (.agg [dP g1 0, .ov bv16]), .sl bv16 1 5 (((bs ++ (⟨#[92, 120]⟩ : ByteArray).data.toList) ++ [u2]).map dU8), .it g3 s (p + decW s p)] rfl (zg rfl (ze (zb rfl (za rfl rfl (zc rfl) (za rfl rfl (zc rfl) (za rfl rfl (zac (k := p) rfl rfl Tryd.runUnderlying9 (by first | rfl | omega) hu1) (za rfl rfl (zbA (a := u1.toNat) (b := 15) rfl rfl (by omega) (by decide) (and15 _)) ?_)))))))
              obtain ⟨u3, hu3⟩ := zbP (⟨#[48, 49, 50, 51, 52, 53, 54, 55, 56, 57, 97, 98, 99, 100, 101, 102]⟩ : ByteArray) (u1.toNat % 16) (by show _ < 16; omega)
              have hlu3 := u3.toNat_lt
              refine za rfl rfl (zac (k := u1.toNat % 16) rfl rfl Tryd.runUnderlying9 (by first | rfl | omega) hu3) (zi rfl rfl (zr [.bx g1 51 (.agg [dP g1 0, .ov bv16]), .sl bv16 1 5 (((bs ++ (⟨#[92, 120]⟩ : ByteArray).data.toList) ++ [u2]).map dU8)] [.it g3 s (p + decW s p)] [] rfl rfl (.cons ArgC.id (.cons ArgC.id .nil)) zm Tryd.call26 (zbg g1 (.pointer (some ⟨g1, 0, none⟩)) bv16 ((bs ++ (⟨#[92, 120]⟩ : ByteArray).data.toList) ++ [u2]) u3 (.inr rfl) (by (try simp only [la, lc, ln]); omega)) (.inl rfl)) ?_)
              rintro _ _ ⟨_, ⟨bv17, rfl, rfl⟩, rfl⟩
              refine OpsD.norm [.bx g1 51 (.agg [dP g1 0, .ov bv17]), .sl bv17 1 5 ((((bs ++ (⟨#[92, 120]⟩ : ByteArray).data.toList) ++ [u2]) ++ [u3]).map dU8), .it g3 s (p + decW s p)] rfl (zg rfl (zG (zG (PD.subH (HSub.perm (zl (i := 1) rfl)) (PD.norm [.sl bv17 1 5 ((((bs ++ (⟨#[92, 120]⟩ : ByteArray).data.toList) ++ [u2]) ++ [u3]).map dU8), .bx g1 51 (.agg [dP g1 0, .ov bv17]), .it g3 s (p + decW s p)] rfl (PD.subH (HSub.perm (zl (i := 1) rfl)) (PD.norm [.bx g1 51 (.agg [dP g1 0, .ov bv17]), .sl bv17 1 5 ((((bs ++ (⟨#[92, 120]⟩ : ByteArray).data.toList) ++ [u2]) ++ [u3]).map dU8), .it g3 s (p + decW s p)] rfl (PD.subH (HSub.perm (zl (i := 2) rfl)) (PD.norm [.it g3 s (p + decW s p), .bx g1 51 (.agg [dP g1 0, .ov bv17]), .sl bv17 1 5 ((((bs ++ (⟨#[92, 120]⟩ : ByteArray).data.toList) ++ [u2]) ++ [u3]).map dU8)] rfl ?_)))))))))
              exact zai (p + decW s p, bv17, (((bs ++ (⟨#[92, 120]⟩ : ByteArray).data.toList) ++ [u2]) ++ [u3])) ⟨sk rfl, sk rfl, sk rfl, sk rfl, trivial⟩ HSub.rfl' ⟨by have := zax s p hlt; omega, by (try simp only [la, lc, ln]); have := zV s p; have := zcp (decR s p); omega, by rw [hq, zav hlt, piece_3 (by omega) (by omega) ⟨by have := hc14.1; omega, hc14.2⟩]; rw [← zJ hu1]; rw [← hexB_at hu2, ← hexB_at hu3]; simp only [List.append_assoc, List.cons_append, List.nil_append]⟩ (by have := zV s p; omega)
            · simp only [Bool.and_eq_true, Bool.or_eq_true, Bool.not_eq_true', Bool.not_eq_false', Bool.and_eq_false_iff, Bool.or_eq_false_iff, decide_eq_true_eq, decide_eq_false_iff_not, Decidable.not_not, ne_eq] at hc14
              refine zb rfl (za rfl rfl (zc rfl) (OpsD.subH (HSub.perm (zl (i := 2) rfl)) (OpsD.norm [.sl ov 1 5 (bs.map dU8), .it g3 s (p + decW s p), .bx g1 51 (.agg [dP g1 0, .ov ov])] rfl (OpsD.subH (HSub.perm (zl (i := 2) rfl)) (OpsD.norm [.bx g1 51 (.agg [dP g1 0, .ov ov]), .sl ov 1 5 (bs.map dU8), .it g3 s (p + decW s p)] rfl (zi rfl rfl (zr [.bx g1 51 (.agg [dP g1 0, .ov ov]), .sl ov 1 5 (bs.map dU8)] [.it g3 s (p + decW s p)] [] rfl rfl (.cons ArgC.id (.cons ArgC.id .nil)) zm Tryd.call27 (WriteRune_c g1 (.pointer (some ⟨g1, 0, none⟩)) ov bs (decR s p) (.inr rfl) (by (try simp only [la, lc, ln]); omega) (by omega)) (.inl rfl)) ?_))))))
              rintro _ _ ⟨_, ⟨bv18, nw19, rfl, rfl⟩, rfl⟩
              refine OpsD.norm [.bx g1 51 (.agg [dP g1 0, .ov bv18]), .sl bv18 1 5 ((bs ++ encR (decR s p)).map dU8), .it g3 s (p + decW s p)] rfl (zg rfl (zG (zG (PD.subH (HSub.perm (zl (i := 1) rfl)) (PD.norm [.sl bv18 1 5 ((bs ++ encR (decR s p)).map dU8), .bx g1 51 (.agg [dP g1 0, .ov bv18]), .it g3 s (p + decW s p)] rfl (PD.subH (HSub.perm (zl (i := 1) rfl)) (PD.norm [.bx g1 51 (.agg [dP g1 0, .ov bv18]), .sl bv18 1 5 ((bs ++ encR (decR s p)).map dU8), .it g3 s (p + decW s p)] rfl (PD.subH (HSub.perm (zl (i := 2) rfl)) (PD.norm [.it g3 s (p + decW s p), .bx g1 51 (.agg [dP g1 0, .ov bv18]), .sl bv18 1 5 ((bs ++ encR (decR s p)).map dU8)] rfl ?_)))))))))
              exact zai (p + decW s p, bv18, (bs ++ encR (decR s p))) ⟨sk rfl, sk rfl, sk rfl, sk rfl, trivial⟩ HSub.rfl' ⟨by have := zax s p hlt; omega, by (try simp only [la, lc, ln]); have := zV s p; have := zcp (decR s p); omega, by rw [hq, zav hlt, piece_4 (by omega) (by omega) (fun e => by rcases hc14 with h | h <;> first | exact h (by have := e.1; omega) | exact absurd (e.2.symm.trans h) (by decide))]; simp only [List.append_assoc, List.cons_append, List.nil_append]⟩ (by have := zV s p; omega)
  · skip
    have hrune := zba hge
    refine zf _ _ rfl rfl rfl (zb rfl (za rfl rfl (zck (i := 0) rfl rfl hge) (za rfl rfl (zA rfl rfl) (zg rfl (ze (zf _ _ rfl rfl rfl (za1 _ rfl rfl rfl (zaQ rfl (zaa (z7 (zO (ze (zf _ _ rfl rfl rfl (zb rfl (OpsD.subH (HSub.perm (zl (i := 2) rfl)) (OpsD.norm [.sl ov 1 5 (bs.map dU8), .it g3 s p, .bx g1 51 (.agg [dP g1 0, .ov ov])] rfl (OpsD.subH (HSub.perm (zl (i := 2) rfl)) (OpsD.norm [.bx g1 51 (.agg [dP g1 0, .ov ov]), .sl ov 1 5 (bs.map dU8), .it g3 s p] rfl (zi rfl rfl (zr [.bx g1 51 (.agg [dP g1 0, .ov ov]), .sl ov 1 5 (bs.map dU8)] [.it g3 s p] [] rfl rfl (.cons ArgC.id (.cons ArgC.id .nil)) zm Tryd.call26 (zbg g1 (.pointer (some ⟨g1, 0, none⟩)) ov bs (34 : UInt8) (.inr rfl) (by (try simp only [la, lc, ln]); omega)) (.inl rfl)) ?_)))))))))))))))))))
    rintro _ _ ⟨_, ⟨bv20, rfl, rfl⟩, rfl⟩
    refine OpsD.norm [.bx g1 51 (.agg [dP g1 0, .ov bv20]), .sl bv20 1 5 ((bs ++ [(34 : UInt8)]).map dU8), .it g3 s p] rfl (zg rfl (ze (zf _ _ rfl rfl rfl (zb rfl (zi rfl rfl (zr [.bx g1 51 (.agg [dP g1 0, .ov bv20]), .sl bv20 1 5 ((bs ++ [(34 : UInt8)]).map dU8)] [.it g3 s p] [] rfl rfl (.cons ArgC.id .nil) zm Tryd.call30 (String_c g1 (.pointer (some ⟨g1, 0, none⟩)) bv20 (bs ++ [(34 : UInt8)]) (by simp)) (.inl rfl)) ?_)))))
    rintro _ _ ⟨_, ⟨rfl, rfl⟩, rfl⟩
    refine OpsD.norm [.it g3 s p] rfl (za rfl rfl (zd rfl) (zg rfl (ze (zx rfl ?_))))
    exact zp Tryd.results15 (.cons (zB (zq rfl) (Cv.eq (congrArg D.s (by rw [za0 hge, List.append_nil] at hq; rw [← hq]; rfl)))) .nil) rfl HSub.none ⟨rfl, rfl⟩

theorem ext_mnz (args : Array Value) (w : World) : (callFunc 51 args).run Tryd.prog w = ((Extern.BytealgMakeNoZero.makeNoZero #[3] #[39] args).run Tryd.prog w).andThen fun v w' => .ok (.value v) w' :=
  run_callFunc_extern Tryd.func51 (by kernel_rfl) (by kernel_rfl) (by kernel_rfl) (e := Extern.BytealgMakeNoZero.makeNoZero #[3] #[39]) (by kernel_rfl) args w

set_option maxHeartbeats 4000000 in
set_option maxRecDepth 100000 in
theorem grow0_c (g n : Nat) (hn : n ≤ 1000000000000) :
    CD Tryd.prog 42 [.bx g 51 (.agg [dP g 0, .ov (.slice none 0 0)]), .sl (.slice none 0 0) 1 5 ([].map dU8)] [dP g 0, dN n] (fun r H' => ∃ v', r = .tup [] ∧ H' = [.bx g 51 (.agg [dP g 0, .ov v']), .sl v' 1 5 ([].map dU8)]) := by
  refine zC Tryd.func42 rfl (N := 30) rfl rfl (fun C => ?_)
  refine JD.keep [0, 1] [(0, dP g 0), (1, dN n)] rfl (zf _ _ rfl rfl rfl (JD.keep [0, 1] [(0, dP g 0), (1, dN n)] rfl (JD.norm [.bx g 51 (.agg [dP g 0, .ov (.slice none 0 0)]), .sl (.slice none 0 0) 1 5 ([].map dU8)] rfl ?_)))
  refine jd_drawo 14 [(5, .q (dP g 0)), (6, .q (dP g 0)), (7, .q (dP g 1)), (8, .q (.ov (.slice none 0 0))), (9, .q (dI 0)), (10, .q (dI 0)), (11, .q (dN n)), (12, .q (dN (0 + n))), (13, .o (fun γ => [.sl (γ 8) 1 5 (List.replicate (0 + n) .any), .bx g 51 (.agg [dP g 0, .ov (.slice none 0 0)]), .sl (.slice none 0 0) 1 5 ([].map dU8)])), (14, .q (dP g 0)), (15, .q (dP g 0)), (16, .q (dP g 1)), (17, .q (.ov (.slice none 0 0))), (18, .q (dI 0))] [.bx g 51 (.agg [dP g 0, .ov (.slice none 0 0)]), .sl (.slice none 0 0) 1 5 ([].map dU8)] (Hn := fun γ => [.sl (γ 8) 1 5 (List.replicate (0 + n) .any), .bx g 51 (.agg [dP g 0, .ov (.slice none 0 0)]), .sl (.slice none 0 0) 1 5 ([].map dU8)]) mixed rfl rfl (by kernel_rfl) (by kernel_rfl) (by kernel_rfl) HSub.rfl' (fun _ => rfl) (fun γ => ⟨so_p rfl rfl rfl (zc rfl), so_p rfl rfl rfl (zU rfl), so_p rfl rfl rfl (zz rfl zaA rfl), so_p rfl rfl rfl (zY rfl (i := 0) rfl Tryd.isAgg39 rfl), so_p rfl rfl rfl (p_cap_nil rfl Tryd.runUnderlying39), so_p rfl rfl rfl (p_mul (c := (0 : Int)) rfl rfl (zas (by omega) (by omega))), so_p rfl rfl rfl (zc rfl), so_p rfl rfl rfl (zbd (c := ((0 + n : Nat) : Int)) rfl rfl (zas (by omega) (by omega))), so_o rfl rfl rfl rfl ((ef_makeNoZero (n := 0 + n) ext_mnz rfl (by kernel_rfl) (by omega)).mono (by rintro _ _ ⟨v, rfl, rfl⟩; exact ⟨v, rfl, rfl⟩)) (fun _ => HSub.lst 1 rfl), so_p rfl rfl rfl (zc rfl), so_p rfl rfl rfl (zU rfl), so_p rfl rfl rfl (zz rfl zaA rfl), so_p rfl rfl rfl (zY rfl (i := 0) rfl Tryd.isAgg39 rfl), so_p rfl rfl rfl (zap (n := 0) (j := 1) rfl rfl Tryd.runUnderlying39 rfl), trivial⟩) (fun γ => ?_)
  refine OpsD.keep [0, 1, 5, 6, 7, 8, 9, 10, 11, 12, 13, 14, 15, 16, 17, 18] [(0, dP g 0), (1, dN n), (5, dP g 0), (6, dP g 0), (7, dP g 1), (8, .ov (.slice none 0 0)), (9, dI 0), (10, dI 0), (11, dN n), (12, dN (0 + n)), (13, .ov (γ 8)), (14, dP g 0), (15, dP g 0), (16, dP g 1), (17, .ov (.slice none 0 0)), (18, dI 0)] rfl (za rfl rfl (p_slice_ownov (a := 0) (b := 0) (j := 0) rfl rfl rfl rfl rfl rfl Tryd.runUnderlying39 Tryd.sizeOf5 (Nat.zero_le _) (Nat.zero_le _)) (za rfl rfl (zd rfl) (zg rfl (ze (JD.keep [0, 4] [(0, dP g 0), (4, .ov (cut 1 (γ 8) 0 0))] rfl (zf _ _ rfl rfl rfl (JD.subH (HSub.turn (h' := .sl (cut 1 (γ 8) 0 0) 1 5 []) (Hp.front_blk _) (Hp.front (m := 0) (Nat.zero_le _))) (JD.norm [.sl (cut 1 (γ 8) 0 0) 1 5 ([].map dU8), .bx g 51 (.agg [dP g 0, .ov (.slice none 0 0)]), .sl (.slice none 0 0) 1 5 ([].map dU8)] rfl (JD.sub [(0, dP g 0), (4, .ov (cut 1 (γ 8) 0 0))] ⟨sk rfl, sk rfl, trivial⟩ (zb rfl (za rfl rfl (zc rfl) (za rfl rfl (zc rfl) ?_))))))))))))
  refine za rfl rfl (zU rfl) (za rfl rfl (zz rfl zaA rfl) (za rfl rfl (zY rfl (i := 1) rfl Tryd.isAgg39 rfl) (za rfl rfl (p_copy0 (i := 0) rfl rfl rfl Tryd.runUnderlying39 Tryd.sizeOf5) (zg rfl (ze (zb rfl (za rfl rfl (zc rfl) (za rfl rfl (zc rfl) (za rfl rfl (zU rfl) (za rfl rfl (zz rfl zaA rfl) (zi rfl rfl (zI (i := 1) (X' := .agg [dP g 0, .ov (cut 1 (γ 8) 0 0)]) rfl rfl rfl (CellD.o) Tryd.sizeOf39 rfl rfl rfl) ?_)))))))))))
  rintro _ _ ⟨rfl, rfl⟩
  refine OpsD.norm [.sl (cut 1 (γ 8) 0 0) 1 5 ([].map dU8), .bx g 51 (.agg [dP g 0, .ov (cut 1 (γ 8) 0 0)]), .sl (.slice none 0 0) 1 5 ([].map dU8)] rfl (zg rfl (PD.subH (HSub.perm (zl (i := 1) rfl)) (PD.norm [.bx g 51 (.agg [dP g 0, .ov (cut 1 (γ 8) 0 0)]), .sl (cut 1 (γ 8) 0 0) 1 5 ([].map dU8), .sl (.slice none 0 0) 1 5 ([].map dU8)] rfl ?_)))
  exact pd_endH Tryd.results42 .nil rfl (HSub.fst 2 rfl) ⟨(cut 1 (γ 8) 0 0), rfl, rfl⟩

set_option maxHeartbeats 4000000 in
set_option maxRecDepth 100000 in
theorem Grow0_c (g n : Nat) (p : Value) (hp : p = .pointer none ∨ p = .pointer (some ⟨g, 0, none⟩)) (hn : n ≤ 1000000000000) :
    CD Tryd.prog 31 [.bx g 51 (.agg [.v p, .ov (.slice none 0 0)]), .sl (.slice none 0 0) 1 5 ([].map dU8)] [dP g 0, dN n] (fun r H' => ∃ v', r = .tup [] ∧ H' = [.bx g 51 (.agg [dP g 0, .ov v']), .sl v' 1 5 ([].map dU8)]) := by
  refine zC Tryd.func31 rfl (N := 25) rfl rfl (fun C => ?_)
  refine JD.keep [0, 1] [(0, dP g 0), (1, dN n)] rfl (zf _ _ rfl rfl rfl (zb rfl (za rfl rfl (zc rfl) (zi rfl rfl (zr [.bx g 51 (.agg [.v p, .ov (.slice none 0 0)])] [.sl (.slice none 0 0) 1 5 ([].map dU8)] [] rfl rfl (.cons ArgC.id .nil) zm Tryd.call39 (copyCheck_c g p (.ov (.slice none 0 0)) hp) (.inl rfl)) ?_))))
  rintro _ _ ⟨_, ⟨rfl, rfl⟩, rfl⟩
  refine OpsD.norm [.bx g 51 (.agg [dP g 0, .ov (.slice none 0 0)]), .sl (.slice none 0 0) 1 5 ([].map dU8)] rfl (zg rfl (ze (zf _ _ rfl rfl rfl (zf _ _ rfl rfl rfl (zb rfl (za rfl rfl (zc rfl) (za rfl rfl (zbL rfl rfl rfl) (zg rfl (ze ?_)))))))))
  refine zw _ _ rfl rfl rfl rfl (fun hc1 => ?_) (fun hc1 => ?_)
  · replace hc1 := of_decide_eq_true hc1
    exfalso; omega
  · replace hc1 := of_decide_eq_false hc1
    refine zD rfl (ze (zf _ _ rfl rfl rfl (JD.keep [0, 1, 4, 5, 6, 7] [(0, dP g 0), (1, dN n), (4, dP g 0), (5, .tup []), (6, dN n), (7, dB (decide (((n : Nat) : Int) < (0 : Int))))] rfl (JD.norm [.bx g 51 (.agg [dP g 0, .ov (.slice none 0 0)]), .sl (.slice none 0 0) 1 5 ([].map dU8)] rfl ?_))))
    refine jd_draw 12 [(9, dP g 0, none), (10, dP g 0, none), (11, dP g 1, none), (12, .ov (.slice none 0 0), none), (13, dI 0, none), (14, dP g 0, none), (15, dP g 0, none), (16, dP g 1, none), (17, .ov (.slice none 0 0), none), (18, dI 0, none), (19, dI 0, none), (20, dN n, none)] [.bx g 51 (.agg [dP g 0, .ov (.slice none 0 0)]), .sl (.slice none 0 0) 1 5 ([].map dU8)] (Hn := [.bx g 51 (.agg [dP g 0, .ov (.slice none 0 0)]), .sl (.slice none 0 0) 1 5 ([].map dU8)]) mixed rfl rfl rfl rfl HSub.rfl' rfl ⟨sa_p rfl rfl rfl (zc rfl), sa_p rfl rfl rfl (zU rfl), sa_p rfl rfl rfl (zz rfl zaA rfl), sa_p rfl rfl rfl (zY rfl (i := 0) rfl Tryd.isAgg39 rfl), sa_p rfl rfl rfl (p_cap_nil rfl Tryd.runUnderlying39), sa_p rfl rfl rfl (zc rfl), sa_p rfl rfl rfl (zU rfl), sa_p rfl rfl rfl (zz rfl zaA rfl), sa_p rfl rfl rfl (zY rfl (i := 0) rfl Tryd.isAgg39 rfl), sa_p rfl rfl rfl (zap (n := 0) (j := 1) rfl rfl Tryd.runUnderlying39 rfl), sa_p rfl rfl rfl (zcT (c := (0 : Int)) rfl rfl (zas (by omega) (by omega))), sa_p rfl rfl rfl (zc rfl), trivial⟩ ?_
    refine OpsD.keep [0, 1, 4, 5, 6, 7, 9, 10, 11, 12, 13, 14, 15, 16, 17, 18, 19, 20] [(0, dP g 0), (1, dN n), (4, dP g 0), (5, .tup []), (6, dN n), (7, dB (decide (((n : Nat) : Int) < (0 : Int)))), (9, dP g 0), (10, dP g 0), (11, dP g 1), (12, .ov (.slice none 0 0)), (13, dI 0), (14, dP g 0), (15, dP g 0), (16, dP g 1), (17, .ov (.slice none 0 0)), (18, dI 0), (19, dI 0), (20, dN n)] rfl (za rfl rfl (zbL rfl rfl rfl) (zg rfl (ze (JD.keep [0, 1, 21] [(0, dP g 0), (1, dN n), (21, dB (decide ((0 : Int) < ((n : Nat) : Int))))] rfl ?_))))
    refine zw _ _ rfl rfl rfl rfl (fun hc2 => ?_) (fun hc2 => ?_)
    · replace hc2 := of_decide_eq_true hc2
      refine zb rfl (za rfl rfl (zc rfl) (za rfl rfl (zc rfl) (zi rfl rfl (zr [.bx g 51 (.agg [dP g 0, .ov (.slice none 0 0)]), .sl (.slice none 0 0) 1 5 ([].map dU8)] [] [] rfl rfl (.cons ArgC.id (.cons ArgC.id .nil)) zm Tryd.call42 (grow0_c g n (by omega)) (.inl rfl)) ?_)))
      rintro _ _ ⟨_, ⟨bv3, rfl, rfl⟩, rfl⟩
      refine OpsD.norm [.bx g 51 (.agg [dP g 0, .ov bv3]), .sl bv3 1 5 ([].map dU8)] rfl (zg rfl ?_)
      exact pd_endH Tryd.results31 .nil rfl (HSub.fst 2 rfl) ⟨bv3, rfl, rfl⟩
    · replace hc2 := of_decide_eq_false hc2
      refine zD rfl ?_
      exact pd_endH Tryd.results31 .nil rfl (HSub.fst 2 rfl) ⟨(.slice none 0 0), rfl, rfl⟩

set_option maxHeartbeats 4000000 in
set_option maxRecDepth 100000 in
theorem Join_c (l : List ByteArray) (sep : ByteArray) (hl : l.length ≤ 1000000) (hs : zaG l ≤ 1000000000) (h0 : 0 < sep.size) (h1 : sep.size ≤ 1000) :
    CD Tryd.prog 16 [] [.sh 1 (l.map D.s), .s sep] (isR (D.s (zcV sep l))) := by
  refine zC Tryd.func16 rfl (N := 75) rfl rfl (fun C => ?_)
  refine JD.keep [0, 1] [(0, .sh 1 (l.map D.s)), (1, .s sep)] rfl ?_
  refine JD.bd 0 rfl (fun bd0 => ?_)
  have nl0 := zcy bd0
  refine JD.bd 1 rfl (fun bd1 => ?_)
  have sz1 : sep.size ≤ 9223372036854775807 := bd1
  refine zf _ _ rfl rfl rfl (zb rfl (za rfl rfl (zd rfl) (zg rfl (ze (zf _ _ rfl rfl rfl (zf _ _ rfl rfl rfl (zb rfl (za rfl rfl (zc rfl) (za rfl rfl (zcA (n := l.length) rfl Tryd.runUnderlying40 (by simp only [lm, lc, ln])) (zg rfl (ze (zH _ rfl rfl (zf _ _ rfl rfl rfl (zb rfl (za rfl rfl (zR rfl rfl rfl) (za rfl rfl (zd rfl) (zg rfl (ze ?_))))))))))))))))))
  refine zw _ _ rfl rfl rfl rfl (fun hc1 => ?_) (fun hc1 => ?_)
  · replace hc1 := of_decide_eq_true hc1
    refine zf _ _ rfl rfl rfl (zb rfl (za rfl rfl (zd rfl) (zg rfl (ze (zx rfl (zn (zu ?_)))))))
    exact zp Tryd.results16 (.cons (zB (zq rfl) (((Cv.str (by first | decide | (unfold maxLen; omega)))).trans (Cv.eq (congrArg D.s (by exact joinB_none (by omega)))))) .nil) rfl HSub.none ⟨rfl, rfl⟩
  · replace hc1 := of_decide_eq_false hc1
    refine zf _ _ rfl rfl rfl (zb rfl (za rfl rfl (zR rfl rfl rfl) (za rfl rfl (zd rfl) (zg rfl (ze ?_)))))
    refine zw _ _ rfl rfl rfl rfl (fun hc2 => ?_) (fun hc2 => ?_)
    · replace hc2 := of_decide_eq_true hc2
      refine zf _ _ rfl rfl rfl (zb rfl (za rfl rfl (zc rfl) ?_))
      obtain ⟨x1, hx1⟩ := za6 l 0 (by (try simp only [ld]); omega)
      have hsk0 := zcf l 1
      have hsx0 : zaG (l.take 1) = zaG (l.take 0) + x1.size := zbr hx1
      refine za rfl rfl (zaM (k := 0) rfl rfl Tryd.runUnderlying40 Tryd.sizeOf9 (by first | rfl | omega) (zM hx1)) (za rfl rfl (zbb rfl Tryd.isAgg9 rfl) (za rfl rfl (zd rfl) (zg rfl (ze (JD.keep [0, 1, 4] [(0, .sh 1 (l.map D.s)), (1, .s sep), (4, .s x1)] rfl (zx rfl (zn (zu ?_))))))))
      exact zp Tryd.results16 (.cons (zB (zq rfl) (Cv.eq (congrArg D.s (by exact joinB_one hx1 (by omega))))) .nil) rfl HSub.none ⟨rfl, rfl⟩
    · replace hc2 := of_decide_eq_false hc2
      refine zD rfl (zG (ze (zf _ _ rfl rfl rfl (zb rfl (za rfl rfl (zd rfl) (zg rfl (ze (zf _ _ rfl rfl rfl (zf _ _ rfl rfl rfl (zb rfl (za rfl rfl (zc rfl) (za rfl rfl (zL rfl Tryd.runUnderlying9) (za rfl rfl (zbU rfl rfl rfl) (zg rfl (ze ?_)))))))))))))))
      refine zw _ _ rfl rfl rfl rfl (fun hc3 => ?_) (fun hc3 => ?_)
      · replace hc3 := of_decide_eq_true hc3
        refine zf _ _ rfl rfl rfl (zf _ _ rfl rfl rfl (zb rfl (za rfl rfl (zc rfl) (za rfl rfl (zL rfl Tryd.runUnderlying9) (za rfl rfl (zc rfl) (za rfl rfl (zcA (n := l.length) rfl Tryd.runUnderlying40 (by simp only [lm, lc, ln])) (za rfl rfl (zcT (c := ((l.length - 1 : Nat) : Int)) rfl rfl (zas (by omega) (by omega))) ?_)))))))
        obtain ⟨q, hq, hq1, hq2⟩ : ∃ q : Nat, 9223372036854775807 / (l.length - 1) = q ∧ 1001 ≤ q ∧ q ≤ 9223372036854775807 := ⟨_, rfl, (Nat.le_div_iff_mul_le (by omega)).2 (by omega), Nat.div_le_self _ _⟩
        refine za rfl rfl (p_quo (c := ((q : Nat) : Int)) rfl rfl (by omega) (zas (by rw [Int.tdiv_eq_ediv_of_nonneg (by omega), ← hq]; first | exact Int.natCast_ediv _ _ | exact (Int.natCast_ediv _ _).symm) (by omega))) (za rfl rfl (zag rfl rfl rfl) (zg rfl (ze (JD.keep [0, 1, 4, 5, 29] [(0, .sh 1 (l.map D.s)), (1, .s sep), (4, .v (.string ByteArray.empty)), (5, dI 0), (29, dB (decide (((q : Nat) : Int) ≤ ((sep.size : Nat) : Int))))] rfl ?_))))
        refine zw _ _ rfl rfl rfl rfl (fun hc4 => ?_) (fun hc4 => ?_)
        · replace hc4 := of_decide_eq_true hc4
          exfalso; omega
        · replace hc4 := of_decide_eq_false hc4
          refine zD rfl (ze (zb rfl (za rfl rfl (zc rfl) (za rfl rfl (zc rfl) (za rfl rfl (zL rfl Tryd.runUnderlying9) (za rfl rfl (zc rfl) (za rfl rfl (zcA (n := l.length) rfl Tryd.runUnderlying40 (by simp only [lm, lc, ln])) (za rfl rfl (zcT (c := ((l.length - 1 : Nat) : Int)) rfl rfl (zas (by omega) (by omega))) ?_))))))))
          obtain ⟨m, hm, hm1⟩ : ∃ m : Nat, sep.size * (l.length - 1) = m ∧ m ≤ 1000000000 := ⟨_, rfl, Nat.le_trans (Nat.mul_le_mul h1 (show (l.length - 1) ≤ 1000000 by omega)) (by decide)⟩
          refine za rfl rfl (p_mul (c := ((m : Nat) : Int)) rfl rfl (zas (by rw [← hm]; first | exact Int.natCast_mul _ _ | exact (Int.natCast_mul _ _).symm) (by omega))) (za rfl rfl (zbd (c := ((0 + m : Nat) : Int)) rfl rfl (zas (by omega) (by omega))) (za rfl rfl (zd rfl) (zg rfl (ze (JD.keep [0, 1, 4, 5] [(0, .sh 1 (l.map D.s)), (1, .s sep), (4, .v (.string ByteArray.empty)), (5, dN (0 + m))] rfl (zf _ _ rfl rfl rfl (zf _ _ rfl rfl rfl (zb rfl (za rfl rfl (zc rfl) (za rfl rfl (zcA (n := l.length) rfl Tryd.runUnderlying40 (by simp only [lm, lc, ln])) (za rfl rfl (zc rfl) (zg rfl (ze (zH _ rfl rfl ?_))))))))))))))
          refine zaX (fun (g : Nat × Nat) => [(0, .sh 1 (l.map D.s)), (1, .s sep), (4, .v (.string ByteArray.empty)), (39, .sh 1 (l.map D.s)), (40, dN l.length), (41, dN g.1), (5, dN g.2)]) (fun (g : Nat × Nat) => []) (fun (g : Nat × Nat) => (g.2 ≤ 1000000000 + zaG (l.take g.1))) (fun (g : Nat × Nat) => l.length - g.1) _ (0, 0 + m) rfl rfl ⟨sk rfl, sk rfl, sk rfl, sk rfl, sk rfl, sk rfl, sk rfl, trivial⟩ HSub.rfl' (by show _ ≤ _ + zaG (l.take 0); omega) ?_
          rintro ⟨k, n⟩ hn
          replace hn : n ≤ 1000000000 + zaG (l.take k) := hn
          refine JD.keep [0, 1, 4, 39, 40, 41, 5] [(0, .sh 1 (l.map D.s)), (1, .s sep), (4, .v (.string ByteArray.empty)), (39, .sh 1 (l.map D.s)), (40, dN l.length), (41, dN k), (5, dN n)] rfl (JD.norm [] rfl ?_)
          have hskk := zcf l k
          refine zf _ _ rfl rfl rfl (zb rfl (za rfl rfl (zbL rfl rfl rfl) (zg rfl (ze (zf _ _ rfl rfl rfl ?_)))))
          refine zw _ _ rfl rfl rfl rfl (fun hc5 => ?_) (fun hc5 => ?_)
          · replace hc5 := of_decide_eq_true hc5
            refine zD rfl (ze (zf _ _ rfl rfl rfl (zH _ rfl rfl (zf _ _ rfl rfl rfl (zb rfl ?_)))))
            obtain ⟨x2, hx2⟩ := za6 l k (by (try simp only [ld]); omega)
            have hsk := zcf l (k + 1)
            have hsx := zbr hx2
            refine za rfl rfl (zaM (k := k) rfl rfl Tryd.runUnderlying40 Tryd.sizeOf9 (by first | rfl | omega) (zM hx2)) (za rfl rfl (zbb rfl Tryd.isAgg9 rfl) (za rfl rfl (zd rfl) (zg rfl (ze (zf _ _ rfl rfl rfl (zf _ _ rfl rfl rfl (zb rfl (za rfl rfl (zc rfl) (za rfl rfl (zL rfl Tryd.runUnderlying9) (za rfl rfl (zc rfl) (za rfl rfl (zcT (c := ((9223372036854775807 - n : Nat) : Int)) rfl rfl (zas (by omega) (by omega))) (za rfl rfl (zbU rfl rfl rfl) (zg rfl (ze ?_))))))))))))))
            refine zw _ _ rfl rfl rfl rfl (fun hc6 => ?_) (fun hc6 => ?_)
            · replace hc6 := of_decide_eq_true hc6
              exfalso; omega
            · replace hc6 := of_decide_eq_false hc6
              refine zD rfl (ze (zb rfl (za rfl rfl (zc rfl) (za rfl rfl (zc rfl) (za rfl rfl (zL rfl Tryd.runUnderlying9) (za rfl rfl (zbd (c := ((n + x2.size : Nat) : Int)) rfl rfl (zas (by omega) (by omega))) (za rfl rfl (zd rfl) (zg rfl (zG (ze (zb rfl (za rfl rfl (zbd (c := ((k + 1 : Nat) : Int)) rfl rfl (zas (by omega) (by omega))) (za rfl rfl (zc rfl) (zg rfl ?_))))))))))))))
              exact zai (k + 1, n + x2.size) ⟨sk rfl, sk rfl, sk rfl, sk rfl, sk rfl, sk rfl, sk rfl, trivial⟩ HSub.rfl' (by have := zbr hx2; show _ ≤ 1000000000 + zaG (l.take (k + 1)); omega) (by omega)
          · replace hc5 := of_decide_eq_false hc5
            refine zaQ rfl (zaa (z7 (zO (ze (zf _ _ rfl rfl rfl (zb rfl (zi rfl rfl (za7 (zv := (.agg #[(.pointer none), (.slice none 0 0)])) (X := .agg [.v (.pointer none), .ov (.slice none 0 0)]) Tryd.zeroValue51 ⟨rfl, rfl, trivial⟩ ((Cv.vagg (by decide)).trans (Cv.agg (.cons Cv.rfl' (.cons (Cv.ov rfl) .nil))))) ?_)))))))
            rintro _ _ ⟨g7, rfl, rfl⟩
            refine OpsD.subH (HSub.nil 1 5) (OpsD.norm [.sl (.slice none 0 0) 1 5 ([].map dU8), .bx g7 51 (.agg [.v (.pointer none), .ov (.slice none 0 0)])] rfl (zg rfl (ze (zf _ _ rfl rfl rfl (zb rfl (za rfl rfl (zc rfl) (OpsD.subH (HSub.perm (zl (i := 1) rfl)) (OpsD.norm [.bx g7 51 (.agg [.v (.pointer none), .ov (.slice none 0 0)]), .sl (.slice none 0 0) 1 5 ([].map dU8)] rfl (zi rfl rfl (zr [.bx g7 51 (.agg [.v (.pointer none), .ov (.slice none 0 0)]), .sl (.slice none 0 0) 1 5 ([].map dU8)] [] [] rfl rfl (.cons ArgC.id (.cons ArgC.id .nil)) zm Tryd.call31 (Grow0_c g7 n (.pointer none) (.inl rfl) (by omega)) (.inl rfl)) ?_)))))))))
            rintro _ _ ⟨_, ⟨bv8, rfl, rfl⟩, rfl⟩
            refine OpsD.norm [.bx g7 51 (.agg [dP g7 0, .ov bv8]), .sl bv8 1 5 ([].map dU8)] rfl (zg rfl (ze (zf _ _ rfl rfl rfl (zb rfl (za rfl rfl (zc rfl) ?_)))))
            obtain ⟨x1, hx1⟩ := za6 l 0 (by (try simp only [ld]); omega)
            have hsk0 := zcf l 1
            have hsx0 : zaG (l.take 1) = zaG (l.take 0) + x1.size := zbr hx1
            refine za rfl rfl (zaM (k := 0) rfl rfl Tryd.runUnderlying40 Tryd.sizeOf9 (by first | rfl | omega) (zM hx1)) (za rfl rfl (zbb rfl Tryd.isAgg9 rfl) (zi rfl rfl (zr [.bx g7 51 (.agg [dP g7 0, .ov bv8]), .sl bv8 1 5 ([].map dU8)] [] [] rfl rfl (.cons ArgC.id (.cons ArgC.id .nil)) zm Tryd.call28 (zaU g7 (.pointer (some ⟨g7, 0, none⟩)) bv8 [] x1 (.inr rfl) (by (try simp only [la, lc, ln, zaE]); omega) (by first | decide | omega)) (.inl rfl)) ?_))
            rintro _ _ ⟨_, ⟨bv9, rfl, rfl⟩, rfl⟩
            refine OpsD.norm [.bx g7 51 (.agg [dP g7 0, .ov bv9]), .sl bv9 1 5 (([] ++ x1.data.toList).map dU8)] rfl (zg rfl (ze (JD.keep [0, 1, 4, 8] [(0, .sh 1 (l.map D.s)), (1, .s sep), (4, .v (.string ByteArray.empty)), (8, dP g7 0)] rfl (zf _ _ rfl rfl rfl (zf _ _ rfl rfl rfl (zb rfl (za rfl rfl (zc rfl) (za rfl rfl ((p_slice (a := 1) (b := l.length) rfl rfl rfl (by first | rfl | (show _ = _; omega)) (by first | rfl | exact List.length_map _) Tryd.runUnderlying40 Tryd.sizeOf9 (by omega) (by simp only [lm]; omega)).cv (Cv.eq (by rw [← List.map_take, ← List.map_drop, List.take_length]))) (za rfl rfl (zcA (n := (l.drop 1).length) rfl Tryd.runUnderlying40 (by simp only [lm, lc, ln])) (za rfl rfl (zc rfl) (zg rfl (ze (zH _ rfl rfl ?_)))))))))))))
            refine zaX (fun (g : Nat × Value × List UInt8) => [(1, .s sep), (4, .v (.string ByteArray.empty)), (8, dP g7 0), (63, .sh 1 ((l.drop 1).map D.s)), (64, dN ((l.drop 1).length)), (65, dN g.1)]) (fun (g : Nat × Value × List UInt8) => [.bx g7 51 (.agg [dP g7 0, .ov g.2.1]), .sl g.2.1 1 5 (g.2.2.map dU8)]) (fun (g : Nat × Value × List UInt8) => (g.2.2 = zbf sep (l.take (g.1 + 1))) ∧ (g.2.2.length ≤ (g.1 + 1) * 1000 + zaG (l.take (g.1 + 1))) ∧ (g.1 = 0 ∨ g.2.2 ≠ [])) (fun (g : Nat × Value × List UInt8) => l.length - g.1) _ (0, bv9, ([] ++ x1.data.toList)) rfl rfl ⟨sk rfl, sk rfl, sk rfl, sk rfl, sk rfl, sk rfl, trivial⟩ HSub.rfl' ⟨by rw [joinL_one hx1]; rfl, by have : zaG (l.take 1) = zaG (l.take 0) + _ := zbr hx1; show _ ≤ (0 + 1) * 1000 + zaG (l.take 1); (try simp only [la, ln, zaE]); omega, .inl rfl⟩ ?_
            rintro ⟨j, ov, bs⟩ ⟨hbs, hlb, hne⟩
            replace hbs : bs = zbf sep (l.take (j + 1)) := hbs
            replace hlb : bs.length ≤ (j + 1) * 1000 + zaG (l.take (j + 1)) := hlb
            replace hne : j = 0 ∨ bs ≠ [] := hne
            refine JD.keep [1, 4, 8, 63, 64, 65] [(1, .s sep), (4, .v (.string ByteArray.empty)), (8, dP g7 0), (63, .sh 1 ((l.drop 1).map D.s)), (64, dN ((l.drop 1).length)), (65, dN j)] rfl (JD.norm [.bx g7 51 (.agg [dP g7 0, .ov ov]), .sl ov 1 5 (bs.map dU8)] rfl ?_)
            have hld : (l.drop 1).length = l.length - 1 := List.length_drop
            refine zf _ _ rfl rfl rfl (zb rfl (za rfl rfl (zbL rfl rfl rfl) (zg rfl (ze (zf _ _ rfl rfl rfl ?_)))))
            refine zw _ _ rfl rfl rfl rfl (fun hc10 => ?_) (fun hc10 => ?_)
            · replace hc10 := of_decide_eq_true hc10
              refine zD rfl (ze (zf _ _ rfl rfl rfl (zH _ rfl rfl (zf _ _ rfl rfl rfl (zb rfl ?_)))))
              obtain ⟨x3, hx3⟩ := za6 (l.drop 1) j (by (try simp only [ld]); omega)
              have hsj := zcf l (j + 2)
              have hsx : zaG (l.take (j + 2)) = zaG (l.take (j + 1)) + x3.size := zbr (show l[j + 1]? = some x3 by have hx := hx3; rw [List.getElem?_drop, Nat.add_comm 1 j] at hx; exact hx)
              refine za rfl rfl (zaM (k := j) rfl rfl Tryd.runUnderlying40 Tryd.sizeOf9 (by first | rfl | omega) (zM hx3)) (za rfl rfl (zbb rfl Tryd.isAgg9 rfl) (za rfl rfl (zd rfl) (zg rfl (ze (zf _ _ rfl rfl rfl (zb rfl (za rfl rfl (zc rfl) (zi rfl rfl (zr [.bx g7 51 (.agg [dP g7 0, .ov ov]), .sl ov 1 5 (bs.map dU8)] [] [] rfl rfl (.cons ArgC.id (.cons ArgC.id .nil)) zm Tryd.call28 (zaU g7 (.pointer (some ⟨g7, 0, none⟩)) ov bs sep (.inr rfl) (by (try simp only [la, lc, ln, zaE]); omega) (by first | decide | omega)) (.inl rfl)) ?_))))))))
              rintro _ _ ⟨_, ⟨bv11, rfl, rfl⟩, rfl⟩
              refine OpsD.norm [.bx g7 51 (.agg [dP g7 0, .ov bv11]), .sl bv11 1 5 ((bs ++ sep.data.toList).map dU8)] rfl (zg rfl (ze (zb rfl (za rfl rfl (zc rfl) (zi rfl rfl (zr [.bx g7 51 (.agg [dP g7 0, .ov bv11]), .sl bv11 1 5 ((bs ++ sep.data.toList).map dU8)] [] [] rfl rfl (.cons ArgC.id (.cons ArgC.id .nil)) zm Tryd.call28 (zaU g7 (.pointer (some ⟨g7, 0, none⟩)) bv11 (bs ++ sep.data.toList) x3 (.inr rfl) (by (try simp only [la, lc, ln, zaE]); omega) (by first | decide | omega)) (.inl rfl)) ?_)))))
              rintro _ _ ⟨_, ⟨bv12, rfl, rfl⟩, rfl⟩
              refine OpsD.norm [.bx g7 51 (.agg [dP g7 0, .ov bv12]), .sl bv12 1 5 (((bs ++ sep.data.toList) ++ x3.data.toList).map dU8)] rfl (zg rfl (zG (ze (zb rfl (za rfl rfl (zbd (c := ((j + 1 : Nat) : Int)) rfl rfl (zas (by omega) (by omega))) (za rfl rfl (zc rfl) (zg rfl ?_)))))))
              exact zai (j + 1, bv12, ((bs ++ sep.data.toList) ++ x3.data.toList)) ⟨sk rfl, sk rfl, sk rfl, sk rfl, sk rfl, sk rfl, trivial⟩ HSub.rfl' ⟨by have hx := hx3; rw [List.getElem?_drop, Nat.add_comm 1 j] at hx; rw [joinL_take hx, hbs], by have hx := hx3; rw [List.getElem?_drop, Nat.add_comm 1 j] at hx; show _ ≤ (j + 1 + 1) * 1000 + zaG (l.take (j + 2)); (try simp only [la, zaE]); omega, .inr (by intro e; have := congrArg List.length e; simp only [la, zaE, ln] at this; omega)⟩ (by omega)
            · replace hc10 := of_decide_eq_false hc10
              refine zaQ rfl (zaa (z7 (zO (ze (zf _ _ rfl rfl rfl (zb rfl (zi rfl rfl (zr [.bx g7 51 (.agg [dP g7 0, .ov ov]), .sl ov 1 5 (bs.map dU8)] [] [] rfl rfl (.cons ArgC.id .nil) zm Tryd.call30 (String_c g7 (.pointer (some ⟨g7, 0, none⟩)) ov bs (hne.resolve_left (by omega))) (.inl rfl)) ?_)))))))
              rintro _ _ ⟨_, ⟨rfl, rfl⟩, rfl⟩
              refine OpsD.norm [] rfl (za rfl rfl (zd rfl) (zg rfl (ze (zx rfl ?_))))
              exact zp Tryd.results16 (.cons (zB (zq rfl) (Cv.eq (congrArg D.s (by exact joinB_all hbs (by omega))))) .nil) rfl HSub.none ⟨rfl, rfl⟩
      · replace hc3 := of_decide_eq_false hc3
        exfalso; omega
end Lp
