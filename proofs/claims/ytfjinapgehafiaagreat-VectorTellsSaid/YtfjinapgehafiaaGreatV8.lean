/- Walks, printed by a program of mine. -/
import Derived.Test.YtfjinapgehafiaaGreatV4
set_option linter.unusedSimpArgs false
set_option linter.unusedVariables false
set_option maxHeartbeats 4000000
set_option maxRecDepth 100000
namespace Lp
open Go Go.RowKit Go.Proofs

namespace HdYtfjinapgehafiaaGreatV8
theorem cv_21_205 {a : Int} (h : 0 ≤ a ∧ a ≤ 4294967295) : ∀ w, (convert 21 205 (.int .i32 a)).run Tryz.prog w = .ok (.int .u32 a) w := fun w => by
  have e : IntKind.u32.wrap a = a := by simp [IntKind.wrap, IntKind.bits, IntKind.signed]; omega
  simp [convert, run_underlying (show Tryz.prog.underlying 21 = some _ by kernel_rfl), run_underlying (show Tryz.prog.underlying 205 = some _ by kernel_rfl), Conv.intToInt, e]
theorem zaW (b o : Nat) : ∀ w, (Instr.fieldAt 186 (.pointer (some ⟨b, o, none⟩)) 1).run Tryz.prog w = .ok (.pointer (some ⟨b, o + 1, none⟩)) w := fun _ => by kernel_rfl
theorem zcH : ∃ i, Tryz.prog.info? 5 = some i ∧ i.zero = some (.int .u8 0) ∧ i.size = 1 ∧ i.bytes = 1 := zaS (by kernel_rfl)
theorem zb5 : Tryz.prog.underlying 184 = some (.slice 5) := by kernel_rfl
end HdYtfjinapgehafiaaGreatV8
open HdYtfjinapgehafiaaGreatV8

theorem zaX (a : Nat) : ∀ w, (convert 21 5 (.int .i32 (a : Int))).run Tryz.prog w = .ok (.int .u8 ((a % 256 : Nat) : Int)) w := fun w => by
  have e : IntKind.u8.wrap (a : Int) = ((a % 256 : Nat) : Int) := by simp [IntKind.wrap, IntKind.bits, IntKind.signed]
  simp [convert, run_underlying (show Tryz.prog.underlying 21 = some _ by kernel_rfl), run_underlying (show Tryz.prog.underlying 5 = some _ by kernel_rfl), Conv.intToInt, e]

theorem appNA_c (v : Value) (bs : List UInt8) (x : Nat) (h1 : 127 < x) (h2 : x < 2147483648) (hl : bs.length ≤ 1000000000000) :
    CD Tryz.prog 209 [.sl v 1 5 (bs.map dU8)] [.ov v, .v (.int .i32 ((x : Nat) : Int))] (fun r H' => ∃ v', r = .ov v' ∧ H' = [.sl v' 1 5 ((bs ++ encR x).map dU8)]) := by
  refine zy Tryz.func209 rfl (N := 78) rfl rfl (fun C => ?_)
  refine jk [0, 1] rfl (jT rfl (oR 1 rfl (oZ rfl (jT rfl (oR 1 rfl (oP rfl (zaM rfl (c := ((x : Nat) : Int)) (cv_21_205 (by omega))) (oR 1 rfl (oZ rfl (jB rfl (jT rfl (oR 1 rfl (oP rfl (zaK rfl rfl rfl) (oR 1 rfl (oZ rfl ?_))))))))))))))
  refine jD rfl (fun hc1 => ?_) (fun hc1 => ?_)
  · skip
    refine jT rfl (oR 2 rfl (oP rfl (zcx (a := x) (n := 6) (m := 64) rfl rfl (by decide) (by decide)) (oP rfl (zaM rfl (c := (((x / 64) % 256 : Nat) : Int)) (zaX _)) (oP rfl (zcy (a := 192) (b := (x / 64) % 256) rfl rfl (by decide) (by omega) (or192 _ (by omega))) (oR 1 rfl (oP rfl (zaM rfl (c := ((x % 256 : Nat) : Int)) (zaX _)) (oP rfl (zct (a := x % 256) (b := 63) rfl rfl (by omega) (by decide) (zdG _)) (oP rfl (zcy (a := 128) (b := (x % 256) % 64) rfl rfl (by decide) (by omega) (zdv _ (by omega))) (oE rfl (zJ [.tmp 18, .tmp 22] rfl rfl (.cons (CellD.v rfl) (.cons (CellD.v rfl) .nil)) rfl Tryz.runUnderlying184 Tryz.sizeOf5 Tryz.zeroValue5 rfl rfl rfl rfl) ?_)))))))))
    rintro _ _ ⟨g2, rfl, rfl⟩
    refine OpsD.subH (HSub.turn (h' := .sl (vS g2 2 2) 1 5 ([(UInt8.ofNat (192 + ((x / 64) % 256))), (UInt8.ofNat (128 + ((x % 256) % 64)))].map dU8)) rfl (Hp.cvs_sl (.cons (Cv.eq (zcl rfl (by omega))) (.cons (Cv.eq (zcl rfl (by omega))) .nil)))) (oE rfl (zK (f := dU8) (l := bs) (l' := [(UInt8.ofNat (192 + ((x / 64) % 256))), (UInt8.ofNat (128 + ((x % 256) % 64)))]) (i := 1) rfl rfl rfl (SrcD.own (j := 0) rfl rfl) zb5 zcH rfl rfl (by unfold maxLen; (try simp only [la, lc, ln, lm, lt', ld, ls, lr]); omega) (by (try simp only [la, lc, ln, lm, lt', ld, ls, lr]); omega)) ?_)
    rintro _ _ ⟨v3, rfl, rfl⟩
    refine on rfl (oR 1 rfl (oZ rfl (jk [4] rfl (zs rfl (zi (PD.subH (HSub.perm (zk (i := 1) rfl)) (pn rfl (PD.norm [.sl v3 1 5 ((bs ++ encR x).map dU8), .sl (vS g2 2 2) 1 5 ([(UInt8.ofNat (192 + ((x / 64) % 256))), (UInt8.ofNat (128 + ((x % 256) % 64)))].map dU8)] (by first | (exfalso; omega) | skip; unfold encR; first | rw [if_neg (by omega), if_pos (by omega)] | rw [if_neg (by omega), if_neg (by omega), if_pos (by omega)] | rw [if_neg (by omega), if_neg (by omega), if_neg (by omega), if_pos (by omega)] | rw [if_neg (by omega), if_neg (by omega), if_neg (by omega), if_neg (by omega)]) ?_))))))))
    exact zj Tryz.results209 (.cons (zf rfl) .nil) rfl (HSub.fst 1 rfl) ⟨v3, rfl, rfl⟩
  · skip
    refine jS rfl (jT rfl (oR 1 rfl (oP rfl (zL rfl rfl rfl) (oR 1 rfl (oZ rfl ?_)))))
    refine jD rfl (fun hc4 => ?_) (fun hc4 => ?_)
    · skip
      refine zq rfl (zc ?_)
      refine jD rfl (fun hc5 => ?_) (fun hc5 => ?_)
      · skip
        refine jT rfl (oR 2 rfl (oP rfl (zcx (a := x) (n := 12) (m := 4096) rfl rfl (by decide) (by decide)) (oP rfl (zaM rfl (c := (((x / 4096) % 256 : Nat) : Int)) (zaX _)) (oP rfl (zcy (a := 224) (b := (x / 4096) % 256) rfl rfl (by decide) (by omega) (or224 _ (by omega))) (oR 1 rfl (oP rfl (zcx (a := x) (n := 6) (m := 64) rfl rfl (by decide) (by decide)) (oP rfl (zaM rfl (c := (((x / 64) % 256 : Nat) : Int)) (zaX _)) (oP rfl (zct (a := (x / 64) % 256) (b := 63) rfl rfl (by omega) (by decide) (zdG _)) (oP rfl (zcy (a := 128) (b := ((x / 64) % 256) % 64) rfl rfl (by decide) (by omega) (zdv _ (by omega))) (oR 1 rfl (oP rfl (zaM rfl (c := ((x % 256 : Nat) : Int)) (zaX _)) (oP rfl (zct (a := x % 256) (b := 63) rfl rfl (by omega) (by decide) (zdG _)) (oP rfl (zcy (a := 128) (b := (x % 256) % 64) rfl rfl (by decide) (by omega) (zdv _ (by omega))) (oE rfl (zJ [.tmp 38, .tmp 43, .tmp 47] rfl rfl (.cons (CellD.v rfl) (.cons (CellD.v rfl) (.cons (CellD.v rfl) .nil))) rfl Tryz.runUnderlying184 Tryz.sizeOf5 Tryz.zeroValue5 rfl rfl rfl rfl) ?_))))))))))))))
        rintro _ _ ⟨g6, rfl, rfl⟩
        refine OpsD.subH (HSub.turn (h' := .sl (vS g6 3 3) 1 5 ([(UInt8.ofNat (224 + ((x / 4096) % 256))), (UInt8.ofNat (128 + (((x / 64) % 256) % 64))), (UInt8.ofNat (128 + ((x % 256) % 64)))].map dU8)) rfl (Hp.cvs_sl (.cons (Cv.eq (zcl rfl (by omega))) (.cons (Cv.eq (zcl rfl (by omega))) (.cons (Cv.eq (zcl rfl (by omega))) .nil))))) (oE rfl (zK (f := dU8) (l := bs) (l' := [(UInt8.ofNat (224 + ((x / 4096) % 256))), (UInt8.ofNat (128 + (((x / 64) % 256) % 64))), (UInt8.ofNat (128 + ((x % 256) % 64)))]) (i := 1) rfl rfl rfl (SrcD.own (j := 0) rfl rfl) zb5 zcH rfl rfl (by unfold maxLen; (try simp only [la, lc, ln, lm, lt', ld, ls, lr]); omega) (by (try simp only [la, lc, ln, lm, lt', ld, ls, lr]); omega)) ?_)
        rintro _ _ ⟨v7, rfl, rfl⟩
        refine on rfl (oR 1 rfl (oZ rfl (jk [4] rfl (zs rfl (zi (PD.subH (HSub.perm (zk (i := 1) rfl)) (pn rfl (PD.norm [.sl v7 1 5 ((bs ++ encR x).map dU8), .sl (vS g6 3 3) 1 5 ([(UInt8.ofNat (224 + ((x / 4096) % 256))), (UInt8.ofNat (128 + (((x / 64) % 256) % 64))), (UInt8.ofNat (128 + ((x % 256) % 64)))].map dU8)] (by first | (exfalso; omega) | skip; unfold encR; first | rw [if_neg (by omega), if_pos (by omega)] | rw [if_neg (by omega), if_neg (by omega), if_pos (by omega)] | rw [if_neg (by omega), if_neg (by omega), if_neg (by omega), if_pos (by omega)] | rw [if_neg (by omega), if_neg (by omega), if_neg (by omega), if_neg (by omega)]) ?_))))))))
        exact zj Tryz.results209 (.cons (zf rfl) .nil) rfl (HSub.fst 1 rfl) ⟨v7, rfl, rfl⟩
      · skip
        refine jS rfl (jk [0, 1, 4, 5] rfl ?_)
        refine zab 50 ((decide ((65535 : Int) < ((x : Nat) : Int)) && decide (((x : Nat) : Int) ≤ (1114111 : Int)))) [.sl v 1 5 (bs.map dU8)] (fun _ hQ8 => ?_) ?_
        · skip
          by_cases hg9 : (65535 : Int) < ((x : Nat) : Int)
          · skip
            refine za rfl (oR 1 rfl (oP rfl (zaz rfl rfl (decide_eq_true hg9)) (oR 2 rfl (oG rfl (zaK rfl rfl rfl) (oR 2 rfl (zg rfl ?_))))))
            exact PD.sub ((50, dB (decide ((65535 : Int) < ((x : Nat) : Int)) && decide (((x : Nat) : Int) ≤ (1114111 : Int)))) :: [(0, .ov v), (1, .v (.int .i32 ((x : Nat) : Int))), (4, dZ), (5, .v (.int .u32 ((x : Nat) : Int)))]) ⟨sc rfl (Cv.eq (congrArg (fun b => D.v (.bool b)) (by first | (simp [hc1, hc5, hg9]; done) | (simp_all; done)))), sk rfl, sk rfl, sk rfl, sk rfl, trivial⟩ hQ8
          · skip
            refine za rfl (oR 1 rfl (oP rfl (zaz rfl rfl (decide_eq_false hg9)) (oR 5 rfl (zg rfl ?_))))
            exact PD.sub ((50, dB (decide ((65535 : Int) < ((x : Nat) : Int)) && decide (((x : Nat) : Int) ≤ (1114111 : Int)))) :: [(0, .ov v), (1, .v (.int .i32 ((x : Nat) : Int))), (4, dZ), (5, .v (.int .u32 ((x : Nat) : Int)))]) ⟨sc rfl (Cv.eq (congrArg (fun b => D.v (.bool b)) (by first | (simp [hc1, hc5, hg9]; done) | (simp_all; done)))), sk rfl, sk rfl, sk rfl, sk rfl, trivial⟩ hQ8
        · skip
          refine zc ?_
          refine jC rfl (fun hc10 => ?_) (fun hc10 => ?_)
          · simp only [bA, bB, bC, bD, bE, bF, bG, bH, bI, bJ] at hc10
            refine jT rfl (oR 2 rfl (oP rfl (zcx (a := x) (n := 18) (m := 262144) rfl rfl (by decide) (by decide)) (oP rfl (zaM rfl (c := (((x / 262144) % 256 : Nat) : Int)) (zaX _)) (oP rfl (zcy (a := 240) (b := (x / 262144) % 256) rfl rfl (by decide) (by omega) (or240 _ (by omega))) (oR 1 rfl (oP rfl (zcx (a := x) (n := 12) (m := 4096) rfl rfl (by decide) (by decide)) (oP rfl (zaM rfl (c := (((x / 4096) % 256 : Nat) : Int)) (zaX _)) (oP rfl (zct (a := (x / 4096) % 256) (b := 63) rfl rfl (by omega) (by decide) (zdG _)) (oP rfl (zcy (a := 128) (b := ((x / 4096) % 256) % 64) rfl rfl (by decide) (by omega) (zdv _ (by omega))) (oR 1 rfl (oP rfl (zcx (a := x) (n := 6) (m := 64) rfl rfl (by decide) (by decide)) (oP rfl (zaM rfl (c := (((x / 64) % 256 : Nat) : Int)) (zaX _)) (oP rfl (zct (a := (x / 64) % 256) (b := 63) rfl rfl (by omega) (by decide) (zdG _)) (oP rfl (zcy (a := 128) (b := ((x / 64) % 256) % 64) rfl rfl (by decide) (by omega) (zdv _ (by omega))) (oR 1 rfl (oP rfl (zaM rfl (c := ((x % 256 : Nat) : Int)) (zaX _)) (oP rfl (zct (a := x % 256) (b := 63) rfl rfl (by omega) (by decide) (zdG _)) (oP rfl (zcy (a := 128) (b := (x % 256) % 64) rfl rfl (by decide) (by omega) (zdv _ (by omega))) ?_))))))))))))))))))
            refine oE rfl (zJ [.tmp 61, .tmp 66, .tmp 71, .tmp 75] rfl rfl (.cons (CellD.v rfl) (.cons (CellD.v rfl) (.cons (CellD.v rfl) (.cons (CellD.v rfl) .nil)))) rfl Tryz.runUnderlying184 Tryz.sizeOf5 Tryz.zeroValue5 rfl rfl rfl rfl) ?_
            rintro _ _ ⟨g11, rfl, rfl⟩
            refine OpsD.subH (HSub.turn (h' := .sl (vS g11 4 4) 1 5 ([(UInt8.ofNat (240 + ((x / 262144) % 256))), (UInt8.ofNat (128 + (((x / 4096) % 256) % 64))), (UInt8.ofNat (128 + (((x / 64) % 256) % 64))), (UInt8.ofNat (128 + ((x % 256) % 64)))].map dU8)) rfl (Hp.cvs_sl (.cons (Cv.eq (zcl rfl (by omega))) (.cons (Cv.eq (zcl rfl (by omega))) (.cons (Cv.eq (zcl rfl (by omega))) (.cons (Cv.eq (zcl rfl (by omega))) .nil)))))) (oE rfl (zK (f := dU8) (l := bs) (l' := [(UInt8.ofNat (240 + ((x / 262144) % 256))), (UInt8.ofNat (128 + (((x / 4096) % 256) % 64))), (UInt8.ofNat (128 + (((x / 64) % 256) % 64))), (UInt8.ofNat (128 + ((x % 256) % 64)))]) (i := 1) rfl rfl rfl (SrcD.own (j := 0) rfl rfl) zb5 zcH rfl rfl (by unfold maxLen; (try simp only [la, lc, ln, lm, lt', ld, ls, lr]); omega) (by (try simp only [la, lc, ln, lm, lt', ld, ls, lr]); omega)) ?_)
            rintro _ _ ⟨v12, rfl, rfl⟩
            refine on rfl (oR 1 rfl (oZ rfl (jk [4] rfl (zs rfl (zi (PD.subH (HSub.perm (zk (i := 1) rfl)) (pn rfl (PD.norm [.sl v12 1 5 ((bs ++ encR x).map dU8), .sl (vS g11 4 4) 1 5 ([(UInt8.ofNat (240 + ((x / 262144) % 256))), (UInt8.ofNat (128 + (((x / 4096) % 256) % 64))), (UInt8.ofNat (128 + (((x / 64) % 256) % 64))), (UInt8.ofNat (128 + ((x % 256) % 64)))].map dU8)] (by first | (exfalso; omega) | skip; unfold encR; first | rw [if_neg (by omega), if_pos (by omega)] | rw [if_neg (by omega), if_neg (by omega), if_pos (by omega)] | rw [if_neg (by omega), if_neg (by omega), if_neg (by omega), if_pos (by omega)] | rw [if_neg (by omega), if_neg (by omega), if_neg (by omega), if_neg (by omega)]) ?_))))))))
            exact zj Tryz.results209 (.cons (zf rfl) .nil) rfl (HSub.fst 1 rfl) ⟨v12, rfl, rfl⟩
          · simp only [bA, bB, bC, bD, bE, bF, bG, bH, bI, bJ] at hc10
            refine jT rfl (oR 1 rfl (oE rfl (zJ [.const (.int .u8 239), .const (.int .u8 191), .const (.int .u8 189)] rfl rfl (.cons (CellD.v rfl) (.cons (CellD.v rfl) (.cons (CellD.v rfl) .nil))) rfl Tryz.runUnderlying184 Tryz.sizeOf5 Tryz.zeroValue5 rfl rfl rfl rfl) ?_))
            rintro _ _ ⟨g13, rfl, rfl⟩
            refine oE rfl (zK (f := dU8) (l := bs) (l' := [(239 : UInt8), (191 : UInt8), (189 : UInt8)]) (i := 1) rfl rfl rfl (SrcD.own (j := 0) rfl rfl) zb5 zcH rfl rfl (by unfold maxLen; (try simp only [la, lc, ln, lm, lt', ld, ls, lr]); omega) (by (try simp only [la, lc, ln, lm, lt', ld, ls, lr]); omega)) ?_
            rintro _ _ ⟨v14, rfl, rfl⟩
            refine on rfl (oR 1 rfl (oZ rfl (zs rfl (zi (PD.subH (HSub.perm (zk (i := 1) rfl)) (pn rfl (PD.norm [.sl v14 1 5 ((bs ++ encR x).map dU8), .sl (vS g13 3 3) 1 5 ([.v (.int .u8 239), .v (.int .u8 191), .v (.int .u8 189)])] (by first | (exfalso; omega) | skip; unfold encR; first | rw [if_neg (by omega), if_pos (by omega)] | rw [if_neg (by omega), if_neg (by omega), if_pos (by omega)] | rw [if_neg (by omega), if_neg (by omega), if_neg (by omega), if_pos (by omega)] | rw [if_neg (by omega), if_neg (by omega), if_neg (by omega), if_neg (by omega)]) ?_)))))))
            exact zj Tryz.results209 (.cons (zf rfl) .nil) rfl (HSub.fst 1 rfl) ⟨v14, rfl, rfl⟩
    · skip
      refine jk [0, 1, 4, 5] rfl ?_
      refine zab 25 ((decide ((57343 : Int) < ((x : Nat) : Int)) && decide (((x : Nat) : Int) ≤ (65535 : Int)))) [.sl v 1 5 (bs.map dU8)] (fun _ hQ15 => ?_) ?_
      · skip
        by_cases hg16 : (57343 : Int) < ((x : Nat) : Int)
        · skip
          refine za rfl (oR 1 rfl (oP rfl (zL rfl rfl (decide_eq_true hg16)) (oR 2 rfl (oG rfl (zaK rfl rfl rfl) (oR 2 rfl (zg rfl ?_))))))
          exact PD.sub ((25, dB (decide ((57343 : Int) < ((x : Nat) : Int)) && decide (((x : Nat) : Int) ≤ (65535 : Int)))) :: [(0, .ov v), (1, .v (.int .i32 ((x : Nat) : Int))), (4, dZ), (5, .v (.int .u32 ((x : Nat) : Int)))]) ⟨sc rfl (Cv.eq (congrArg (fun b => D.v (.bool b)) (by first | (simp [hc1, hc4, hg16]; done) | (simp_all; done)))), sk rfl, sk rfl, sk rfl, sk rfl, trivial⟩ hQ15
        · skip
          refine za rfl (oR 1 rfl (oP rfl (zL rfl rfl (decide_eq_false hg16)) (oR 5 rfl (zg rfl ?_))))
          exact PD.sub ((25, dB (decide ((57343 : Int) < ((x : Nat) : Int)) && decide (((x : Nat) : Int) ≤ (65535 : Int)))) :: [(0, .ov v), (1, .v (.int .i32 ((x : Nat) : Int))), (4, dZ), (5, .v (.int .u32 ((x : Nat) : Int)))]) ⟨sc rfl (Cv.eq (congrArg (fun b => D.v (.bool b)) (by first | (simp [hc1, hc4, hg16]; done) | (simp_all; done)))), sk rfl, sk rfl, sk rfl, sk rfl, trivial⟩ hQ15
      · skip
        refine zc ?_
        refine jC rfl (fun hc17 => ?_) (fun hc17 => ?_)
        · simp only [bA, bB, bC, bD, bE, bF, bG, bH, bI, bJ] at hc17
          refine jT rfl (oR 2 rfl (oP rfl (zcx (a := x) (n := 12) (m := 4096) rfl rfl (by decide) (by decide)) (oP rfl (zaM rfl (c := (((x / 4096) % 256 : Nat) : Int)) (zaX _)) (oP rfl (zcy (a := 224) (b := (x / 4096) % 256) rfl rfl (by decide) (by omega) (or224 _ (by omega))) (oR 1 rfl (oP rfl (zcx (a := x) (n := 6) (m := 64) rfl rfl (by decide) (by decide)) (oP rfl (zaM rfl (c := (((x / 64) % 256 : Nat) : Int)) (zaX _)) (oP rfl (zct (a := (x / 64) % 256) (b := 63) rfl rfl (by omega) (by decide) (zdG _)) (oP rfl (zcy (a := 128) (b := ((x / 64) % 256) % 64) rfl rfl (by decide) (by omega) (zdv _ (by omega))) (oR 1 rfl (oP rfl (zaM rfl (c := ((x % 256 : Nat) : Int)) (zaX _)) (oP rfl (zct (a := x % 256) (b := 63) rfl rfl (by omega) (by decide) (zdG _)) (oP rfl (zcy (a := 128) (b := (x % 256) % 64) rfl rfl (by decide) (by omega) (zdv _ (by omega))) (oE rfl (zJ [.tmp 38, .tmp 43, .tmp 47] rfl rfl (.cons (CellD.v rfl) (.cons (CellD.v rfl) (.cons (CellD.v rfl) .nil))) rfl Tryz.runUnderlying184 Tryz.sizeOf5 Tryz.zeroValue5 rfl rfl rfl rfl) ?_))))))))))))))
          rintro _ _ ⟨g18, rfl, rfl⟩
          refine OpsD.subH (HSub.turn (h' := .sl (vS g18 3 3) 1 5 ([(UInt8.ofNat (224 + ((x / 4096) % 256))), (UInt8.ofNat (128 + (((x / 64) % 256) % 64))), (UInt8.ofNat (128 + ((x % 256) % 64)))].map dU8)) rfl (Hp.cvs_sl (.cons (Cv.eq (zcl rfl (by omega))) (.cons (Cv.eq (zcl rfl (by omega))) (.cons (Cv.eq (zcl rfl (by omega))) .nil))))) (oE rfl (zK (f := dU8) (l := bs) (l' := [(UInt8.ofNat (224 + ((x / 4096) % 256))), (UInt8.ofNat (128 + (((x / 64) % 256) % 64))), (UInt8.ofNat (128 + ((x % 256) % 64)))]) (i := 1) rfl rfl rfl (SrcD.own (j := 0) rfl rfl) zb5 zcH rfl rfl (by unfold maxLen; (try simp only [la, lc, ln, lm, lt', ld, ls, lr]); omega) (by (try simp only [la, lc, ln, lm, lt', ld, ls, lr]); omega)) ?_)
          rintro _ _ ⟨v19, rfl, rfl⟩
          refine on rfl (oR 1 rfl (oZ rfl (jk [4] rfl (zs rfl (zi (PD.subH (HSub.perm (zk (i := 1) rfl)) (pn rfl (PD.norm [.sl v19 1 5 ((bs ++ encR x).map dU8), .sl (vS g18 3 3) 1 5 ([(UInt8.ofNat (224 + ((x / 4096) % 256))), (UInt8.ofNat (128 + (((x / 64) % 256) % 64))), (UInt8.ofNat (128 + ((x % 256) % 64)))].map dU8)] (by first | (exfalso; omega) | skip; unfold encR; first | rw [if_neg (by omega), if_pos (by omega)] | rw [if_neg (by omega), if_neg (by omega), if_pos (by omega)] | rw [if_neg (by omega), if_neg (by omega), if_neg (by omega), if_pos (by omega)] | rw [if_neg (by omega), if_neg (by omega), if_neg (by omega), if_neg (by omega)]) ?_))))))))
          exact zj Tryz.results209 (.cons (zf rfl) .nil) rfl (HSub.fst 1 rfl) ⟨v19, rfl, rfl⟩
        · simp only [bA, bB, bC, bD, bE, bF, bG, bH, bI, bJ] at hc17
          refine jS rfl (jk [0, 1, 4, 5] rfl ?_)
          refine zab 50 ((decide ((65535 : Int) < ((x : Nat) : Int)) && decide (((x : Nat) : Int) ≤ (1114111 : Int)))) [.sl v 1 5 (bs.map dU8)] (fun _ hQ20 => ?_) ?_
          · skip
            by_cases hg21 : (65535 : Int) < ((x : Nat) : Int)
            · skip
              refine za rfl (oR 1 rfl (oP rfl (zaz rfl rfl (decide_eq_true hg21)) (oR 2 rfl (oG rfl (zaK rfl rfl rfl) (oR 2 rfl (zg rfl ?_))))))
              exact PD.sub ((50, dB (decide ((65535 : Int) < ((x : Nat) : Int)) && decide (((x : Nat) : Int) ≤ (1114111 : Int)))) :: [(0, .ov v), (1, .v (.int .i32 ((x : Nat) : Int))), (4, dZ), (5, .v (.int .u32 ((x : Nat) : Int)))]) ⟨sc rfl (Cv.eq (congrArg (fun b => D.v (.bool b)) (by first | (simp [hc1, hc4, hg21]; done) | (simp_all; done)))), sk rfl, sk rfl, sk rfl, sk rfl, trivial⟩ hQ20
            · skip
              refine za rfl (oR 1 rfl (oP rfl (zaz rfl rfl (decide_eq_false hg21)) (oR 5 rfl (zg rfl ?_))))
              exact PD.sub ((50, dB (decide ((65535 : Int) < ((x : Nat) : Int)) && decide (((x : Nat) : Int) ≤ (1114111 : Int)))) :: [(0, .ov v), (1, .v (.int .i32 ((x : Nat) : Int))), (4, dZ), (5, .v (.int .u32 ((x : Nat) : Int)))]) ⟨sc rfl (Cv.eq (congrArg (fun b => D.v (.bool b)) (by first | (simp [hc1, hc4, hg21]; done) | (simp_all; done)))), sk rfl, sk rfl, sk rfl, sk rfl, trivial⟩ hQ20
          · skip
            refine zc ?_
            refine jC rfl (fun hc22 => ?_) (fun hc22 => ?_)
            · simp only [bA, bB, bC, bD, bE, bF, bG, bH, bI, bJ] at hc22
              refine jT rfl (oR 2 rfl (oP rfl (zcx (a := x) (n := 18) (m := 262144) rfl rfl (by decide) (by decide)) (oP rfl (zaM rfl (c := (((x / 262144) % 256 : Nat) : Int)) (zaX _)) (oP rfl (zcy (a := 240) (b := (x / 262144) % 256) rfl rfl (by decide) (by omega) (or240 _ (by omega))) (oR 1 rfl (oP rfl (zcx (a := x) (n := 12) (m := 4096) rfl rfl (by decide) (by decide)) (oP rfl (zaM rfl (c := (((x / 4096) % 256 : Nat) : Int)) (zaX _)) (oP rfl (zct (a := (x / 4096) % 256) (b := 63) rfl rfl (by omega) (by decide) (zdG _)) (oP rfl (zcy (a := 128) (b := ((x / 4096) % 256) % 64) rfl rfl (by decide) (by omega) (zdv _ (by omega))) (oR 1 rfl (oP rfl (zcx (a := x) (n := 6) (m := 64) rfl rfl (by decide) (by decide)) (oP rfl (zaM rfl (c := (((x / 64) % 256 : Nat) : Int)) (zaX _)) (oP rfl (zct (a := (x / 64) % 256) (b := 63) rfl rfl (by omega) (by decide) (zdG _)) (oP rfl (zcy (a := 128) (b := ((x / 64) % 256) % 64) rfl rfl (by decide) (by omega) (zdv _ (by omega))) (oR 1 rfl (oP rfl (zaM rfl (c := ((x % 256 : Nat) : Int)) (zaX _)) (oP rfl (zct (a := x % 256) (b := 63) rfl rfl (by omega) (by decide) (zdG _)) (oP rfl (zcy (a := 128) (b := (x % 256) % 64) rfl rfl (by decide) (by omega) (zdv _ (by omega))) ?_))))))))))))))))))
              refine oE rfl (zJ [.tmp 61, .tmp 66, .tmp 71, .tmp 75] rfl rfl (.cons (CellD.v rfl) (.cons (CellD.v rfl) (.cons (CellD.v rfl) (.cons (CellD.v rfl) .nil)))) rfl Tryz.runUnderlying184 Tryz.sizeOf5 Tryz.zeroValue5 rfl rfl rfl rfl) ?_
              rintro _ _ ⟨g23, rfl, rfl⟩
              refine OpsD.subH (HSub.turn (h' := .sl (vS g23 4 4) 1 5 ([(UInt8.ofNat (240 + ((x / 262144) % 256))), (UInt8.ofNat (128 + (((x / 4096) % 256) % 64))), (UInt8.ofNat (128 + (((x / 64) % 256) % 64))), (UInt8.ofNat (128 + ((x % 256) % 64)))].map dU8)) rfl (Hp.cvs_sl (.cons (Cv.eq (zcl rfl (by omega))) (.cons (Cv.eq (zcl rfl (by omega))) (.cons (Cv.eq (zcl rfl (by omega))) (.cons (Cv.eq (zcl rfl (by omega))) .nil)))))) (oE rfl (zK (f := dU8) (l := bs) (l' := [(UInt8.ofNat (240 + ((x / 262144) % 256))), (UInt8.ofNat (128 + (((x / 4096) % 256) % 64))), (UInt8.ofNat (128 + (((x / 64) % 256) % 64))), (UInt8.ofNat (128 + ((x % 256) % 64)))]) (i := 1) rfl rfl rfl (SrcD.own (j := 0) rfl rfl) zb5 zcH rfl rfl (by unfold maxLen; (try simp only [la, lc, ln, lm, lt', ld, ls, lr]); omega) (by (try simp only [la, lc, ln, lm, lt', ld, ls, lr]); omega)) ?_)
              rintro _ _ ⟨v24, rfl, rfl⟩
              refine on rfl (oR 1 rfl (oZ rfl (jk [4] rfl (zs rfl (zi (PD.subH (HSub.perm (zk (i := 1) rfl)) (pn rfl (PD.norm [.sl v24 1 5 ((bs ++ encR x).map dU8), .sl (vS g23 4 4) 1 5 ([(UInt8.ofNat (240 + ((x / 262144) % 256))), (UInt8.ofNat (128 + (((x / 4096) % 256) % 64))), (UInt8.ofNat (128 + (((x / 64) % 256) % 64))), (UInt8.ofNat (128 + ((x % 256) % 64)))].map dU8)] (by first | (exfalso; omega) | skip; unfold encR; first | rw [if_neg (by omega), if_pos (by omega)] | rw [if_neg (by omega), if_neg (by omega), if_pos (by omega)] | rw [if_neg (by omega), if_neg (by omega), if_neg (by omega), if_pos (by omega)] | rw [if_neg (by omega), if_neg (by omega), if_neg (by omega), if_neg (by omega)]) ?_))))))))
              exact zj Tryz.results209 (.cons (zf rfl) .nil) rfl (HSub.fst 1 rfl) ⟨v24, rfl, rfl⟩
            · simp only [bA, bB, bC, bD, bE, bF, bG, bH, bI, bJ] at hc22
              refine jT rfl (oR 1 rfl (oE rfl (zJ [.const (.int .u8 239), .const (.int .u8 191), .const (.int .u8 189)] rfl rfl (.cons (CellD.v rfl) (.cons (CellD.v rfl) (.cons (CellD.v rfl) .nil))) rfl Tryz.runUnderlying184 Tryz.sizeOf5 Tryz.zeroValue5 rfl rfl rfl rfl) ?_))
              rintro _ _ ⟨g25, rfl, rfl⟩
              refine oE rfl (zK (f := dU8) (l := bs) (l' := [(239 : UInt8), (191 : UInt8), (189 : UInt8)]) (i := 1) rfl rfl rfl (SrcD.own (j := 0) rfl rfl) zb5 zcH rfl rfl (by unfold maxLen; (try simp only [la, lc, ln, lm, lt', ld, ls, lr]); omega) (by (try simp only [la, lc, ln, lm, lt', ld, ls, lr]); omega)) ?_
              rintro _ _ ⟨v26, rfl, rfl⟩
              refine on rfl (oR 1 rfl (oZ rfl (zs rfl (zi (PD.subH (HSub.perm (zk (i := 1) rfl)) (pn rfl (PD.norm [.sl v26 1 5 ((bs ++ encR x).map dU8), .sl (vS g25 3 3) 1 5 ([.v (.int .u8 239), .v (.int .u8 191), .v (.int .u8 189)])] (by first | (exfalso; omega) | skip; unfold encR; first | rw [if_neg (by omega), if_pos (by omega)] | rw [if_neg (by omega), if_neg (by omega), if_pos (by omega)] | rw [if_neg (by omega), if_neg (by omega), if_neg (by omega), if_pos (by omega)] | rw [if_neg (by omega), if_neg (by omega), if_neg (by omega), if_neg (by omega)]) ?_)))))))
              exact zj Tryz.results209 (.cons (zf rfl) .nil) rfl (HSub.fst 1 rfl) ⟨v26, rfl, rfl⟩

theorem appR_c (v : Value) (bs : List UInt8) (x : Nat) (h2 : x < 2147483648) (hl : bs.length ≤ 1000000000000) :
    CD Tryz.prog 194 [.sl v 1 5 (bs.map dU8)] [.ov v, .v (.int .i32 ((x : Nat) : Int))] (fun r H' => ∃ v', r = .ov v' ∧ H' = [.sl v' 1 5 ((bs ++ encR x).map dU8)]) := by
  refine zy Tryz.func194 rfl (N := 16) rfl rfl (fun C => ?_)
  refine jk [0, 1] rfl (jT rfl (oR 1 rfl (oZ rfl (jS rfl (jT rfl (oR 1 rfl (oP rfl (zaM rfl (c := ((x : Nat) : Int)) (cv_21_205 (by omega))) (oP rfl (zaK rfl rfl rfl) (oZ rfl ?_)))))))))
  refine jD rfl (fun hc1 => ?_) (fun hc1 => ?_)
  · skip
    refine jT rfl (oR 2 rfl (oP rfl (zaM rfl (c := ((x % 256 : Nat) : Int)) (zaX _)) (oE rfl (zJ [.tmp 10] rfl rfl (.cons (CellD.v rfl) .nil) rfl Tryz.runUnderlying184 Tryz.sizeOf5 Tryz.zeroValue5 rfl rfl rfl rfl) ?_)))
    rintro _ _ ⟨g2, rfl, rfl⟩
    refine OpsD.subH (HSub.turn (h' := .sl (vS g2 1 1) 1 5 ([(UInt8.ofNat (x % 256))].map dU8)) rfl (Hp.cvs_sl (.cons (Cv.eq (zcl rfl (by omega))) .nil))) (oE rfl (zK (f := dU8) (l := bs) (l' := [(UInt8.ofNat (x % 256))]) (i := 1) rfl rfl rfl (SrcD.own (j := 0) rfl rfl) zb5 zcH rfl rfl (by unfold maxLen; (try simp only [la, lc, ln, lm, lt', ld, ls, lr]); omega) (by (try simp only [la, lc, ln, lm, lt', ld, ls, lr]); omega)) ?_)
    rintro _ _ ⟨v3, rfl, rfl⟩
    refine on rfl (oR 1 rfl (oZ rfl (zs rfl (ze (PD.subH (HSub.perm (zk (i := 1) rfl)) (pn rfl (PD.norm [.sl v3 1 5 ((bs ++ encR x).map dU8), .sl (vS g2 1 1) 1 5 ([(UInt8.ofNat (x % 256))].map dU8)] (by unfold encR; rw [if_pos (by omega)]) ?_)))))))
    exact zj Tryz.results194 (.cons (zf rfl) .nil) rfl (HSub.fst 1 rfl) ⟨v3, rfl, rfl⟩
  · skip
    refine zq rfl (zc (jT rfl (oR 2 rfl (oE rfl (zx [.sl v 1 5 (bs.map dU8)] [] [] rfl rfl (.cons ArgC.id (.cons ArgC.id .nil)) zo Tryz.call209 (appNA_c v bs x (by omega) (by omega) (by (try simp only [la, lc, ln]); omega)) (.inl rfl)) ?_))))
    rintro _ _ ⟨_, ⟨rv4, rfl, rfl⟩, rfl⟩
    refine on rfl (oR 1 rfl (oZ rfl (zs rfl ?_)))
    exact zj Tryz.results194 (.cons (zf rfl) .nil) rfl (HSub.fst 1 rfl) ⟨rv4, rfl, rfl⟩

theorem WriteRune_c (g : Nat) (p v : Value) (bs : List UInt8) (x : Nat) (hp : p = .pointer none ∨ p = .pointer (some ⟨g, 0, none⟩)) (hl : bs.length ≤ 1000000000000) (hx : x < 2147483648) :
    CD Tryz.prog 166 [.bx g 186 (.agg [.v p, .ov v]), .sl v 1 5 (bs.map dU8)] [dP g 0, .v (.int .i32 ((x : Nat) : Int))] (fun r H' => ∃ v' n, r = .tup [dI n, .v .nilIface] ∧ H' = [.bx g 186 (.agg [dP g 0, .ov v']), .sl v' 1 5 ((bs ++ encR x).map dU8)]) := by
  refine zy Tryz.func166 rfl (N := 30) rfl rfl (fun C => ?_)
  refine jk [0, 1] rfl ?_
  have hel := zdc x
  refine jT rfl (oR 2 rfl (oZ rfl (jT rfl (oR 1 rfl (oE rfl (zx [.bx g 186 (.agg [.v p, .ov v])] [.sl v 1 5 (bs.map dU8)] [] rfl rfl (.cons ArgC.id .nil) zo Tryz.call193 (copyCheck_c g p (.ov v) hp) (.inl rfl)) ?_)))))
  rintro _ _ ⟨_, ⟨rfl, rfl⟩, rfl⟩
  refine on rfl (oZ rfl (jT rfl (oR 2 rfl (oP rfl (zl rfl zaW rfl) (oP rfl (zz rfl (i := 0) rfl Tryz.isAgg184 rfl) (oP rfl (zY (n := bs.length) (j := 1) rfl rfl Tryz.runUnderlying184 (List.length_map _)) (oR 1 rfl (oZ rfl (jT rfl (oR 3 rfl (oP rfl (zl rfl zaW rfl) (oP rfl (zz rfl (i := 0) rfl Tryz.isAgg184 rfl) (oR 1 rfl (OpsD.subH (HSub.perm (zk (i := 1) rfl)) (on rfl (oE rfl (zx [.sl v 1 5 (bs.map dU8)] [.bx g 186 (.agg [dP g 0, .ov v])] [] rfl rfl (.cons ArgC.id (.cons ArgC.id .nil)) zo Tryz.call194 (appR_c v bs x  (by omega) (by (try simp only [la, lc, ln]); omega)) (.inl rfl)) ?_))))))))))))))))
  rintro _ _ ⟨_, ⟨rv1, rfl, rfl⟩, rfl⟩
  refine on rfl (oR 1 rfl (oP rfl (zl rfl zaW rfl) (oE rfl (z4 (i := 1) (X' := .agg [dP g 0, .ov rv1]) rfl rfl rfl (CellD.o) Tryz.sizeOf184 rfl rfl rfl) ?_)))
  rintro _ _ ⟨rfl, rfl⟩
  refine on rfl (oZ rfl (jk [0, 4, 5, 6] rfl (jT rfl (oR 2 rfl (oP rfl (zl rfl zaW rfl) (oP rfl (zz rfl (i := 1) rfl Tryz.isAgg184 rfl) (oP rfl (zY (n := (bs ++ encR x).length) (j := 0) rfl rfl Tryz.runUnderlying184 (List.length_map _)) (oR 1 rfl (oP rfl (zaG (c := ((((bs ++ encR x).length : Nat) : Int) - ((bs.length : Nat) : Int))) rfl rfl (zF (by omega) (by (try simp only [la]); omega))) (oR 2 rfl (oZ rfl (jk [4, 5] rfl (zs rfl (PD.subH (HSub.perm (zk (i := 1) rfl)) (pn rfl ?_)))))))))))))))
  exact zj Tryz.results166 (.cons (zf rfl) (.cons (zf rfl) .nil)) rfl (HSub.fst 2 rfl) ⟨rv1, _, rfl, rfl⟩

theorem String_c (g : Nat) (p v : Value) (bs : List UInt8) (h0 : bs ≠ []) :
    CD Tryz.prog 169 [.bx g 186 (.agg [.v p, .ov v]), .sl v 1 5 (bs.map dU8)] [dP g 0] (fun r H' => r = .s ⟨bs.toArray⟩ ∧ H' = []) := by
  refine zy Tryz.func169 rfl (N := 14) rfl rfl (fun C => ?_)
  refine jk [0] rfl (jT rfl (oR 1 rfl (oZ rfl (jS rfl (jk [0, 2] rfl (jn rfl (z3 10 [(3, dP g 0, none), (4, dP g 0, none), (5, dP g 1, none), (6, .ov v, none), (7, .v (.pointer (some ⟨bl v, 0, none⟩)), none), (8, dP g 0, none), (9, dP g 0, none), (10, dP g 1, none), (11, .ov v, none), (12, dN bs.length, none)] [.bx g 186 (.agg [.v p, .ov v]), .sl v 1 5 (bs.map dU8)] (Hn := [.bx g 186 (.agg [.v p, .ov v]), .sl v 1 5 (bs.map dU8)]) zah rfl rfl rfl rfl HSub.rfl' rfl ⟨sa_p rfl rfl rfl (zm rfl), sa_p rfl rfl rfl (za9 rfl), sa_p rfl rfl rfl (zl rfl zaW rfl), sa_p rfl rfl rfl (zz rfl (i := 0) rfl Tryz.isAgg184 rfl), sa_p rfl rfl rfl (p_sliceData (i := 1) rfl rfl (by rw [List.length_map]; exact List.length_pos_iff.2 h0)), sa_p rfl rfl rfl (zm rfl), sa_p rfl rfl rfl (za9 rfl), sa_p rfl rfl rfl (zl rfl zaW rfl), sa_p rfl rfl rfl (zz rfl (i := 0) rfl Tryz.isAgg184 rfl), sa_p rfl rfl rfl (zY (n := bs.length) (j := 1) rfl rfl Tryz.runUnderlying184 (List.length_map _)), trivial⟩ (ok [0, 2, 3, 4, 5, 6, 7, 8, 9, 10, 11, 12] rfl (oE rfl (ef_unsafeString (i := 1) (bs := bs) rfl rfl rfl rfl h0 (by kernel_rfl) (by kernel_rfl)) ?_)))))))))
  rintro _ _ ⟨rfl, rfl⟩
  refine on rfl (oR 1 rfl (oZ rfl (jk [2] rfl (zs rfl ?_))))
  exact zj Tryz.results169 (.cons (zf rfl) .nil) rfl HSub.none ⟨rfl, rfl⟩

theorem hasP_c (a : ByteArray) (b : ByteArray)  :
    CD Tryz.prog 195 [] [.s a, .s b] (isR (dB (hasP a b))) := by
  refine zy Tryz.func195 rfl (N := 18) rfl rfl (fun C => ?_)
  refine jk [0, 1] rfl ?_
  refine JD.bd 0 rfl (fun bd0 => ?_)
  have sz0 : a.size ≤ 9223372036854775807 := bd0
  refine JD.bd 1 rfl (fun bd1 => ?_)
  have sz1 : b.size ≤ 9223372036854775807 := bd1
  refine jT rfl (oR 1 rfl (oZ rfl (jS rfl (jk [0, 1] rfl ?_))))
  refine zab 4 ((decide (((b.size : Nat) : Int) ≤ ((a.size : Nat) : Int)) && decide ((a.extract 0 b.size) = b))) [] (fun _ hQ1 => ?_) ?_
  · skip
    by_cases hg2 : ((b.size : Nat) : Int) ≤ ((a.size : Nat) : Int)
    · skip
      refine za rfl (oR 1 rfl (oP rfl (zas rfl Tryz.runUnderlying9) (oR 1 rfl (oP rfl (zas rfl Tryz.runUnderlying9) (oP rfl (z8 rfl rfl (decide_eq_true hg2)) (oR 3 rfl (oG rfl (zas rfl Tryz.runUnderlying9) (oG rfl (p_slice_str (a := 0) (c := b.size) rfl rfl rfl (by first | rfl | (show _ = _; omega)) (by first | rfl | (show _ = _; omega)) Tryz.runUnderlying9 (by omega) (by omega)) (oR 1 rfl (oG rfl (z7 rfl rfl rfl) (oR 2 rfl (zg rfl ?_))))))))))))
      exact PD.sub ((4, dB (decide (((b.size : Nat) : Int) ≤ ((a.size : Nat) : Int)) && decide ((a.extract 0 b.size) = b))) :: [(0, .s a), (1, .s b)]) ⟨sc rfl (Cv.eq (congrArg (fun b => D.v (.bool b)) (by first | (simp [hg2]; done) | (simp_all; done)))), sk rfl, sk rfl, trivial⟩ hQ1
    · skip
      refine za rfl (oR 1 rfl (oP rfl (zas rfl Tryz.runUnderlying9) (oR 1 rfl (oP rfl (zas rfl Tryz.runUnderlying9) (oP rfl (z8 rfl rfl (decide_eq_false hg2)) (oR 9 rfl (zg rfl ?_)))))))
      exact PD.sub ((4, dB (decide (((b.size : Nat) : Int) ≤ ((a.size : Nat) : Int)) && decide ((a.extract 0 b.size) = b))) :: [(0, .s a), (1, .s b)]) ⟨sc rfl (Cv.eq (congrArg (fun b => D.v (.bool b)) (by first | (simp [hg2]; done) | (simp_all; done)))), sk rfl, sk rfl, trivial⟩ hQ1
  · skip
    refine zc (zs rfl ?_)
    exact zj Tryz.results195 (.cons (zB (zf rfl) (Cv.eq (congrArg (fun b => D.v (.bool b)) (by unfold hasP; simp [*])))) .nil) rfl HSub.none ⟨rfl, rfl⟩

theorem HasPrefix_c (a : ByteArray) (b : ByteArray)  :
    CD Tryz.prog 168 [] [.s a, .s b] (isR (dB (hasP a b))) := by
  refine zy Tryz.func168 rfl (N := 8) rfl rfl (fun C => ?_)
  refine jk [0, 1] rfl ?_
  refine JD.bd 0 rfl (fun bd0 => ?_)
  have sz0 : a.size ≤ 9223372036854775807 := bd0
  refine JD.bd 1 rfl (fun bd1 => ?_)
  have sz1 : b.size ≤ 9223372036854775807 := bd1
  refine jT rfl (oR 1 rfl (oZ rfl (jT rfl (oR 2 rfl (oW rfl rfl acs Tryz.call195 (hasP_c a b) (oR 1 rfl (oZ rfl (zs rfl ?_))))))))
  exact zj Tryz.results168 (.cons (zf rfl) .nil) rfl HSub.none ⟨rfl, rfl⟩

theorem Quote_c (s : ByteArray) (hs : s.size ≤ 1000000000) :
    CD Tryz.prog 118 [] [.s s] (isR (D.s (zdi s))) := by
  refine zy Tryz.func118 rfl (N := 54) rfl rfl (fun C => ?_)
  refine jk [0] rfl ?_
  refine JD.bd 0 rfl (fun bd0 => ?_)
  have sz0 : s.size ≤ 9223372036854775807 := bd0
  refine jT rfl (oR 1 rfl (oZ rfl (jT rfl (oE rfl (zaL (zv := (.agg #[(.pointer none), (.slice none 0 0)])) (X := .agg [.v (.pointer none), .ov (.slice none 0 0)]) Tryz.zeroValue186 ⟨rfl, rfl, trivial⟩ ((Cv.vagg (by decide)).trans (Cv.agg (.cons Cv.rfl' (.cons (Cv.ov rfl) .nil))))) ?_))))
  rintro _ _ ⟨g1, rfl, rfl⟩
  refine OpsD.subH (HSub.nil 1 5) (on rfl (oZ rfl (jT rfl (OpsD.subH (HSub.perm (zk (i := 1) rfl)) (on rfl (oE rfl (zx [.bx g1 186 (.agg [.v (.pointer none), .ov (.slice none 0 0)]), .sl (.slice none 0 0) 1 5 ([].map dU8)] [] [] rfl rfl (.cons ArgC.id (.cons ArgC.id .nil)) zo Tryz.call165 (zcr g1 (.pointer none) (.slice none 0 0) [] (34 : UInt8) (.inl rfl) (by (try simp only [la, lc, ln]); omega)) (.inl rfl)) ?_))))))
  rintro _ _ ⟨_, ⟨bv2, rfl, rfl⟩, rfl⟩
  refine on rfl (oZ rfl (jS rfl (jT rfl (oR 1 rfl (oE rfl (ef_range rfl Tryz.runUnderlying9) ?_)))))
  rintro _ _ ⟨g3, rfl, rfl⟩
  refine oZ rfl (jB rfl (jl3 (fun (a_ : Nat) (b_ : Value) (c_ : List UInt8) => [(0, .s s), (2, .v (.string ByteArray.empty)), (3, dP g1 0), (8, dP g3 0)]) (fun a_ b_ c_ => [.it g3 s a_, .bx g1 186 (.agg [dP g1 0, .ov b_]), .sl b_ 1 5 (c_.map dU8)]) (fun a_ b_ c_ => (a_ ≤ s.size) ∧ (c_.length ≤ 1 + 5 * a_) ∧ ([34] ++ zbf s 0 = c_ ++ zbf s a_)) (fun a_ b_ c_ => s.size - a_) 0 bv2 ([] ++ [(34 : UInt8)]) rfl (sa rfl) HSub.rfl' ⟨Nat.zero_le _, by simp, rfl⟩ ?_))
  rintro p ov bs ⟨hp, hn, hq⟩
  refine ja rfl (jn rfl ?_)
  rcases Nat.lt_or_ge p s.size with hlt | hge
  · skip
    have hrune := zbG hlt
    have hrl := zdY s p
    have hdw := zby s p hlt
    have hdp := zay s p
    refine jT rfl (oE rfl (ef_next_t (i := 0) rfl rfl hlt) ?_)
    rintro _ _ ⟨rfl, rfl⟩
    refine on rfl (oR 1 rfl (oZ rfl (jS rfl (jCt rfl (zq rfl (zc (jB rfl (jT rfl (oR 4 rfl (oZ rfl (jB rfl (jS rfl (jk [0, 2, 3, 4, 5, 8, 9, 10, 11, 12] rfl ?_)))))))))))))
    refine zab 15 ((decide (((decR s p : Nat) : Int) = (34 : Int)) || decide (((decR s p : Nat) : Int) = (92 : Int)))) [.it g3 s (p + decW s p), .bx g1 186 (.agg [dP g1 0, .ov ov]), .sl ov 1 5 (bs.map dU8)] (fun _ hQ4 => ?_) ?_
    · skip
      by_cases hg5 : ((decR s p : Nat) : Int) = (34 : Int)
      · skip
        refine za rfl (oR 1 rfl (oP rfl (zV rfl rfl (decide_eq_true hg5)) (oR 5 rfl (zg rfl ?_))))
        exact PD.sub ((15, dB (decide (((decR s p : Nat) : Int) = (34 : Int)) || decide (((decR s p : Nat) : Int) = (92 : Int)))) :: [(0, .s s), (2, .v (.string ByteArray.empty)), (3, dP g1 0), (4, dN p), (5, .v (.int .i32 ((decR s p : Nat) : Int))), (8, dP g3 0), (9, .tup [dB true, dN p, .v (.int .i32 ((decR s p : Nat) : Int))]), (10, dB true), (11, dN p), (12, .v (.int .i32 ((decR s p : Nat) : Int)))]) ⟨sc rfl (Cv.eq (congrArg (fun b => D.v (.bool b)) (by first | (simp [hg5]; done) | (simp_all; done)))), sk rfl, sk rfl, sk rfl, sk rfl, sk rfl, sk rfl, sk rfl, sk rfl, sk rfl, sk rfl, trivial⟩ hQ4
      · skip
        refine za rfl (oR 1 rfl (oP rfl (zV rfl rfl (decide_eq_false hg5)) (oR 2 rfl (oG rfl (zV rfl rfl rfl) (oR 2 rfl (zg rfl ?_))))))
        exact PD.sub ((15, dB (decide (((decR s p : Nat) : Int) = (34 : Int)) || decide (((decR s p : Nat) : Int) = (92 : Int)))) :: [(0, .s s), (2, .v (.string ByteArray.empty)), (3, dP g1 0), (4, dN p), (5, .v (.int .i32 ((decR s p : Nat) : Int))), (8, dP g3 0), (9, .tup [dB true, dN p, .v (.int .i32 ((decR s p : Nat) : Int))]), (10, dB true), (11, dN p), (12, .v (.int .i32 ((decR s p : Nat) : Int)))]) ⟨sc rfl (Cv.eq (congrArg (fun b => D.v (.bool b)) (by first | (simp [hg5]; done) | (simp_all; done)))), sk rfl, sk rfl, sk rfl, sk rfl, sk rfl, sk rfl, sk rfl, sk rfl, sk rfl, sk rfl, trivial⟩ hQ4
    · skip
      refine zc ?_
      refine jC rfl (fun hc6 => ?_) (fun hc6 => ?_)
      · simp only [bA, bB, bC, bD, bE, bF, bG, bH, bI, bJ] at hc6
        refine jT rfl (OpsD.subH (HSub.perm (zk (i := 2) rfl)) (on rfl (OpsD.subH (HSub.perm (zk (i := 2) rfl)) (on rfl (oE rfl (zx [.bx g1 186 (.agg [dP g1 0, .ov ov]), .sl ov 1 5 (bs.map dU8)] [.it g3 s (p + decW s p)] [] rfl rfl (.cons ArgC.id (.cons ArgC.id .nil)) zo Tryz.call165 (zcr g1 (.pointer (some ⟨g1, 0, none⟩)) ov bs (92 : UInt8) (.inr rfl) (by (try simp only [la, lc, ln]); omega)) (.inl rfl)) ?_)))))
        rintro _ _ ⟨_, ⟨bv7, rfl, rfl⟩, rfl⟩
        refine on rfl (oZ rfl (za rfl (oR 1 rfl (oE rfl (zx [.bx g1 186 (.agg [dP g1 0, .ov bv7]), .sl bv7 1 5 ((bs ++ [(92 : UInt8)]).map dU8)] [.it g3 s (p + decW s p)] [] rfl rfl (.cons ArgC.id (.cons ArgC.id .nil)) zo Tryz.call166 (WriteRune_c g1 (.pointer (some ⟨g1, 0, none⟩)) bv7 (bs ++ [(92 : UInt8)]) (decR s p) (.inr rfl) (by (try simp only [la, lc, ln]); omega) (by omega)) (.inl rfl)) ?_))))
        rintro _ _ ⟨_, ⟨bv8, nw9, rfl, rfl⟩, rfl⟩
        refine on rfl (zg rfl (zw (zw (PD.subH (HSub.perm (zk (i := 1) rfl)) (pn rfl (PD.subH (HSub.perm (zk (i := 1) rfl)) (pn rfl (PD.subH (HSub.perm (zk (i := 2) rfl)) (pn rfl ?_)))))))))
        exact pl3 (p + decW s p) bv8 ((bs ++ [(92 : UInt8)]) ++ encR (decR s p)) (sa rfl) HSub.rfl' ⟨by have := zby s p hlt; omega, by (try simp only [la, lc, ln]); have := zay s p; have := zdc (decR s p); omega, by rw [hq, zbv hlt, piece_1 (by omega)]; simp only [List.append_assoc, List.cons_append, List.nil_append]⟩ (by have := zay s p; omega)
      · simp only [bA, bB, bC, bD, bE, bF, bG, bH, bI, bJ] at hc6
        refine jT rfl (oR 1 rfl (oP rfl (zV rfl rfl rfl) (oR 1 rfl (oZ rfl ?_))))
        refine jD rfl (fun hc10 => ?_) (fun hc10 => ?_)
        · skip
          refine za rfl (OpsD.subH (HSub.perm (zk (i := 2) rfl)) (on rfl (OpsD.subH (HSub.perm (zk (i := 2) rfl)) (on rfl (oE rfl (zx [.bx g1 186 (.agg [dP g1 0, .ov ov]), .sl ov 1 5 (bs.map dU8)] [.it g3 s (p + decW s p)] [] rfl rfl (.cons ArgC.id (.cons (ArgC.cv (Cv.str (by first | decide | (unfold maxLen; omega)))) .nil)) zo Tryz.call167 (zbS g1 (.pointer (some ⟨g1, 0, none⟩)) ov bs (⟨#[92, 110]⟩ : ByteArray) (.inr rfl) (by (try simp only [la, lc, ln]); omega) (by first | decide | omega)) (.inl rfl)) ?_)))))
          rintro _ _ ⟨_, ⟨bv11, rfl, rfl⟩, rfl⟩
          refine on rfl (zg rfl (zw (zw (PD.subH (HSub.perm (zk (i := 1) rfl)) (pn rfl (PD.subH (HSub.perm (zk (i := 1) rfl)) (pn rfl (PD.subH (HSub.perm (zk (i := 2) rfl)) (pn rfl ?_)))))))))
          exact pl3 (p + decW s p) bv11 (bs ++ (⟨#[92, 110]⟩ : ByteArray).data.toList) (sa rfl) HSub.rfl' ⟨by have := zby s p hlt; omega, by (try simp only [la, lc, ln]); have := zay s p; have := zdc (decR s p); omega, by rw [hq, zbv hlt, piece_2 (by omega) (by omega)]; simp only [List.append_assoc, List.cons_append, List.nil_append]⟩ (by have := zay s p; omega)
        · skip
          refine jS rfl (jk [0, 2, 3, 4, 5, 8, 9, 10, 11, 12, 15, 25, 26, 27] rfl ?_)
          refine zab 29 ((decide (((decR s p : Nat) : Int) = (65533 : Int)) && !(hasP (s.extract p s.size) (⟨#[239, 191, 189]⟩ : ByteArray)))) [.it g3 s (p + decW s p), .bx g1 186 (.agg [dP g1 0, .ov ov]), .sl ov 1 5 (bs.map dU8)] (fun _ hQ12 => ?_) ?_
          · skip
            by_cases hg13 : ((decR s p : Nat) : Int) = (65533 : Int)
            · skip
              refine za rfl (oR 1 rfl (oP rfl (zV rfl rfl (decide_eq_true hg13)) (oR 3 rfl (oG rfl (p_slice_str (a := p) (c := s.size) rfl rfl rfl (by first | rfl | (show _ = _; omega)) (by first | rfl | (show _ = _; omega)) Tryz.runUnderlying9 (by omega) (by omega)) (oV rfl rfl (.cons ArgC.id (.cons (ArgC.cv (Cv.str (by first | decide | (unfold maxLen; omega)))) .nil)) Tryz.call168 (HasPrefix_c (s.extract p s.size) (⟨#[239, 191, 189]⟩ : ByteArray)) (oG rfl (zaP rfl) (oR 2 rfl (zg rfl ?_))))))))
              exact PD.sub ((29, dB (decide (((decR s p : Nat) : Int) = (65533 : Int)) && !(hasP (s.extract p s.size) (⟨#[239, 191, 189]⟩ : ByteArray)))) :: [(0, .s s), (2, .v (.string ByteArray.empty)), (3, dP g1 0), (4, dN p), (5, .v (.int .i32 ((decR s p : Nat) : Int))), (8, dP g3 0), (9, .tup [dB true, dN p, .v (.int .i32 ((decR s p : Nat) : Int))]), (10, dB true), (11, dN p), (12, .v (.int .i32 ((decR s p : Nat) : Int))), (15, dB (decide (((decR s p : Nat) : Int) = (34 : Int)) || decide (((decR s p : Nat) : Int) = (92 : Int)))), (25, dB (decide (((decR s p : Nat) : Int) = (10 : Int)))), (26, .v (.int .i32 ((decR s p : Nat) : Int))), (27, dB (decide (((decR s p : Nat) : Int) = (10 : Int))))]) ⟨sc rfl (Cv.eq (congrArg (fun b => D.v (.bool b)) (by first | (simp [hc10, hg13]; done) | (simp_all; done)))), sk rfl, sk rfl, sk rfl, sk rfl, sk rfl, sk rfl, sk rfl, sk rfl, sk rfl, sk rfl, sk rfl, sk rfl, sk rfl, sk rfl, trivial⟩ hQ12
            · skip
              refine za rfl (oR 1 rfl (oP rfl (zV rfl rfl (decide_eq_false hg13)) (oR 8 rfl (zg rfl ?_))))
              exact PD.sub ((29, dB (decide (((decR s p : Nat) : Int) = (65533 : Int)) && !(hasP (s.extract p s.size) (⟨#[239, 191, 189]⟩ : ByteArray)))) :: [(0, .s s), (2, .v (.string ByteArray.empty)), (3, dP g1 0), (4, dN p), (5, .v (.int .i32 ((decR s p : Nat) : Int))), (8, dP g3 0), (9, .tup [dB true, dN p, .v (.int .i32 ((decR s p : Nat) : Int))]), (10, dB true), (11, dN p), (12, .v (.int .i32 ((decR s p : Nat) : Int))), (15, dB (decide (((decR s p : Nat) : Int) = (34 : Int)) || decide (((decR s p : Nat) : Int) = (92 : Int)))), (25, dB (decide (((decR s p : Nat) : Int) = (10 : Int)))), (26, .v (.int .i32 ((decR s p : Nat) : Int))), (27, dB (decide (((decR s p : Nat) : Int) = (10 : Int))))]) ⟨sc rfl (Cv.eq (congrArg (fun b => D.v (.bool b)) (by first | (simp [hc10, hg13]; done) | (simp_all; done)))), sk rfl, sk rfl, sk rfl, sk rfl, sk rfl, sk rfl, sk rfl, sk rfl, sk rfl, sk rfl, sk rfl, sk rfl, sk rfl, sk rfl, trivial⟩ hQ12
          · skip
            refine zc ?_
            refine jC rfl (fun hc14 => ?_) (fun hc14 => ?_)
            · simp only [bA, bB, bC, bD, bE, bF, bG, bH, bI, bJ] at hc14
              refine jT rfl (OpsD.subH (HSub.perm (zk (i := 2) rfl)) (on rfl (OpsD.subH (HSub.perm (zk (i := 2) rfl)) (on rfl (oE rfl (zx [.bx g1 186 (.agg [dP g1 0, .ov ov]), .sl ov 1 5 (bs.map dU8)] [.it g3 s (p + decW s p)] [] rfl rfl (.cons ArgC.id (.cons (ArgC.cv (Cv.str (by first | decide | (unfold maxLen; omega)))) .nil)) zo Tryz.call167 (zbS g1 (.pointer (some ⟨g1, 0, none⟩)) ov bs (⟨#[92, 120]⟩ : ByteArray) (.inr rfl) (by (try simp only [la, lc, ln]); omega) (by first | decide | omega)) (.inl rfl)) ?_)))))
              rintro _ _ ⟨_, ⟨bv15, rfl, rfl⟩, rfl⟩
              refine on rfl (oZ rfl (jT rfl (oR 2 rfl ?_)))
              obtain ⟨u1, hu1⟩ := get_byte s p (by omega)
              have hlu1 := u1.toNat_lt
              refine oP rfl (zcp (k := p) rfl rfl Tryz.runUnderlying9 (by first | rfl | omega) hu1) (oP rfl (zcx (a := u1.toNat) (n := 4) (m := 16) rfl rfl (by decide) (by decide)) ?_)
              obtain ⟨u2, hu2⟩ := get_byte (⟨#[48, 49, 50, 51, 52, 53, 54, 55, 56, 57, 97, 98, 99, 100, 101, 102]⟩ : ByteArray) (u1.toNat / 16) (by show _ < 16; omega)
              have hlu2 := u2.toNat_lt
              refine oP rfl (zcp (k := u1.toNat / 16) rfl rfl Tryz.runUnderlying9 (by first | rfl | omega) hu2) (oE rfl (zx [.bx g1 186 (.agg [dP g1 0, .ov bv15]), .sl bv15 1 5 ((bs ++ (⟨#[92, 120]⟩ : ByteArray).data.toList).map dU8)] [.it g3 s (p + decW s p)] [] rfl rfl (.cons ArgC.id (.cons ArgC.id .nil)) zo Tryz.call165 (zcr g1 (.pointer (some ⟨g1, 0, none⟩)) bv15 (bs ++ (⟨#[92, 120]⟩ : ByteArray).data.toList) u2 (.inr rfl) (by (try simp only [la, lc, ln]); omega)) (.inl rfl)) ?_)
              rintro _ _ ⟨_, ⟨bv16, rfl, rfl⟩, rfl⟩
              refine on rfl (oZ rfl (za rfl (oR 2 rfl (oP rfl (zcp (k := p) rfl rfl Tryz.runUnderlying9 (by first | rfl | omega) hu1) (oP rfl (zct (a := u1.toNat) (b := 15) rfl rfl (by omega) (by decide) (and15 _)) ?_)))))
              obtain ⟨u3, hu3⟩ := get_byte (⟨#[48, 49, 50, 51, 52, 53, 54, 55, 56, 57, 97, 98, 99, 100, 101, 102]⟩ : ByteArray) (u1.toNat % 16) (by show _ < 16; omega)
              have hlu3 := u3.toNat_lt
              refine oP rfl (zcp (k := u1.toNat % 16) rfl rfl Tryz.runUnderlying9 (by first | rfl | omega) hu3) (oE rfl (zx [.bx g1 186 (.agg [dP g1 0, .ov bv16]), .sl bv16 1 5 (((bs ++ (⟨#[92, 120]⟩ : ByteArray).data.toList) ++ [u2]).map dU8)] [.it g3 s (p + decW s p)] [] rfl rfl (.cons ArgC.id (.cons ArgC.id .nil)) zo Tryz.call165 (zcr g1 (.pointer (some ⟨g1, 0, none⟩)) bv16 ((bs ++ (⟨#[92, 120]⟩ : ByteArray).data.toList) ++ [u2]) u3 (.inr rfl) (by (try simp only [la, lc, ln]); omega)) (.inl rfl)) ?_)
              rintro _ _ ⟨_, ⟨bv17, rfl, rfl⟩, rfl⟩
              refine on rfl (zg rfl (zw (zw (PD.subH (HSub.perm (zk (i := 1) rfl)) (pn rfl (PD.subH (HSub.perm (zk (i := 1) rfl)) (pn rfl (PD.subH (HSub.perm (zk (i := 2) rfl)) (pn rfl ?_)))))))))
              exact pl3 (p + decW s p) bv17 (((bs ++ (⟨#[92, 120]⟩ : ByteArray).data.toList) ++ [u2]) ++ [u3]) (sa rfl) HSub.rfl' ⟨by have := zby s p hlt; omega, by (try simp only [la, lc, ln]); have := zay s p; have := zdc (decR s p); omega, by rw [hq, zbv hlt, piece_3 (by omega) (by omega) ⟨by have := hc14.1; omega, hc14.2⟩]; rw [← byteAt_at hu1]; rw [← hexB_at hu2, ← hexB_at hu3]; simp only [List.append_assoc, List.cons_append, List.nil_append]⟩ (by have := zay s p; omega)
            · simp only [bA, bB, bC, bD, bE, bF, bG, bH, bI, bJ] at hc14
              refine za rfl (oR 1 rfl (OpsD.subH (HSub.perm (zk (i := 2) rfl)) (on rfl (OpsD.subH (HSub.perm (zk (i := 2) rfl)) (on rfl (oE rfl (zx [.bx g1 186 (.agg [dP g1 0, .ov ov]), .sl ov 1 5 (bs.map dU8)] [.it g3 s (p + decW s p)] [] rfl rfl (.cons ArgC.id (.cons ArgC.id .nil)) zo Tryz.call166 (WriteRune_c g1 (.pointer (some ⟨g1, 0, none⟩)) ov bs (decR s p) (.inr rfl) (by (try simp only [la, lc, ln]); omega) (by omega)) (.inl rfl)) ?_))))))
              rintro _ _ ⟨_, ⟨bv18, nw19, rfl, rfl⟩, rfl⟩
              refine on rfl (zg rfl (zw (zw (PD.subH (HSub.perm (zk (i := 1) rfl)) (pn rfl (PD.subH (HSub.perm (zk (i := 1) rfl)) (pn rfl (PD.subH (HSub.perm (zk (i := 2) rfl)) (pn rfl ?_)))))))))
              exact pl3 (p + decW s p) bv18 (bs ++ encR (decR s p)) (sa rfl) HSub.rfl' ⟨by have := zby s p hlt; omega, by (try simp only [la, lc, ln]); have := zay s p; have := zdc (decR s p); omega, by rw [hq, zbv hlt, piece_4 (by omega) (by omega) (fun e => by rcases hc14 with h | h <;> first | exact h (by have := e.1; omega) | exact absurd (e.2.symm.trans h) (by decide))]; simp only [List.append_assoc, List.cons_append, List.nil_append]⟩ (by have := zay s p; omega)
  · skip
    have hrune := zcg hge
    refine jT rfl (oP rfl (p_next_f (i := 0) rfl rfl hge) (oR 1 rfl (oZ rfl (jS rfl (jCf rfl (zE rfl (zr (zn (zh (zc (jT rfl (OpsD.subH (HSub.perm (zk (i := 2) rfl)) (on rfl (OpsD.subH (HSub.perm (zk (i := 2) rfl)) (on rfl (oE rfl (zx [.bx g1 186 (.agg [dP g1 0, .ov ov]), .sl ov 1 5 (bs.map dU8)] [.it g3 s p] [] rfl rfl (.cons ArgC.id (.cons ArgC.id .nil)) zo Tryz.call165 (zcr g1 (.pointer (some ⟨g1, 0, none⟩)) ov bs (34 : UInt8) (.inr rfl) (by (try simp only [la, lc, ln]); omega)) (.inl rfl)) ?_))))))))))))))))
    rintro _ _ ⟨_, ⟨bv20, rfl, rfl⟩, rfl⟩
    refine on rfl (oZ rfl (jT rfl (oE rfl (zx [.bx g1 186 (.agg [dP g1 0, .ov bv20]), .sl bv20 1 5 ((bs ++ [(34 : UInt8)]).map dU8)] [.it g3 s p] [] rfl rfl (.cons ArgC.id .nil) zo Tryz.call169 (String_c g1 (.pointer (some ⟨g1, 0, none⟩)) bv20 (bs ++ [(34 : UInt8)]) (by simp)) (.inl rfl)) ?_)))
    rintro _ _ ⟨_, ⟨rfl, rfl⟩, rfl⟩
    refine on rfl (oR 1 rfl (oZ rfl (zs rfl ?_)))
    exact zj Tryz.results118 (.cons (zB (zf rfl) (Cv.eq (congrArg D.s (by rw [zch hge, List.append_nil] at hq; rw [← hq]; rfl)))) .nil) rfl HSub.none ⟨rfl, rfl⟩

theorem ext_mnz (args : Array Value) (w : World) : (callFunc 210 args).run Tryz.prog w = ((Extern.BytealgMakeNoZero.makeNoZero #[3] #[184] args).run Tryz.prog w).andThen fun v w' => .ok (.value v) w' :=
  run_callFunc_extern Tryz.func210 (by kernel_rfl) (by kernel_rfl) (by kernel_rfl) (e := Extern.BytealgMakeNoZero.makeNoZero #[3] #[184]) (by kernel_rfl) args w

theorem grow0_c (g n : Nat) (hn : n ≤ 1000000000000) :
    CD Tryz.prog 196 [.bx g 186 (.agg [dP g 0, .ov (.slice none 0 0)]), .sl (.slice none 0 0) 1 5 ([].map dU8)] [dP g 0, dN n] (fun r H' => ∃ v', r = .tup [] ∧ H' = [.bx g 186 (.agg [dP g 0, .ov v']), .sl v' 1 5 ([].map dU8)]) := by
  refine zy Tryz.func196 rfl (N := 30) rfl rfl (fun C => ?_)
  refine jk [0, 1] rfl (jS rfl (jk [0, 1] rfl (jn rfl ?_)))
  refine zbA 14 [(5, .q (dP g 0)), (6, .q (dP g 0)), (7, .q (dP g 1)), (8, .q (.ov (.slice none 0 0))), (9, .q (dI 0)), (10, .q (dI 0)), (11, .q (dN n)), (12, .q (dN (0 + n))), (13, .o (fun γ => [.sl (γ 8) 1 5 (List.replicate (0 + n) .any), .bx g 186 (.agg [dP g 0, .ov (.slice none 0 0)]), .sl (.slice none 0 0) 1 5 ([].map dU8)])), (14, .q (dP g 0)), (15, .q (dP g 0)), (16, .q (dP g 1)), (17, .q (.ov (.slice none 0 0))), (18, .q (dI 0))] [.bx g 186 (.agg [dP g 0, .ov (.slice none 0 0)]), .sl (.slice none 0 0) 1 5 ([].map dU8)] (Hn := fun γ => [.sl (γ 8) 1 5 (List.replicate (0 + n) .any), .bx g 186 (.agg [dP g 0, .ov (.slice none 0 0)]), .sl (.slice none 0 0) 1 5 ([].map dU8)]) zah rfl rfl (by kernel_rfl) (by kernel_rfl) (by kernel_rfl) HSub.rfl' (fun _ => rfl) (fun γ => ⟨so_p rfl rfl rfl (zm rfl), so_p rfl rfl rfl (za9 rfl), so_p rfl rfl rfl (zl rfl zaW rfl), so_p rfl rfl rfl (zz rfl (i := 0) rfl Tryz.isAgg184 rfl), so_p rfl rfl rfl (p_cap_nil rfl Tryz.runUnderlying184), so_p rfl rfl rfl (zdV (c := (0 : Int)) rfl rfl (zF (by omega) (by omega))), so_p rfl rfl rfl (zm rfl), so_p rfl rfl rfl (zS (c := ((0 + n : Nat) : Int)) rfl rfl (zF (by omega) (by omega))), so_o rfl rfl rfl rfl ((ef_makeNoZero (n := 0 + n) ext_mnz rfl (by kernel_rfl) (by omega)).mono (by rintro _ _ ⟨v, rfl, rfl⟩; exact ⟨v, rfl, rfl⟩)) (fun _ => HSub.lst 1 rfl), so_p rfl rfl rfl (zm rfl), so_p rfl rfl rfl (za9 rfl), so_p rfl rfl rfl (zl rfl zaW rfl), so_p rfl rfl rfl (zz rfl (i := 0) rfl Tryz.isAgg184 rfl), so_p rfl rfl rfl (zY (n := 0) (j := 1) rfl rfl Tryz.runUnderlying184 rfl), trivial⟩) (fun γ => ?_)
  refine ok [0, 1, 5, 6, 7, 8, 9, 10, 11, 12, 13, 14, 15, 16, 17, 18] rfl (oP rfl (p_slice_ownov (a := 0) (b := 0) (j := 0) rfl rfl rfl rfl rfl rfl Tryz.runUnderlying184 Tryz.sizeOf5 (Nat.zero_le _) (Nat.zero_le _)) (oR 1 rfl (oZ rfl (jk [0, 4] rfl (jS rfl (JD.subH (HSub.turn (h' := .sl (cut 1 (γ 8) 0 0) 1 5 []) (Hp.front_blk _) (Hp.front (m := 0) (Nat.zero_le _))) (jn rfl (JD.sub [(0, dP g 0), (4, .ov (cut 1 (γ 8) 0 0))] (sa rfl) (za rfl (oR 3 rfl (oP rfl (zl rfl zaW rfl) (oP rfl (zz rfl (i := 1) rfl Tryz.isAgg184 rfl) (oP rfl (p_copy0 (i := 0) rfl rfl rfl Tryz.runUnderlying184 Tryz.sizeOf5) (oZ rfl (za rfl (oR 3 rfl (oP rfl (zl rfl zaW rfl) (oE rfl (z4 (i := 1) (X' := .agg [dP g 0, .ov (cut 1 (γ 8) 0 0)]) rfl rfl rfl (CellD.o) Tryz.sizeOf184 rfl rfl rfl) ?_))))))))))))))))))
  rintro _ _ ⟨rfl, rfl⟩
  refine on rfl (zg rfl (PD.subH (HSub.perm (zk (i := 1) rfl)) (pn rfl ?_)))
  exact zaR Tryz.results196 .nil rfl (HSub.fst 2 rfl) ⟨(cut 1 (γ 8) 0 0), rfl, rfl⟩

theorem Grow0_c (g n : Nat) (p : Value) (hp : p = .pointer none ∨ p = .pointer (some ⟨g, 0, none⟩)) (hn : n ≤ 1000000000000) :
    CD Tryz.prog 170 [.bx g 186 (.agg [.v p, .ov (.slice none 0 0)]), .sl (.slice none 0 0) 1 5 ([].map dU8)] [dP g 0, dN n] (fun r H' => ∃ v', r = .tup [] ∧ H' = [.bx g 186 (.agg [dP g 0, .ov v']), .sl v' 1 5 ([].map dU8)]) := by
  refine zy Tryz.func170 rfl (N := 25) rfl rfl (fun C => ?_)
  refine jk [0, 1] rfl (jT rfl (oR 1 rfl (oE rfl (zx [.bx g 186 (.agg [.v p, .ov (.slice none 0 0)])] [.sl (.slice none 0 0) 1 5 ([].map dU8)] [] rfl rfl (.cons ArgC.id .nil) zo Tryz.call193 (copyCheck_c g p (.ov (.slice none 0 0)) hp) (.inl rfl)) ?_)))
  rintro _ _ ⟨_, ⟨rfl, rfl⟩, rfl⟩
  refine on rfl (oZ rfl (jS rfl (jT rfl (oR 1 rfl (oP rfl (zL rfl rfl rfl) (oZ rfl ?_))))))
  refine jD rfl (fun hc1 => ?_) (fun hc1 => ?_)
  · skip
    exfalso; omega
  · skip
    refine zq rfl (zc (jS rfl (jk [0, 1, 4, 5, 6, 7] rfl (jn rfl ?_))))
    refine z3 12 [(9, dP g 0, none), (10, dP g 0, none), (11, dP g 1, none), (12, .ov (.slice none 0 0), none), (13, dI 0, none), (14, dP g 0, none), (15, dP g 0, none), (16, dP g 1, none), (17, .ov (.slice none 0 0), none), (18, dI 0, none), (19, dI 0, none), (20, dN n, none)] [.bx g 186 (.agg [dP g 0, .ov (.slice none 0 0)]), .sl (.slice none 0 0) 1 5 ([].map dU8)] (Hn := [.bx g 186 (.agg [dP g 0, .ov (.slice none 0 0)]), .sl (.slice none 0 0) 1 5 ([].map dU8)]) zah rfl rfl rfl rfl HSub.rfl' rfl ⟨sa_p rfl rfl rfl (zm rfl), sa_p rfl rfl rfl (za9 rfl), sa_p rfl rfl rfl (zl rfl zaW rfl), sa_p rfl rfl rfl (zz rfl (i := 0) rfl Tryz.isAgg184 rfl), sa_p rfl rfl rfl (p_cap_nil rfl Tryz.runUnderlying184), sa_p rfl rfl rfl (zm rfl), sa_p rfl rfl rfl (za9 rfl), sa_p rfl rfl rfl (zl rfl zaW rfl), sa_p rfl rfl rfl (zz rfl (i := 0) rfl Tryz.isAgg184 rfl), sa_p rfl rfl rfl (zY (n := 0) (j := 1) rfl rfl Tryz.runUnderlying184 rfl), sa_p rfl rfl rfl (zaG (c := (0 : Int)) rfl rfl (zF (by omega) (by omega))), sa_p rfl rfl rfl (zm rfl), trivial⟩ ?_
    refine ok [0, 1, 4, 5, 6, 7, 9, 10, 11, 12, 13, 14, 15, 16, 17, 18, 19, 20] rfl (oP rfl (zL rfl rfl rfl) (oZ rfl (jk [0, 1, 21] rfl ?_)))
    refine jD rfl (fun hc2 => ?_) (fun hc2 => ?_)
    · skip
      refine za rfl (oR 2 rfl (oE rfl (zx [.bx g 186 (.agg [dP g 0, .ov (.slice none 0 0)]), .sl (.slice none 0 0) 1 5 ([].map dU8)] [] [] rfl rfl (.cons ArgC.id (.cons ArgC.id .nil)) zo Tryz.call196 (grow0_c g n (by omega)) (.inl rfl)) ?_))
      rintro _ _ ⟨_, ⟨bv3, rfl, rfl⟩, rfl⟩
      refine on rfl (zg rfl ?_)
      exact zaR Tryz.results170 .nil rfl (HSub.fst 2 rfl) ⟨bv3, rfl, rfl⟩
    · skip
      refine zq rfl ?_
      exact zaR Tryz.results170 .nil rfl (HSub.fst 2 rfl) ⟨(.slice none 0 0), rfl, rfl⟩

theorem Join_c (l : List ByteArray) (sep : ByteArray) (hl : l.length ≤ 1000000) (hs : zbd l ≤ 1000000000) (h0 : 0 < sep.size) (h1 : sep.size ≤ 1000) :
    CD Tryz.prog 119 [] [.sh 1 (l.map D.s), .s sep] (isR (D.s (zd8 sep l))) := by
  refine zy Tryz.func119 rfl (N := 75) rfl rfl (fun C => ?_)
  refine jk [0, 1] rfl ?_
  refine JD.bd 0 rfl (fun bd0 => ?_)
  have nl0 := zZ bd0
  refine JD.bd 1 rfl (fun bd1 => ?_)
  have sz1 : sep.size ≤ 9223372036854775807 := bd1
  refine jT rfl (oR 1 rfl (oZ rfl (jS rfl (jT rfl (oR 1 rfl (oP rfl (zae (n := l.length) rfl Tryz.runUnderlying23 (by simp only [lm, lc, ln])) (oZ rfl (jB rfl (jT rfl (oP rfl (zV rfl rfl rfl) (oR 1 rfl (oZ rfl ?_))))))))))))
  refine jD rfl (fun hc1 => ?_) (fun hc1 => ?_)
  · skip
    refine jT rfl (oR 1 rfl (oZ rfl (zs rfl (zi (ze ?_)))))
    exact zj Tryz.results119 (.cons (zB (zf rfl) (((Cv.str (by first | decide | (unfold maxLen; omega)))).trans (Cv.eq (congrArg D.s (by exact joinB_none (by omega)))))) .nil) rfl HSub.none ⟨rfl, rfl⟩
  · skip
    refine jT rfl (oP rfl (zV rfl rfl rfl) (oR 1 rfl (oZ rfl ?_)))
    refine jD rfl (fun hc2 => ?_) (fun hc2 => ?_)
    · skip
      refine jT rfl (oR 1 rfl ?_)
      obtain ⟨x1, hx1⟩ := zG l 0 (by (try simp only [ld]); omega)
      have hsk0 := zdo l 1
      have hsx0 : zbd (l.take 1) = zbd (l.take 0) + x1.size := zcf hx1
      refine oP rfl (zC (k := 0) rfl rfl Tryz.runUnderlying23 Tryz.sizeOf9 (by first | rfl | omega) (zt hx1)) (oP rfl (zH rfl Tryz.isAgg9 rfl) (oR 1 rfl (oZ rfl (jk [0, 1, 4] rfl (zs rfl (zi (ze ?_)))))))
      exact zj Tryz.results119 (.cons (zB (zf rfl) (Cv.eq (congrArg D.s (by exact joinB_one hx1 (by omega))))) .nil) rfl HSub.none ⟨rfl, rfl⟩
    · skip
      refine zq rfl (zw (zc (jT rfl (oR 1 rfl (oZ rfl (jS rfl (jT rfl (oR 1 rfl (oP rfl (zas rfl Tryz.runUnderlying9) (oP rfl (zaz rfl rfl rfl) (oZ rfl ?_)))))))))))
      refine jD rfl (fun hc3 => ?_) (fun hc3 => ?_)
      · skip
        refine jS rfl (jT rfl (oR 1 rfl (oP rfl (zas rfl Tryz.runUnderlying9) (oR 1 rfl (oP rfl (zae (n := l.length) rfl Tryz.runUnderlying23 (by simp only [lm, lc, ln])) (oP rfl (zaG (c := ((l.length - 1 : Nat) : Int)) rfl rfl (zF (by omega) (by omega))) ?_))))))
        obtain ⟨q, hq, hq1, hq2⟩ : ∃ q : Nat, 9223372036854775807 / (l.length - 1) = q ∧ 1001 ≤ q ∧ q ≤ 9223372036854775807 := ⟨_, rfl, (Nat.le_div_iff_mul_le (by omega)).2 (by omega), Nat.div_le_self _ _⟩
        refine oP rfl (zel (c := ((q : Nat) : Int)) rfl rfl (by omega) (zF (by rw [Int.tdiv_eq_ediv_of_nonneg (by omega), ← hq]; first | exact Int.natCast_ediv _ _ | exact (Int.natCast_ediv _ _).symm) (by omega))) (oP rfl (z8 rfl rfl rfl) (oZ rfl (jk [0, 1, 4, 5, 29] rfl ?_)))
        refine jD rfl (fun hc4 => ?_) (fun hc4 => ?_)
        · skip
          exfalso; omega
        · skip
          refine zq rfl (zc (za rfl (oR 2 rfl (oP rfl (zas rfl Tryz.runUnderlying9) (oR 1 rfl (oP rfl (zae (n := l.length) rfl Tryz.runUnderlying23 (by simp only [lm, lc, ln])) (oP rfl (zaG (c := ((l.length - 1 : Nat) : Int)) rfl rfl (zF (by omega) (by omega))) ?_)))))))
          obtain ⟨m, hm, hm1⟩ : ∃ m : Nat, sep.size * (l.length - 1) = m ∧ m ≤ 1000000000 := ⟨_, rfl, Nat.le_trans (Nat.mul_le_mul h1 (show (l.length - 1) ≤ 1000000 by omega)) (by decide)⟩
          refine oP rfl (zdV (c := ((m : Nat) : Int)) rfl rfl (zF (by rw [← hm]; first | exact Int.natCast_mul _ _ | exact (Int.natCast_mul _ _).symm) (by omega))) (oP rfl (zS (c := ((0 + m : Nat) : Int)) rfl rfl (zF (by omega) (by omega))) (oR 1 rfl (oZ rfl (jk [0, 1, 4, 5] rfl (jS rfl (jT rfl (oR 1 rfl (oP rfl (zae (n := l.length) rfl Tryz.runUnderlying23 (by simp only [lm, lc, ln])) (oR 1 rfl (oZ rfl (jB rfl (jl2 (fun (a_ : Nat) (b_ : Nat) => [(0, .sh 1 (l.map D.s)), (1, .s sep), (4, .v (.string ByteArray.empty)), (39, .sh 1 (l.map D.s)), (40, dN l.length), (41, dN a_), (5, dN b_)]) (fun a_ b_ => []) (fun a_ b_ => (b_ ≤ 1000000000 + zbd (l.take a_))) (fun a_ b_ => l.length - a_) 0 (0 + m) rfl (sa rfl) HSub.rfl' (by show _ ≤ _ + zbd (l.take 0); omega) ?_))))))))))))
          rintro k n hn
          refine ja rfl (jn rfl ?_)
          have hskk := zdo l k
          refine jT rfl (oP rfl (zL rfl rfl rfl) (oZ rfl (jS rfl ?_)))
          refine jD rfl (fun hc5 => ?_) (fun hc5 => ?_)
          · skip
            refine zq rfl (zc (jS rfl (jB rfl (jT rfl ?_))))
            obtain ⟨x2, hx2⟩ := zG l k (by (try simp only [ld]); omega)
            have hsk := zdo l (k + 1)
            have hsx := zcf hx2
            refine oP rfl (zC (k := k) rfl rfl Tryz.runUnderlying23 Tryz.sizeOf9 (by first | rfl | omega) (zt hx2)) (oP rfl (zH rfl Tryz.isAgg9 rfl) (oR 1 rfl (oZ rfl (jS rfl (jT rfl (oR 1 rfl (oP rfl (zas rfl Tryz.runUnderlying9) (oR 1 rfl (oP rfl (zaG (c := ((9223372036854775807 - n : Nat) : Int)) rfl rfl (zF (by omega) (by omega))) (oP rfl (zaz rfl rfl rfl) (oZ rfl ?_)))))))))))
            refine jD rfl (fun hc6 => ?_) (fun hc6 => ?_)
            · skip
              exfalso; omega
            · skip
              refine zq rfl (zc (za rfl (oR 2 rfl (oP rfl (zas rfl Tryz.runUnderlying9) (oP rfl (zS (c := ((n + x2.size : Nat) : Int)) rfl rfl (zF (by omega) (by omega))) (oR 1 rfl (zg rfl (zw (zc (za rfl (oP rfl (zS (c := ((k + 1 : Nat) : Int)) rfl rfl (zF (by omega) (by omega))) (oR 1 rfl (zg rfl ?_)))))))))))))
              exact pl2 (k + 1) (n + x2.size) (sa rfl) HSub.rfl' (by have := zcf hx2; show _ ≤ 1000000000 + zbd (l.take (k + 1)); omega) (by omega)
          · skip
            refine zE rfl (zr (zn (zh (zc (jT rfl (oE rfl (zaL (zv := (.agg #[(.pointer none), (.slice none 0 0)])) (X := .agg [.v (.pointer none), .ov (.slice none 0 0)]) Tryz.zeroValue186 ⟨rfl, rfl, trivial⟩ ((Cv.vagg (by decide)).trans (Cv.agg (.cons Cv.rfl' (.cons (Cv.ov rfl) .nil))))) ?_))))))
            rintro _ _ ⟨g7, rfl, rfl⟩
            refine OpsD.subH (HSub.nil 1 5) (on rfl (oZ rfl (jT rfl (oR 1 rfl (OpsD.subH (HSub.perm (zk (i := 1) rfl)) (on rfl (oE rfl (zx [.bx g7 186 (.agg [.v (.pointer none), .ov (.slice none 0 0)]), .sl (.slice none 0 0) 1 5 ([].map dU8)] [] [] rfl rfl (.cons ArgC.id (.cons ArgC.id .nil)) zo Tryz.call170 (Grow0_c g7 n (.pointer none) (.inl rfl) (by omega)) (.inl rfl)) ?_)))))))
            rintro _ _ ⟨_, ⟨bv8, rfl, rfl⟩, rfl⟩
            refine on rfl (oZ rfl (jT rfl (oR 1 rfl ?_)))
            obtain ⟨x1, hx1⟩ := zG l 0 (by (try simp only [ld]); omega)
            have hsk0 := zdo l 1
            have hsx0 : zbd (l.take 1) = zbd (l.take 0) + x1.size := zcf hx1
            refine oP rfl (zC (k := 0) rfl rfl Tryz.runUnderlying23 Tryz.sizeOf9 (by first | rfl | omega) (zt hx1)) (oP rfl (zH rfl Tryz.isAgg9 rfl) (oE rfl (zx [.bx g7 186 (.agg [dP g7 0, .ov bv8]), .sl bv8 1 5 ([].map dU8)] [] [] rfl rfl (.cons ArgC.id (.cons ArgC.id .nil)) zo Tryz.call167 (zbS g7 (.pointer (some ⟨g7, 0, none⟩)) bv8 [] x1 (.inr rfl) (by (try simp only [la, lc, ln, zbX]); omega) (by first | decide | omega)) (.inl rfl)) ?_))
            rintro _ _ ⟨_, ⟨bv9, rfl, rfl⟩, rfl⟩
            refine on rfl (oZ rfl (jk [0, 1, 4, 8] rfl (jS rfl (jT rfl (oR 1 rfl (oP rfl ((p_slice (a := 1) (b := l.length) rfl rfl rfl (by first | rfl | (show _ = _; omega)) (by first | rfl | exact List.length_map _) Tryz.runUnderlying23 Tryz.sizeOf9 (by omega) (by simp only [lm]; omega)).cv (Cv.eq (by rw [← List.map_take, ← List.map_drop, List.take_length]))) (oP rfl (zae (n := (l.drop 1).length) rfl Tryz.runUnderlying23 (by simp only [lm, lc, ln])) (oR 1 rfl (oZ rfl (jB rfl (jl3 (fun (a_ : Nat) (b_ : Value) (c_ : List UInt8) => [(1, .s sep), (4, .v (.string ByteArray.empty)), (8, dP g7 0), (63, .sh 1 ((l.drop 1).map D.s)), (64, dN ((l.drop 1).length)), (65, dN a_)]) (fun a_ b_ c_ => [.bx g7 186 (.agg [dP g7 0, .ov b_]), .sl b_ 1 5 (c_.map dU8)]) (fun a_ b_ c_ => (c_ = zb3 sep (l.take (a_ + 1))) ∧ (c_.length ≤ (a_ + 1) * 1000 + zbd (l.take (a_ + 1))) ∧ (a_ = 0 ∨ c_ ≠ [])) (fun a_ b_ c_ => l.length - a_) 0 bv9 ([] ++ x1.data.toList) rfl (sa rfl) HSub.rfl' ⟨by rw [joinL_one hx1]; rfl, by have : zbd (l.take 1) = zbd (l.take 0) + _ := zcf hx1; show _ ≤ (0 + 1) * 1000 + zbd (l.take 1); (try simp only [la, ln, zbX]); omega, .inl rfl⟩ ?_)))))))))))
            rintro j ov bs ⟨hbs, hlb, hne⟩
            refine ja rfl (jn rfl ?_)
            have hld : (l.drop 1).length = l.length - 1 := List.length_drop
            refine jT rfl (oP rfl (zL rfl rfl rfl) (oZ rfl (jS rfl ?_)))
            refine jD rfl (fun hc10 => ?_) (fun hc10 => ?_)
            · skip
              refine zq rfl (zc (jS rfl (jB rfl (jT rfl ?_))))
              obtain ⟨x3, hx3⟩ := zG (l.drop 1) j (by (try simp only [ld]); omega)
              have hsj := zdo l (j + 2)
              have hsx : zbd (l.take (j + 2)) = zbd (l.take (j + 1)) + x3.size := zcf (show l[j + 1]? = some x3 by have hx := hx3; rw [List.getElem?_drop, Nat.add_comm 1 j] at hx; exact hx)
              refine oP rfl (zC (k := j) rfl rfl Tryz.runUnderlying23 Tryz.sizeOf9 (by first | rfl | omega) (zt hx3)) (oP rfl (zH rfl Tryz.isAgg9 rfl) (oR 1 rfl (oZ rfl (jT rfl (oR 1 rfl (oE rfl (zx [.bx g7 186 (.agg [dP g7 0, .ov ov]), .sl ov 1 5 (bs.map dU8)] [] [] rfl rfl (.cons ArgC.id (.cons ArgC.id .nil)) zo Tryz.call167 (zbS g7 (.pointer (some ⟨g7, 0, none⟩)) ov bs sep (.inr rfl) (by (try simp only [la, lc, ln, zbX]); omega) (by first | decide | omega)) (.inl rfl)) ?_))))))
              rintro _ _ ⟨_, ⟨bv11, rfl, rfl⟩, rfl⟩
              refine on rfl (oZ rfl (za rfl (oR 1 rfl (oE rfl (zx [.bx g7 186 (.agg [dP g7 0, .ov bv11]), .sl bv11 1 5 ((bs ++ sep.data.toList).map dU8)] [] [] rfl rfl (.cons ArgC.id (.cons ArgC.id .nil)) zo Tryz.call167 (zbS g7 (.pointer (some ⟨g7, 0, none⟩)) bv11 (bs ++ sep.data.toList) x3 (.inr rfl) (by (try simp only [la, lc, ln, zbX]); omega) (by first | decide | omega)) (.inl rfl)) ?_))))
              rintro _ _ ⟨_, ⟨bv12, rfl, rfl⟩, rfl⟩
              refine on rfl (zg rfl (zw (zc (za rfl (oP rfl (zS (c := ((j + 1 : Nat) : Int)) rfl rfl (zF (by omega) (by omega))) (oR 1 rfl (zg rfl ?_)))))))
              exact pl3 (j + 1) bv12 ((bs ++ sep.data.toList) ++ x3.data.toList) (sa rfl) HSub.rfl' ⟨by have hx := hx3; rw [List.getElem?_drop, Nat.add_comm 1 j] at hx; rw [joinL_take hx, hbs], by have hx := hx3; rw [List.getElem?_drop, Nat.add_comm 1 j] at hx; show _ ≤ (j + 1 + 1) * 1000 + zbd (l.take (j + 2)); (try simp only [la, zbX]); omega, .inr (by intro e; have := congrArg List.length e; simp only [la, zbX, ln] at this; omega)⟩ (by omega)
            · skip
              refine zE rfl (zr (zn (zh (zc (jT rfl (oE rfl (zx [.bx g7 186 (.agg [dP g7 0, .ov ov]), .sl ov 1 5 (bs.map dU8)] [] [] rfl rfl (.cons ArgC.id .nil) zo Tryz.call169 (String_c g7 (.pointer (some ⟨g7, 0, none⟩)) ov bs (hne.resolve_left (by omega))) (.inl rfl)) ?_))))))
              rintro _ _ ⟨_, ⟨rfl, rfl⟩, rfl⟩
              refine on rfl (oR 1 rfl (oZ rfl (zs rfl ?_)))
              exact zj Tryz.results119 (.cons (zB (zf rfl) (Cv.eq (congrArg D.s (by exact joinB_all hbs (by omega))))) .nil) rfl HSub.none ⟨rfl, rfl⟩
      · skip
        exfalso; omega
end Lp
