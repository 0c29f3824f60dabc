/- Walks, printed by a program of mine. -/
import Derived.Test.YtfjinapgehafiaaGreatV27
set_option linter.unusedSimpArgs false
set_option linter.unusedVariables false
set_option maxHeartbeats 4000000
set_option maxRecDepth 100000
namespace Lp
open Go Go.RowKit Go.Proofs
abbrev zu (a16 a17 : Value) : D := .agg [dZ, dZ, dZ, dZ, dZ, dZ, dZ, dZ, dZ, dZ, dZ, dZ, dZ, dZ, dZ, dZ, .ov a16, .ov a17, dZ, dZ]

namespace HdYtfjinapgehafiaaGreatV28R
theorem fa_39_0 (b o : Nat) : ∀ w, (Instr.fieldAt 39 (.pointer (some ⟨b, o, none⟩)) 0).run Tryz.prog w = .ok (.pointer (some ⟨b, o + 0, none⟩)) w := fun _ => by kernel_rfl
theorem fa_39_10 (b o : Nat) : ∀ w, (Instr.fieldAt 39 (.pointer (some ⟨b, o, none⟩)) 10).run Tryz.prog w = .ok (.pointer (some ⟨b, o + 10, none⟩)) w := fun _ => by kernel_rfl
theorem fa_39_12 (b o : Nat) : ∀ w, (Instr.fieldAt 39 (.pointer (some ⟨b, o, none⟩)) 12).run Tryz.prog w = .ok (.pointer (some ⟨b, o + 12, none⟩)) w := fun _ => by kernel_rfl
theorem fa_39_14 (b o : Nat) : ∀ w, (Instr.fieldAt 39 (.pointer (some ⟨b, o, none⟩)) 14).run Tryz.prog w = .ok (.pointer (some ⟨b, o + 14, none⟩)) w := fun _ => by kernel_rfl
theorem zbo (b o : Nat) : ∀ w, (Instr.fieldAt 39 (.pointer (some ⟨b, o, none⟩)) 16).run Tryz.prog w = .ok (.pointer (some ⟨b, o + 16, none⟩)) w := fun _ => by kernel_rfl
theorem fa_39_18 (b o : Nat) : ∀ w, (Instr.fieldAt 39 (.pointer (some ⟨b, o, none⟩)) 18).run Tryz.prog w = .ok (.pointer (some ⟨b, o + 18, none⟩)) w := fun _ => by kernel_rfl
theorem zdM (b o : Nat) : ∀ w, (Instr.fieldAt 39 (.pointer (some ⟨b, o, none⟩)) 2).run Tryz.prog w = .ok (.pointer (some ⟨b, o + 2, none⟩)) w := fun _ => by kernel_rfl
theorem fa_39_4 (b o : Nat) : ∀ w, (Instr.fieldAt 39 (.pointer (some ⟨b, o, none⟩)) 4).run Tryz.prog w = .ok (.pointer (some ⟨b, o + 4, none⟩)) w := fun _ => by kernel_rfl
theorem fa_39_6 (b o : Nat) : ∀ w, (Instr.fieldAt 39 (.pointer (some ⟨b, o, none⟩)) 6).run Tryz.prog w = .ok (.pointer (some ⟨b, o + 6, none⟩)) w := fun _ => by kernel_rfl
theorem fa_39_8 (b o : Nat) : ∀ w, (Instr.fieldAt 39 (.pointer (some ⟨b, o, none⟩)) 8).run Tryz.prog w = .ok (.pointer (some ⟨b, o + 8, none⟩)) w := fun _ => by kernel_rfl
end HdYtfjinapgehafiaaGreatV28R
open HdYtfjinapgehafiaaGreatV28R

theorem stillTexts_0 (gb : Nat) (c1 c2 c3 c4 c5 c6 c7 c8 c9 c10 c11 c12 c13 c14 c15 c16 c17 c18 c19 : D)  :
    CD Tryz.prog 58 [.bx gb 39 (.agg [dZ, c1, c2, c3, c4, c5, c6, c7, c8, c9, c10, c11, c12, c13, c14, c15, c16, c17, c18, c19])] [dP gb 0] (fun r H' => r = dB true ∧ H' = [.bx gb 39 (.agg [dZ, c1, c2, c3, c4, c5, c6, c7, c8, c9, c10, c11, c12, c13, c14, c15, c16, c17, c18, c19])]) := by
  refine zy Tryz.func58 rfl (N := 29) rfl rfl (fun C => ?_)
  refine jk [0] rfl (jT rfl (oR 1 rfl (oZ rfl (jS rfl (jT rfl (oR 1 rfl (oZ rfl (jB rfl (jl1 (fun (_ : Unit) => [(0, dP gb 0), (3, dI 0)]) (fun _ => [.bx gb 39 (.agg [dZ, c1, c2, c3, c4, c5, c6, c7, c8, c9, c10, c11, c12, c13, c14, c15, c16, c17, c18, c19])]) (fun _ => True) (fun _ => 0) () rfl (sa rfl) HSub.rfl' trivial ?_)))))))))
  rintro _ _
  refine ja rfl (jn rfl (jS rfl (jT rfl (oR 3 rfl (oP rfl (zl rfl fa_39_0 rfl) (oP rfl (zz rfl (i := 0) rfl Tryz.isAgg28 rfl) (oP rfl (zad (n := 0) rfl ⟨_, _, rfl⟩ Tryz.runUnderlying28) (oP rfl (zL rfl rfl rfl) (oZ rfl ?_)))))))))
  refine jD rfl (fun hc1 => ?_) (fun hc1 => ?_)
  · skip
    exfalso; omega
  · skip
    refine zE rfl (zr (zn (zh (zc (jk [] rfl (jT rfl (oR 1 rfl (oZ rfl (zs rfl ?_)))))))))
    exact zj Tryz.results58 (.cons (zf rfl) .nil) rfl HSub.rfl' ⟨rfl, rfl⟩

theorem putTexts_0 (gb : Nat) (c1 c2 c3 c4 c5 c6 c7 c8 c9 c10 c11 c12 c13 c14 c15 c16 c17 c18 c19 : D)  :
    CD Tryz.prog 70 [.bx gb 39 (.agg [dZ, c1, c2, c3, c4, c5, c6, c7, c8, c9, c10, c11, c12, c13, c14, c15, c16, c17, c18, c19])] [dP gb 0] (fun r H' => r = .tup [] ∧ H' = [.bx gb 39 (.agg [dZ, c1, c2, c3, c4, c5, c6, c7, c8, c9, c10, c11, c12, c13, c14, c15, c16, c17, c18, c19])]) := by
  refine zy Tryz.func70 rfl (N := 43) rfl rfl (fun C => ?_)
  refine jk [0] rfl (jT rfl (oR 1 rfl (oZ rfl (jB rfl (jl1 (fun (_ : Unit) => [(0, dP gb 0), (2, dI 0)]) (fun _ => [.bx gb 39 (.agg [dZ, c1, c2, c3, c4, c5, c6, c7, c8, c9, c10, c11, c12, c13, c14, c15, c16, c17, c18, c19])]) (fun _ => True) (fun _ => 0) () rfl (sa rfl) HSub.rfl' trivial ?_)))))
  rintro _ _
  refine ja rfl (jn rfl (jS rfl (jT rfl (oR 3 rfl (oP rfl (zl rfl fa_39_0 rfl) (oP rfl (zz rfl (i := 0) rfl Tryz.isAgg28 rfl) (oP rfl (zad (n := 0) rfl ⟨_, _, rfl⟩ Tryz.runUnderlying28) (oP rfl (zL rfl rfl rfl) (oZ rfl ?_)))))))))
  refine jD rfl (fun hc1 => ?_) (fun hc1 => ?_)
  · skip
    exfalso; omega
  · skip
    refine zE rfl (zr (zn (zh ?_)))
    exact zaR Tryz.results70 .nil rfl HSub.rfl' ⟨rfl, rfl⟩

theorem growTexts_0 (gb : Nat) (c1 c2 c3 c4 c5 c6 c7 c8 c9 c10 c11 c12 c13 c14 c15 c16 c17 c18 c19 : D)  :
    CD Tryz.prog 78 [.bx gb 39 (.agg [dZ, c1, c2, c3, c4, c5, c6, c7, c8, c9, c10, c11, c12, c13, c14, c15, c16, c17, c18, c19])] [dP gb 0] (fun r H' => r = dZ ∧ H' = [.bx gb 39 (.agg [dZ, c1, c2, c3, c4, c5, c6, c7, c8, c9, c10, c11, c12, c13, c14, c15, c16, c17, c18, c19])]) := by
  refine zy Tryz.func78 rfl (N := 43) rfl rfl (fun C => ?_)
  refine jk [0] rfl (jT rfl (oR 1 rfl (oZ rfl (jT rfl (oR 1 rfl (oZ rfl (jS rfl (jT rfl (oR 1 rfl (oZ rfl (jB rfl (jl1 (fun (_ : Unit) => [(0, dP gb 0), (2, dZ), (4, dI 0), (3, dZ)]) (fun _ => [.bx gb 39 (.agg [dZ, c1, c2, c3, c4, c5, c6, c7, c8, c9, c10, c11, c12, c13, c14, c15, c16, c17, c18, c19])]) (fun _ => True) (fun _ => 0) () rfl (sa rfl) HSub.rfl' trivial ?_))))))))))))
  rintro _ _
  refine ja rfl (jn rfl (jS rfl (jT rfl (oR 3 rfl (oP rfl (zl rfl fa_39_0 rfl) (oP rfl (zz rfl (i := 0) rfl Tryz.isAgg28 rfl) (oP rfl (zad (n := 0) rfl ⟨_, _, rfl⟩ Tryz.runUnderlying28) (oP rfl (zL rfl rfl rfl) (oZ rfl ?_)))))))))
  refine jD rfl (fun hc1 => ?_) (fun hc1 => ?_)
  · skip
    exfalso; omega
  · skip
    refine zE rfl (zr (zn (zh (zc (jk [2, 3] rfl (jT rfl (oR 2 rfl (oZ rfl (zs rfl ?_)))))))))
    exact zj Tryz.results78 (.cons (zf rfl) .nil) rfl HSub.rfl' ⟨rfl, rfl⟩

theorem markedTexts_0   :
    CD Tryz.prog 88 [] [dZ] (isR (dB true)) := by
  refine zy Tryz.func88 rfl (N := 23) rfl rfl (fun C => ?_)
  refine jk [0] rfl (jT rfl (oR 1 rfl (oZ rfl (jS rfl (jT rfl (oR 1 rfl (oZ rfl (jB rfl (jl1 (fun (_ : Unit) => [(0, dZ), (3, dI 0)]) (fun _ => []) (fun _ => True) (fun _ => 0) () rfl (sa rfl) HSub.rfl' trivial ?_)))))))))
  rintro _ _
  refine ja rfl (jn rfl (jS rfl (jT rfl (oR 2 rfl (oP rfl (zad (n := 0) rfl ⟨_, _, rfl⟩ Tryz.runUnderlying28) (oP rfl (zL rfl rfl rfl) (oZ rfl ?_)))))))
  refine jD rfl (fun hc1 => ?_) (fun hc1 => ?_)
  · skip
    exfalso; omega
  · skip
    refine zE rfl (zr (zn (zh (zc (jT rfl (oR 1 rfl (oZ rfl (zs rfl ?_))))))))
    exact zj Tryz.results88 (.cons (zf rfl) .nil) rfl HSub.rfl' ⟨rfl, rfl⟩

theorem stillInts_0 (gb : Nat) (c0 c1 c3 c4 c5 c6 c7 c8 c9 c10 c11 c12 c13 c14 c15 c16 c17 c18 c19 : D)  :
    CD Tryz.prog 59 [.bx gb 39 (.agg [c0, c1, dZ, c3, c4, c5, c6, c7, c8, c9, c10, c11, c12, c13, c14, c15, c16, c17, c18, c19])] [dP gb 0] (fun r H' => r = dB true ∧ H' = [.bx gb 39 (.agg [c0, c1, dZ, c3, c4, c5, c6, c7, c8, c9, c10, c11, c12, c13, c14, c15, c16, c17, c18, c19])]) := by
  refine zy Tryz.func59 rfl (N := 29) rfl rfl (fun C => ?_)
  refine jk [0] rfl (jT rfl (oR 1 rfl (oZ rfl (jS rfl (jT rfl (oR 1 rfl (oZ rfl (jB rfl (jl1 (fun (_ : Unit) => [(0, dP gb 0), (3, dI 0)]) (fun _ => [.bx gb 39 (.agg [c0, c1, dZ, c3, c4, c5, c6, c7, c8, c9, c10, c11, c12, c13, c14, c15, c16, c17, c18, c19])]) (fun _ => True) (fun _ => 0) () rfl (sa rfl) HSub.rfl' trivial ?_)))))))))
  rintro _ _
  refine ja rfl (jn rfl (jS rfl (jT rfl (oR 3 rfl (oP rfl (zl rfl zdM rfl) (oP rfl (zz rfl (i := 0) rfl Tryz.isAgg29 rfl) (oP rfl (zad (n := 0) rfl ⟨_, _, rfl⟩ Tryz.runUnderlying29) (oP rfl (zL rfl rfl rfl) (oZ rfl ?_)))))))))
  refine jD rfl (fun hc1 => ?_) (fun hc1 => ?_)
  · skip
    exfalso; omega
  · skip
    refine zE rfl (zr (zn (zh (zc (jk [] rfl (jT rfl (oR 1 rfl (oZ rfl (zs rfl ?_)))))))))
    exact zj Tryz.results59 (.cons (zf rfl) .nil) rfl HSub.rfl' ⟨rfl, rfl⟩

theorem putInts_0 (gb : Nat) (c0 c1 c3 c4 c5 c6 c7 c8 c9 c10 c11 c12 c13 c14 c15 c16 c17 c18 c19 : D)  :
    CD Tryz.prog 71 [.bx gb 39 (.agg [c0, c1, dZ, c3, c4, c5, c6, c7, c8, c9, c10, c11, c12, c13, c14, c15, c16, c17, c18, c19])] [dP gb 0] (fun r H' => r = .tup [] ∧ H' = [.bx gb 39 (.agg [c0, c1, dZ, c3, c4, c5, c6, c7, c8, c9, c10, c11, c12, c13, c14, c15, c16, c17, c18, c19])]) := by
  refine zy Tryz.func71 rfl (N := 43) rfl rfl (fun C => ?_)
  refine jk [0] rfl (jT rfl (oR 1 rfl (oZ rfl (jB rfl (jl1 (fun (_ : Unit) => [(0, dP gb 0), (2, dI 0)]) (fun _ => [.bx gb 39 (.agg [c0, c1, dZ, c3, c4, c5, c6, c7, c8, c9, c10, c11, c12, c13, c14, c15, c16, c17, c18, c19])]) (fun _ => True) (fun _ => 0) () rfl (sa rfl) HSub.rfl' trivial ?_)))))
  rintro _ _
  refine ja rfl (jn rfl (jS rfl (jT rfl (oR 3 rfl (oP rfl (zl rfl zdM rfl) (oP rfl (zz rfl (i := 0) rfl Tryz.isAgg29 rfl) (oP rfl (zad (n := 0) rfl ⟨_, _, rfl⟩ Tryz.runUnderlying29) (oP rfl (zL rfl rfl rfl) (oZ rfl ?_)))))))))
  refine jD rfl (fun hc1 => ?_) (fun hc1 => ?_)
  · skip
    exfalso; omega
  · skip
    refine zE rfl (zr (zn (zh ?_)))
    exact zaR Tryz.results71 .nil rfl HSub.rfl' ⟨rfl, rfl⟩

theorem growInts_0 (gb : Nat) (c0 c1 c3 c4 c5 c6 c7 c8 c9 c10 c11 c12 c13 c14 c15 c16 c17 c18 c19 : D)  :
    CD Tryz.prog 79 [.bx gb 39 (.agg [c0, c1, dZ, c3, c4, c5, c6, c7, c8, c9, c10, c11, c12, c13, c14, c15, c16, c17, c18, c19])] [dP gb 0] (fun r H' => r = dZ ∧ H' = [.bx gb 39 (.agg [c0, c1, dZ, c3, c4, c5, c6, c7, c8, c9, c10, c11, c12, c13, c14, c15, c16, c17, c18, c19])]) := by
  refine zy Tryz.func79 rfl (N := 43) rfl rfl (fun C => ?_)
  refine jk [0] rfl (jT rfl (oR 1 rfl (oZ rfl (jT rfl (oR 1 rfl (oZ rfl (jS rfl (jT rfl (oR 1 rfl (oZ rfl (jB rfl (jl1 (fun (_ : Unit) => [(0, dP gb 0), (2, dZ), (4, dI 0), (3, dZ)]) (fun _ => [.bx gb 39 (.agg [c0, c1, dZ, c3, c4, c5, c6, c7, c8, c9, c10, c11, c12, c13, c14, c15, c16, c17, c18, c19])]) (fun _ => True) (fun _ => 0) () rfl (sa rfl) HSub.rfl' trivial ?_))))))))))))
  rintro _ _
  refine ja rfl (jn rfl (jS rfl (jT rfl (oR 3 rfl (oP rfl (zl rfl zdM rfl) (oP rfl (zz rfl (i := 0) rfl Tryz.isAgg29 rfl) (oP rfl (zad (n := 0) rfl ⟨_, _, rfl⟩ Tryz.runUnderlying29) (oP rfl (zL rfl rfl rfl) (oZ rfl ?_)))))))))
  refine jD rfl (fun hc1 => ?_) (fun hc1 => ?_)
  · skip
    exfalso; omega
  · skip
    refine zE rfl (zr (zn (zh (zc (jk [2, 3] rfl (jT rfl (oR 2 rfl (oZ rfl (zs rfl ?_)))))))))
    exact zj Tryz.results79 (.cons (zf rfl) .nil) rfl HSub.rfl' ⟨rfl, rfl⟩

theorem markedInts_0   :
    CD Tryz.prog 89 [] [dZ] (isR (dB true)) := by
  refine zy Tryz.func89 rfl (N := 23) rfl rfl (fun C => ?_)
  refine jk [0] rfl (jT rfl (oR 1 rfl (oZ rfl (jS rfl (jT rfl (oR 1 rfl (oZ rfl (jB rfl (jl1 (fun (_ : Unit) => [(0, dZ), (3, dI 0)]) (fun _ => []) (fun _ => True) (fun _ => 0) () rfl (sa rfl) HSub.rfl' trivial ?_)))))))))
  rintro _ _
  refine ja rfl (jn rfl (jS rfl (jT rfl (oR 2 rfl (oP rfl (zad (n := 0) rfl ⟨_, _, rfl⟩ Tryz.runUnderlying29) (oP rfl (zL rfl rfl rfl) (oZ rfl ?_)))))))
  refine jD rfl (fun hc1 => ?_) (fun hc1 => ?_)
  · skip
    exfalso; omega
  · skip
    refine zE rfl (zr (zn (zh (zc (jT rfl (oR 1 rfl (oZ rfl (zs rfl ?_))))))))
    exact zj Tryz.results89 (.cons (zf rfl) .nil) rfl HSub.rfl' ⟨rfl, rfl⟩

theorem stillRunes_0 (gb : Nat) (c0 c1 c2 c3 c5 c6 c7 c8 c9 c10 c11 c12 c13 c14 c15 c16 c17 c18 c19 : D)  :
    CD Tryz.prog 60 [.bx gb 39 (.agg [c0, c1, c2, c3, dZ, c5, c6, c7, c8, c9, c10, c11, c12, c13, c14, c15, c16, c17, c18, c19])] [dP gb 0] (fun r H' => r = dB true ∧ H' = [.bx gb 39 (.agg [c0, c1, c2, c3, dZ, c5, c6, c7, c8, c9, c10, c11, c12, c13, c14, c15, c16, c17, c18, c19])]) := by
  refine zy Tryz.func60 rfl (N := 29) rfl rfl (fun C => ?_)
  refine jk [0] rfl (jT rfl (oR 1 rfl (oZ rfl (jS rfl (jT rfl (oR 1 rfl (oZ rfl (jB rfl (jl1 (fun (_ : Unit) => [(0, dP gb 0), (3, dI 0)]) (fun _ => [.bx gb 39 (.agg [c0, c1, c2, c3, dZ, c5, c6, c7, c8, c9, c10, c11, c12, c13, c14, c15, c16, c17, c18, c19])]) (fun _ => True) (fun _ => 0) () rfl (sa rfl) HSub.rfl' trivial ?_)))))))))
  rintro _ _
  refine ja rfl (jn rfl (jS rfl (jT rfl (oR 3 rfl (oP rfl (zl rfl fa_39_4 rfl) (oP rfl (zz rfl (i := 0) rfl Tryz.isAgg30 rfl) (oP rfl (zad (n := 0) rfl ⟨_, _, rfl⟩ Tryz.runUnderlying30) (oP rfl (zL rfl rfl rfl) (oZ rfl ?_)))))))))
  refine jD rfl (fun hc1 => ?_) (fun hc1 => ?_)
  · skip
    exfalso; omega
  · skip
    refine zE rfl (zr (zn (zh (zc (jk [] rfl (jT rfl (oR 1 rfl (oZ rfl (zs rfl ?_)))))))))
    exact zj Tryz.results60 (.cons (zf rfl) .nil) rfl HSub.rfl' ⟨rfl, rfl⟩

theorem putRunes_0 (gb : Nat) (c0 c1 c2 c3 c5 c6 c7 c8 c9 c10 c11 c12 c13 c14 c15 c16 c17 c18 c19 : D)  :
    CD Tryz.prog 72 [.bx gb 39 (.agg [c0, c1, c2, c3, dZ, c5, c6, c7, c8, c9, c10, c11, c12, c13, c14, c15, c16, c17, c18, c19])] [dP gb 0] (fun r H' => r = .tup [] ∧ H' = [.bx gb 39 (.agg [c0, c1, c2, c3, dZ, c5, c6, c7, c8, c9, c10, c11, c12, c13, c14, c15, c16, c17, c18, c19])]) := by
  refine zy Tryz.func72 rfl (N := 43) rfl rfl (fun C => ?_)
  refine jk [0] rfl (jT rfl (oR 1 rfl (oZ rfl (jB rfl (jl1 (fun (_ : Unit) => [(0, dP gb 0), (2, dI 0)]) (fun _ => [.bx gb 39 (.agg [c0, c1, c2, c3, dZ, c5, c6, c7, c8, c9, c10, c11, c12, c13, c14, c15, c16, c17, c18, c19])]) (fun _ => True) (fun _ => 0) () rfl (sa rfl) HSub.rfl' trivial ?_)))))
  rintro _ _
  refine ja rfl (jn rfl (jS rfl (jT rfl (oR 3 rfl (oP rfl (zl rfl fa_39_4 rfl) (oP rfl (zz rfl (i := 0) rfl Tryz.isAgg30 rfl) (oP rfl (zad (n := 0) rfl ⟨_, _, rfl⟩ Tryz.runUnderlying30) (oP rfl (zL rfl rfl rfl) (oZ rfl ?_)))))))))
  refine jD rfl (fun hc1 => ?_) (fun hc1 => ?_)
  · skip
    exfalso; omega
  · skip
    refine zE rfl (zr (zn (zh ?_)))
    exact zaR Tryz.results72 .nil rfl HSub.rfl' ⟨rfl, rfl⟩

theorem growRunes_0 (gb : Nat) (c0 c1 c2 c3 c5 c6 c7 c8 c9 c10 c11 c12 c13 c14 c15 c16 c17 c18 c19 : D)  :
    CD Tryz.prog 80 [.bx gb 39 (.agg [c0, c1, c2, c3, dZ, c5, c6, c7, c8, c9, c10, c11, c12, c13, c14, c15, c16, c17, c18, c19])] [dP gb 0] (fun r H' => r = dZ ∧ H' = [.bx gb 39 (.agg [c0, c1, c2, c3, dZ, c5, c6, c7, c8, c9, c10, c11, c12, c13, c14, c15, c16, c17, c18, c19])]) := by
  refine zy Tryz.func80 rfl (N := 43) rfl rfl (fun C => ?_)
  refine jk [0] rfl (jT rfl (oR 1 rfl (oZ rfl (jT rfl (oR 1 rfl (oZ rfl (jS rfl (jT rfl (oR 1 rfl (oZ rfl (jB rfl (jl1 (fun (_ : Unit) => [(0, dP gb 0), (2, dZ), (4, dI 0), (3, dZ)]) (fun _ => [.bx gb 39 (.agg [c0, c1, c2, c3, dZ, c5, c6, c7, c8, c9, c10, c11, c12, c13, c14, c15, c16, c17, c18, c19])]) (fun _ => True) (fun _ => 0) () rfl (sa rfl) HSub.rfl' trivial ?_))))))))))))
  rintro _ _
  refine ja rfl (jn rfl (jS rfl (jT rfl (oR 3 rfl (oP rfl (zl rfl fa_39_4 rfl) (oP rfl (zz rfl (i := 0) rfl Tryz.isAgg30 rfl) (oP rfl (zad (n := 0) rfl ⟨_, _, rfl⟩ Tryz.runUnderlying30) (oP rfl (zL rfl rfl rfl) (oZ rfl ?_)))))))))
  refine jD rfl (fun hc1 => ?_) (fun hc1 => ?_)
  · skip
    exfalso; omega
  · skip
    refine zE rfl (zr (zn (zh (zc (jk [2, 3] rfl (jT rfl (oR 2 rfl (oZ rfl (zs rfl ?_)))))))))
    exact zj Tryz.results80 (.cons (zf rfl) .nil) rfl HSub.rfl' ⟨rfl, rfl⟩

theorem markedRunes_0   :
    CD Tryz.prog 90 [] [dZ] (isR (dB true)) := by
  refine zy Tryz.func90 rfl (N := 23) rfl rfl (fun C => ?_)
  refine jk [0] rfl (jT rfl (oR 1 rfl (oZ rfl (jS rfl (jT rfl (oR 1 rfl (oZ rfl (jB rfl (jl1 (fun (_ : Unit) => [(0, dZ), (3, dI 0)]) (fun _ => []) (fun _ => True) (fun _ => 0) () rfl (sa rfl) HSub.rfl' trivial ?_)))))))))
  rintro _ _
  refine ja rfl (jn rfl (jS rfl (jT rfl (oR 2 rfl (oP rfl (zad (n := 0) rfl ⟨_, _, rfl⟩ Tryz.runUnderlying30) (oP rfl (zL rfl rfl rfl) (oZ rfl ?_)))))))
  refine jD rfl (fun hc1 => ?_) (fun hc1 => ?_)
  · skip
    exfalso; omega
  · skip
    refine zE rfl (zr (zn (zh (zc (jT rfl (oR 1 rfl (oZ rfl (zs rfl ?_))))))))
    exact zj Tryz.results90 (.cons (zf rfl) .nil) rfl HSub.rfl' ⟨rfl, rfl⟩

theorem stillLabels_0 (gb : Nat) (c0 c1 c2 c3 c4 c5 c7 c8 c9 c10 c11 c12 c13 c14 c15 c16 c17 c18 c19 : D)  :
    CD Tryz.prog 61 [.bx gb 39 (.agg [c0, c1, c2, c3, c4, c5, dZ, c7, c8, c9, c10, c11, c12, c13, c14, c15, c16, c17, c18, c19])] [dP gb 0] (fun r H' => r = dB true ∧ H' = [.bx gb 39 (.agg [c0, c1, c2, c3, c4, c5, dZ, c7, c8, c9, c10, c11, c12, c13, c14, c15, c16, c17, c18, c19])]) := by
  refine zy Tryz.func61 rfl (N := 29) rfl rfl (fun C => ?_)
  refine jk [0] rfl (jT rfl (oR 1 rfl (oZ rfl (jS rfl (jT rfl (oR 1 rfl (oZ rfl (jB rfl (jl1 (fun (_ : Unit) => [(0, dP gb 0), (3, dI 0)]) (fun _ => [.bx gb 39 (.agg [c0, c1, c2, c3, c4, c5, dZ, c7, c8, c9, c10, c11, c12, c13, c14, c15, c16, c17, c18, c19])]) (fun _ => True) (fun _ => 0) () rfl (sa rfl) HSub.rfl' trivial ?_)))))))))
  rintro _ _
  refine ja rfl (jn rfl (jS rfl (jT rfl (oR 3 rfl (oP rfl (zl rfl fa_39_6 rfl) (oP rfl (zz rfl (i := 0) rfl Tryz.isAgg31 rfl) (oP rfl (zad (n := 0) rfl ⟨_, _, rfl⟩ Tryz.runUnderlying31) (oP rfl (zL rfl rfl rfl) (oZ rfl ?_)))))))))
  refine jD rfl (fun hc1 => ?_) (fun hc1 => ?_)
  · skip
    exfalso; omega
  · skip
    refine zE rfl (zr (zn (zh (zc (jk [] rfl (jT rfl (oR 1 rfl (oZ rfl (zs rfl ?_)))))))))
    exact zj Tryz.results61 (.cons (zf rfl) .nil) rfl HSub.rfl' ⟨rfl, rfl⟩

theorem putLabels_0 (gb : Nat) (c0 c1 c2 c3 c4 c5 c7 c8 c9 c10 c11 c12 c13 c14 c15 c16 c17 c18 c19 : D)  :
    CD Tryz.prog 73 [.bx gb 39 (.agg [c0, c1, c2, c3, c4, c5, dZ, c7, c8, c9, c10, c11, c12, c13, c14, c15, c16, c17, c18, c19])] [dP gb 0] (fun r H' => r = .tup [] ∧ H' = [.bx gb 39 (.agg [c0, c1, c2, c3, c4, c5, dZ, c7, c8, c9, c10, c11, c12, c13, c14, c15, c16, c17, c18, c19])]) := by
  refine zy Tryz.func73 rfl (N := 43) rfl rfl (fun C => ?_)
  refine jk [0] rfl (jT rfl (oR 1 rfl (oZ rfl (jB rfl (jl1 (fun (_ : Unit) => [(0, dP gb 0), (2, dI 0)]) (fun _ => [.bx gb 39 (.agg [c0, c1, c2, c3, c4, c5, dZ, c7, c8, c9, c10, c11, c12, c13, c14, c15, c16, c17, c18, c19])]) (fun _ => True) (fun _ => 0) () rfl (sa rfl) HSub.rfl' trivial ?_)))))
  rintro _ _
  refine ja rfl (jn rfl (jS rfl (jT rfl (oR 3 rfl (oP rfl (zl rfl fa_39_6 rfl) (oP rfl (zz rfl (i := 0) rfl Tryz.isAgg31 rfl) (oP rfl (zad (n := 0) rfl ⟨_, _, rfl⟩ Tryz.runUnderlying31) (oP rfl (zL rfl rfl rfl) (oZ rfl ?_)))))))))
  refine jD rfl (fun hc1 => ?_) (fun hc1 => ?_)
  · skip
    exfalso; omega
  · skip
    refine zE rfl (zr (zn (zh ?_)))
    exact zaR Tryz.results73 .nil rfl HSub.rfl' ⟨rfl, rfl⟩

theorem growLabels_0 (gb : Nat) (c0 c1 c2 c3 c4 c5 c7 c8 c9 c10 c11 c12 c13 c14 c15 c16 c17 c18 c19 : D)  :
    CD Tryz.prog 81 [.bx gb 39 (.agg [c0, c1, c2, c3, c4, c5, dZ, c7, c8, c9, c10, c11, c12, c13, c14, c15, c16, c17, c18, c19])] [dP gb 0] (fun r H' => r = dZ ∧ H' = [.bx gb 39 (.agg [c0, c1, c2, c3, c4, c5, dZ, c7, c8, c9, c10, c11, c12, c13, c14, c15, c16, c17, c18, c19])]) := by
  refine zy Tryz.func81 rfl (N := 43) rfl rfl (fun C => ?_)
  refine jk [0] rfl (jT rfl (oR 1 rfl (oZ rfl (jT rfl (oR 1 rfl (oZ rfl (jS rfl (jT rfl (oR 1 rfl (oZ rfl (jB rfl (jl1 (fun (_ : Unit) => [(0, dP gb 0), (2, dZ), (4, dI 0), (3, dZ)]) (fun _ => [.bx gb 39 (.agg [c0, c1, c2, c3, c4, c5, dZ, c7, c8, c9, c10, c11, c12, c13, c14, c15, c16, c17, c18, c19])]) (fun _ => True) (fun _ => 0) () rfl (sa rfl) HSub.rfl' trivial ?_))))))))))))
  rintro _ _
  refine ja rfl (jn rfl (jS rfl (jT rfl (oR 3 rfl (oP rfl (zl rfl fa_39_6 rfl) (oP rfl (zz rfl (i := 0) rfl Tryz.isAgg31 rfl) (oP rfl (zad (n := 0) rfl ⟨_, _, rfl⟩ Tryz.runUnderlying31) (oP rfl (zL rfl rfl rfl) (oZ rfl ?_)))))))))
  refine jD rfl (fun hc1 => ?_) (fun hc1 => ?_)
  · skip
    exfalso; omega
  · skip
    refine zE rfl (zr (zn (zh (zc (jk [2, 3] rfl (jT rfl (oR 2 rfl (oZ rfl (zs rfl ?_)))))))))
    exact zj Tryz.results81 (.cons (zf rfl) .nil) rfl HSub.rfl' ⟨rfl, rfl⟩

theorem markedLabels_0   :
    CD Tryz.prog 91 [] [dZ] (isR (dB true)) := by
  refine zy Tryz.func91 rfl (N := 23) rfl rfl (fun C => ?_)
  refine jk [0] rfl (jT rfl (oR 1 rfl (oZ rfl (jS rfl (jT rfl (oR 1 rfl (oZ rfl (jB rfl (jl1 (fun (_ : Unit) => [(0, dZ), (3, dI 0)]) (fun _ => []) (fun _ => True) (fun _ => 0) () rfl (sa rfl) HSub.rfl' trivial ?_)))))))))
  rintro _ _
  refine ja rfl (jn rfl (jS rfl (jT rfl (oR 2 rfl (oP rfl (zad (n := 0) rfl ⟨_, _, rfl⟩ Tryz.runUnderlying31) (oP rfl (zL rfl rfl rfl) (oZ rfl ?_)))))))
  refine jD rfl (fun hc1 => ?_) (fun hc1 => ?_)
  · skip
    exfalso; omega
  · skip
    refine zE rfl (zr (zn (zh (zc (jT rfl (oR 1 rfl (oZ rfl (zs rfl ?_))))))))
    exact zj Tryz.results91 (.cons (zf rfl) .nil) rfl HSub.rfl' ⟨rfl, rfl⟩

theorem stillPoints_0 (gb : Nat) (c0 c1 c2 c3 c4 c5 c6 c7 c9 c10 c11 c12 c13 c14 c15 c16 c17 c18 c19 : D)  :
    CD Tryz.prog 62 [.bx gb 39 (.agg [c0, c1, c2, c3, c4, c5, c6, c7, dZ, c9, c10, c11, c12, c13, c14, c15, c16, c17, c18, c19])] [dP gb 0] (fun r H' => r = dB true ∧ H' = [.bx gb 39 (.agg [c0, c1, c2, c3, c4, c5, c6, c7, dZ, c9, c10, c11, c12, c13, c14, c15, c16, c17, c18, c19])]) := by
  refine zy Tryz.func62 rfl (N := 29) rfl rfl (fun C => ?_)
  refine jk [0] rfl (jT rfl (oR 1 rfl (oZ rfl (jS rfl (jT rfl (oR 1 rfl (oZ rfl (jB rfl (jl1 (fun (_ : Unit) => [(0, dP gb 0), (3, dI 0)]) (fun _ => [.bx gb 39 (.agg [c0, c1, c2, c3, c4, c5, c6, c7, dZ, c9, c10, c11, c12, c13, c14, c15, c16, c17, c18, c19])]) (fun _ => True) (fun _ => 0) () rfl (sa rfl) HSub.rfl' trivial ?_)))))))))
  rintro _ _
  refine ja rfl (jn rfl (jS rfl (jT rfl (oR 3 rfl (oP rfl (zl rfl fa_39_8 rfl) (oP rfl (zz rfl (i := 0) rfl Tryz.isAgg32 rfl) (oP rfl (zad (n := 0) rfl ⟨_, _, rfl⟩ Tryz.runUnderlying32) (oP rfl (zL rfl rfl rfl) (oZ rfl ?_)))))))))
  refine jD rfl (fun hc1 => ?_) (fun hc1 => ?_)
  · skip
    exfalso; omega
  · skip
    refine zE rfl (zr (zn (zh (zc (jk [] rfl (jT rfl (oR 1 rfl (oZ rfl (zs rfl ?_)))))))))
    exact zj Tryz.results62 (.cons (zf rfl) .nil) rfl HSub.rfl' ⟨rfl, rfl⟩

theorem putPoints_0 (gb : Nat) (c0 c1 c2 c3 c4 c5 c6 c7 c9 c10 c11 c12 c13 c14 c15 c16 c17 c18 c19 : D)  :
    CD Tryz.prog 74 [.bx gb 39 (.agg [c0, c1, c2, c3, c4, c5, c6, c7, dZ, c9, c10, c11, c12, c13, c14, c15, c16, c17, c18, c19])] [dP gb 0] (fun r H' => r = .tup [] ∧ H' = [.bx gb 39 (.agg [c0, c1, c2, c3, c4, c5, c6, c7, dZ, c9, c10, c11, c12, c13, c14, c15, c16, c17, c18, c19])]) := by
  refine zy Tryz.func74 rfl (N := 43) rfl rfl (fun C => ?_)
  refine jk [0] rfl (jT rfl (oR 1 rfl (oZ rfl (jB rfl (jl1 (fun (_ : Unit) => [(0, dP gb 0), (2, dI 0)]) (fun _ => [.bx gb 39 (.agg [c0, c1, c2, c3, c4, c5, c6, c7, dZ, c9, c10, c11, c12, c13, c14, c15, c16, c17, c18, c19])]) (fun _ => True) (fun _ => 0) () rfl (sa rfl) HSub.rfl' trivial ?_)))))
  rintro _ _
  refine ja rfl (jn rfl (jS rfl (jT rfl (oR 3 rfl (oP rfl (zl rfl fa_39_8 rfl) (oP rfl (zz rfl (i := 0) rfl Tryz.isAgg32 rfl) (oP rfl (zad (n := 0) rfl ⟨_, _, rfl⟩ Tryz.runUnderlying32) (oP rfl (zL rfl rfl rfl) (oZ rfl ?_)))))))))
  refine jD rfl (fun hc1 => ?_) (fun hc1 => ?_)
  · skip
    exfalso; omega
  · skip
    refine zE rfl (zr (zn (zh ?_)))
    exact zaR Tryz.results74 .nil rfl HSub.rfl' ⟨rfl, rfl⟩

theorem growPoints_0 (gb : Nat) (c0 c1 c2 c3 c4 c5 c6 c7 c9 c10 c11 c12 c13 c14 c15 c16 c17 c18 c19 : D)  :
    CD Tryz.prog 82 [.bx gb 39 (.agg [c0, c1, c2, c3, c4, c5, c6, c7, dZ, c9, c10, c11, c12, c13, c14, c15, c16, c17, c18, c19])] [dP gb 0] (fun r H' => r = dZ ∧ H' = [.bx gb 39 (.agg [c0, c1, c2, c3, c4, c5, c6, c7, dZ, c9, c10, c11, c12, c13, c14, c15, c16, c17, c18, c19])]) := by
  refine zy Tryz.func82 rfl (N := 43) rfl rfl (fun C => ?_)
  refine jk [0] rfl (jT rfl (oR 1 rfl (oZ rfl (jT rfl (oR 1 rfl (oZ rfl (jS rfl (jT rfl (oR 1 rfl (oZ rfl (jB rfl (jl1 (fun (_ : Unit) => [(0, dP gb 0), (2, dZ), (4, dI 0), (3, dZ)]) (fun _ => [.bx gb 39 (.agg [c0, c1, c2, c3, c4, c5, c6, c7, dZ, c9, c10, c11, c12, c13, c14, c15, c16, c17, c18, c19])]) (fun _ => True) (fun _ => 0) () rfl (sa rfl) HSub.rfl' trivial ?_))))))))))))
  rintro _ _
  refine ja rfl (jn rfl (jS rfl (jT rfl (oR 3 rfl (oP rfl (zl rfl fa_39_8 rfl) (oP rfl (zz rfl (i := 0) rfl Tryz.isAgg32 rfl) (oP rfl (zad (n := 0) rfl ⟨_, _, rfl⟩ Tryz.runUnderlying32) (oP rfl (zL rfl rfl rfl) (oZ rfl ?_)))))))))
  refine jD rfl (fun hc1 => ?_) (fun hc1 => ?_)
  · skip
    exfalso; omega
  · skip
    refine zE rfl (zr (zn (zh (zc (jk [2, 3] rfl (jT rfl (oR 2 rfl (oZ rfl (zs rfl ?_)))))))))
    exact zj Tryz.results82 (.cons (zf rfl) .nil) rfl HSub.rfl' ⟨rfl, rfl⟩

theorem markedPoints_0   :
    CD Tryz.prog 92 [] [dZ] (isR (dB true)) := by
  refine zy Tryz.func92 rfl (N := 23) rfl rfl (fun C => ?_)
  refine jk [0] rfl (jT rfl (oR 1 rfl (oZ rfl (jS rfl (jT rfl (oR 1 rfl (oZ rfl (jB rfl (jl1 (fun (_ : Unit) => [(0, dZ), (3, dI 0)]) (fun _ => []) (fun _ => True) (fun _ => 0) () rfl (sa rfl) HSub.rfl' trivial ?_)))))))))
  rintro _ _
  refine ja rfl (jn rfl (jS rfl (jT rfl (oR 2 rfl (oP rfl (zad (n := 0) rfl ⟨_, _, rfl⟩ Tryz.runUnderlying32) (oP rfl (zL rfl rfl rfl) (oZ rfl ?_)))))))
  refine jD rfl (fun hc1 => ?_) (fun hc1 => ?_)
  · skip
    exfalso; omega
  · skip
    refine zE rfl (zr (zn (zh (zc (jT rfl (oR 1 rfl (oZ rfl (zs rfl ?_))))))))
    exact zj Tryz.results92 (.cons (zf rfl) .nil) rfl HSub.rfl' ⟨rfl, rfl⟩

theorem stillTokens_0 (gb : Nat) (c0 c1 c2 c3 c4 c5 c6 c7 c8 c9 c11 c12 c13 c14 c15 c16 c17 c18 c19 : D)  :
    CD Tryz.prog 63 [.bx gb 39 (.agg [c0, c1, c2, c3, c4, c5, c6, c7, c8, c9, dZ, c11, c12, c13, c14, c15, c16, c17, c18, c19])] [dP gb 0] (fun r H' => r = dB true ∧ H' = [.bx gb 39 (.agg [c0, c1, c2, c3, c4, c5, c6, c7, c8, c9, dZ, c11, c12, c13, c14, c15, c16, c17, c18, c19])]) := by
  refine zy Tryz.func63 rfl (N := 29) rfl rfl (fun C => ?_)
  refine jk [0] rfl (jT rfl (oR 1 rfl (oZ rfl (jS rfl (jT rfl (oR 1 rfl (oZ rfl (jB rfl (jl1 (fun (_ : Unit) => [(0, dP gb 0), (3, dI 0)]) (fun _ => [.bx gb 39 (.agg [c0, c1, c2, c3, c4, c5, c6, c7, c8, c9, dZ, c11, c12, c13, c14, c15, c16, c17, c18, c19])]) (fun _ => True) (fun _ => 0) () rfl (sa rfl) HSub.rfl' trivial ?_)))))))))
  rintro _ _
  refine ja rfl (jn rfl (jS rfl (jT rfl (oR 3 rfl (oP rfl (zl rfl fa_39_10 rfl) (oP rfl (zz rfl (i := 0) rfl Tryz.isAgg33 rfl) (oP rfl (zad (n := 0) rfl ⟨_, _, rfl⟩ Tryz.runUnderlying33) (oP rfl (zL rfl rfl rfl) (oZ rfl ?_)))))))))
  refine jD rfl (fun hc1 => ?_) (fun hc1 => ?_)
  · skip
    exfalso; omega
  · skip
    refine zE rfl (zr (zn (zh (zc (jk [] rfl (jT rfl (oR 1 rfl (oZ rfl (zs rfl ?_)))))))))
    exact zj Tryz.results63 (.cons (zf rfl) .nil) rfl HSub.rfl' ⟨rfl, rfl⟩

theorem putTokens_0 (gb : Nat) (c0 c1 c2 c3 c4 c5 c6 c7 c8 c9 c11 c12 c13 c14 c15 c16 c17 c18 c19 : D)  :
    CD Tryz.prog 75 [.bx gb 39 (.agg [c0, c1, c2, c3, c4, c5, c6, c7, c8, c9, dZ, c11, c12, c13, c14, c15, c16, c17, c18, c19])] [dP gb 0] (fun r H' => r = .tup [] ∧ H' = [.bx gb 39 (.agg [c0, c1, c2, c3, c4, c5, c6, c7, c8, c9, dZ, c11, c12, c13, c14, c15, c16, c17, c18, c19])]) := by
  refine zy Tryz.func75 rfl (N := 43) rfl rfl (fun C => ?_)
  refine jk [0] rfl (jT rfl (oR 1 rfl (oZ rfl (jB rfl (jl1 (fun (_ : Unit) => [(0, dP gb 0), (2, dI 0)]) (fun _ => [.bx gb 39 (.agg [c0, c1, c2, c3, c4, c5, c6, c7, c8, c9, dZ, c11, c12, c13, c14, c15, c16, c17, c18, c19])]) (fun _ => True) (fun _ => 0) () rfl (sa rfl) HSub.rfl' trivial ?_)))))
  rintro _ _
  refine ja rfl (jn rfl (jS rfl (jT rfl (oR 3 rfl (oP rfl (zl rfl fa_39_10 rfl) (oP rfl (zz rfl (i := 0) rfl Tryz.isAgg33 rfl) (oP rfl (zad (n := 0) rfl ⟨_, _, rfl⟩ Tryz.runUnderlying33) (oP rfl (zL rfl rfl rfl) (oZ rfl ?_)))))))))
  refine jD rfl (fun hc1 => ?_) (fun hc1 => ?_)
  · skip
    exfalso; omega
  · skip
    refine zE rfl (zr (zn (zh ?_)))
    exact zaR Tryz.results75 .nil rfl HSub.rfl' ⟨rfl, rfl⟩

theorem growTokens_0 (gb : Nat) (c0 c1 c2 c3 c4 c5 c6 c7 c8 c9 c11 c12 c13 c14 c15 c16 c17 c18 c19 : D)  :
    CD Tryz.prog 83 [.bx gb 39 (.agg [c0, c1, c2, c3, c4, c5, c6, c7, c8, c9, dZ, c11, c12, c13, c14, c15, c16, c17, c18, c19])] [dP gb 0] (fun r H' => r = dZ ∧ H' = [.bx gb 39 (.agg [c0, c1, c2, c3, c4, c5, c6, c7, c8, c9, dZ, c11, c12, c13, c14, c15, c16, c17, c18, c19])]) := by
  refine zy Tryz.func83 rfl (N := 43) rfl rfl (fun C => ?_)
  refine jk [0] rfl (jT rfl (oR 1 rfl (oZ rfl (jT rfl (oR 1 rfl (oZ rfl (jS rfl (jT rfl (oR 1 rfl (oZ rfl (jB rfl (jl1 (fun (_ : Unit) => [(0, dP gb 0), (2, dZ), (4, dI 0), (3, dZ)]) (fun _ => [.bx gb 39 (.agg [c0, c1, c2, c3, c4, c5, c6, c7, c8, c9, dZ, c11, c12, c13, c14, c15, c16, c17, c18, c19])]) (fun _ => True) (fun _ => 0) () rfl (sa rfl) HSub.rfl' trivial ?_))))))))))))
  rintro _ _
  refine ja rfl (jn rfl (jS rfl (jT rfl (oR 3 rfl (oP rfl (zl rfl fa_39_10 rfl) (oP rfl (zz rfl (i := 0) rfl Tryz.isAgg33 rfl) (oP rfl (zad (n := 0) rfl ⟨_, _, rfl⟩ Tryz.runUnderlying33) (oP rfl (zL rfl rfl rfl) (oZ rfl ?_)))))))))
  refine jD rfl (fun hc1 => ?_) (fun hc1 => ?_)
  · skip
    exfalso; omega
  · skip
    refine zE rfl (zr (zn (zh (zc (jk [2, 3] rfl (jT rfl (oR 2 rfl (oZ rfl (zs rfl ?_)))))))))
    exact zj Tryz.results83 (.cons (zf rfl) .nil) rfl HSub.rfl' ⟨rfl, rfl⟩

theorem markedTokens_0   :
    CD Tryz.prog 93 [] [dZ] (isR (dB true)) := by
  refine zy Tryz.func93 rfl (N := 23) rfl rfl (fun C => ?_)
  refine jk [0] rfl (jT rfl (oR 1 rfl (oZ rfl (jS rfl (jT rfl (oR 1 rfl (oZ rfl (jB rfl (jl1 (fun (_ : Unit) => [(0, dZ), (3, dI 0)]) (fun _ => []) (fun _ => True) (fun _ => 0) () rfl (sa rfl) HSub.rfl' trivial ?_)))))))))
  rintro _ _
  refine ja rfl (jn rfl (jS rfl (jT rfl (oR 2 rfl (oP rfl (zad (n := 0) rfl ⟨_, _, rfl⟩ Tryz.runUnderlying33) (oP rfl (zL rfl rfl rfl) (oZ rfl ?_)))))))
  refine jD rfl (fun hc1 => ?_) (fun hc1 => ?_)
  · skip
    exfalso; omega
  · skip
    refine zE rfl (zr (zn (zh (zc (jT rfl (oR 1 rfl (oZ rfl (zs rfl ?_))))))))
    exact zj Tryz.results93 (.cons (zf rfl) .nil) rfl HSub.rfl' ⟨rfl, rfl⟩

theorem stillCursors_0 (gb : Nat) (c0 c1 c2 c3 c4 c5 c6 c7 c8 c9 c10 c11 c13 c14 c15 c16 c17 c18 c19 : D)  :
    CD Tryz.prog 64 [.bx gb 39 (.agg [c0, c1, c2, c3, c4, c5, c6, c7, c8, c9, c10, c11, dZ, c13, c14, c15, c16, c17, c18, c19])] [dP gb 0] (fun r H' => r = dB true ∧ H' = [.bx gb 39 (.agg [c0, c1, c2, c3, c4, c5, c6, c7, c8, c9, c10, c11, dZ, c13, c14, c15, c16, c17, c18, c19])]) := by
  refine zy Tryz.func64 rfl (N := 29) rfl rfl (fun C => ?_)
  refine jk [0] rfl (jT rfl (oR 1 rfl (oZ rfl (jS rfl (jT rfl (oR 1 rfl (oZ rfl (jB rfl (jl1 (fun (_ : Unit) => [(0, dP gb 0), (3, dI 0)]) (fun _ => [.bx gb 39 (.agg [c0, c1, c2, c3, c4, c5, c6, c7, c8, c9, c10, c11, dZ, c13, c14, c15, c16, c17, c18, c19])]) (fun _ => True) (fun _ => 0) () rfl (sa rfl) HSub.rfl' trivial ?_)))))))))
  rintro _ _
  refine ja rfl (jn rfl (jS rfl (jT rfl (oR 3 rfl (oP rfl (zl rfl fa_39_12 rfl) (oP rfl (zz rfl (i := 0) rfl Tryz.isAgg34 rfl) (oP rfl (zad (n := 0) rfl ⟨_, _, rfl⟩ Tryz.runUnderlying34) (oP rfl (zL rfl rfl rfl) (oZ rfl ?_)))))))))
  refine jD rfl (fun hc1 => ?_) (fun hc1 => ?_)
  · skip
    exfalso; omega
  · skip
    refine zE rfl (zr (zn (zh (zc (jk [] rfl (jT rfl (oR 1 rfl (oZ rfl (zs rfl ?_)))))))))
    exact zj Tryz.results64 (.cons (zf rfl) .nil) rfl HSub.rfl' ⟨rfl, rfl⟩

theorem putCursors_0 (gb : Nat) (c0 c1 c2 c3 c4 c5 c6 c7 c8 c9 c10 c11 c13 c14 c15 c16 c17 c18 c19 : D)  :
    CD Tryz.prog 76 [.bx gb 39 (.agg [c0, c1, c2, c3, c4, c5, c6, c7, c8, c9, c10, c11, dZ, c13, c14, c15, c16, c17, c18, c19])] [dP gb 0] (fun r H' => r = .tup [] ∧ H' = [.bx gb 39 (.agg [c0, c1, c2, c3, c4, c5, c6, c7, c8, c9, c10, c11, dZ, c13, c14, c15, c16, c17, c18, c19])]) := by
  refine zy Tryz.func76 rfl (N := 43) rfl rfl (fun C => ?_)
  refine jk [0] rfl (jT rfl (oR 1 rfl (oZ rfl (jB rfl (jl1 (fun (_ : Unit) => [(0, dP gb 0), (2, dI 0)]) (fun _ => [.bx gb 39 (.agg [c0, c1, c2, c3, c4, c5, c6, c7, c8, c9, c10, c11, dZ, c13, c14, c15, c16, c17, c18, c19])]) (fun _ => True) (fun _ => 0) () rfl (sa rfl) HSub.rfl' trivial ?_)))))
  rintro _ _
  refine ja rfl (jn rfl (jS rfl (jT rfl (oR 3 rfl (oP rfl (zl rfl fa_39_12 rfl) (oP rfl (zz rfl (i := 0) rfl Tryz.isAgg34 rfl) (oP rfl (zad (n := 0) rfl ⟨_, _, rfl⟩ Tryz.runUnderlying34) (oP rfl (zL rfl rfl rfl) (oZ rfl ?_)))))))))
  refine jD rfl (fun hc1 => ?_) (fun hc1 => ?_)
  · skip
    exfalso; omega
  · skip
    refine zE rfl (zr (zn (zh ?_)))
    exact zaR Tryz.results76 .nil rfl HSub.rfl' ⟨rfl, rfl⟩

theorem growCursors_0 (gb : Nat) (c0 c1 c2 c3 c4 c5 c6 c7 c8 c9 c10 c11 c13 c14 c15 c16 c17 c18 c19 : D)  :
    CD Tryz.prog 84 [.bx gb 39 (.agg [c0, c1, c2, c3, c4, c5, c6, c7, c8, c9, c10, c11, dZ, c13, c14, c15, c16, c17, c18, c19])] [dP gb 0] (fun r H' => r = dZ ∧ H' = [.bx gb 39 (.agg [c0, c1, c2, c3, c4, c5, c6, c7, c8, c9, c10, c11, dZ, c13, c14, c15, c16, c17, c18, c19])]) := by
  refine zy Tryz.func84 rfl (N := 43) rfl rfl (fun C => ?_)
  refine jk [0] rfl (jT rfl (oR 1 rfl (oZ rfl (jT rfl (oR 1 rfl (oZ rfl (jS rfl (jT rfl (oR 1 rfl (oZ rfl (jB rfl (jl1 (fun (_ : Unit) => [(0, dP gb 0), (2, dZ), (4, dI 0), (3, dZ)]) (fun _ => [.bx gb 39 (.agg [c0, c1, c2, c3, c4, c5, c6, c7, c8, c9, c10, c11, dZ, c13, c14, c15, c16, c17, c18, c19])]) (fun _ => True) (fun _ => 0) () rfl (sa rfl) HSub.rfl' trivial ?_))))))))))))
  rintro _ _
  refine ja rfl (jn rfl (jS rfl (jT rfl (oR 3 rfl (oP rfl (zl rfl fa_39_12 rfl) (oP rfl (zz rfl (i := 0) rfl Tryz.isAgg34 rfl) (oP rfl (zad (n := 0) rfl ⟨_, _, rfl⟩ Tryz.runUnderlying34) (oP rfl (zL rfl rfl rfl) (oZ rfl ?_)))))))))
  refine jD rfl (fun hc1 => ?_) (fun hc1 => ?_)
  · skip
    exfalso; omega
  · skip
    refine zE rfl (zr (zn (zh (zc (jk [2, 3] rfl (jT rfl (oR 2 rfl (oZ rfl (zs rfl ?_)))))))))
    exact zj Tryz.results84 (.cons (zf rfl) .nil) rfl HSub.rfl' ⟨rfl, rfl⟩

theorem markedCursors_0   :
    CD Tryz.prog 94 [] [dZ] (isR (dB true)) := by
  refine zy Tryz.func94 rfl (N := 23) rfl rfl (fun C => ?_)
  refine jk [0] rfl (jT rfl (oR 1 rfl (oZ rfl (jS rfl (jT rfl (oR 1 rfl (oZ rfl (jB rfl (jl1 (fun (_ : Unit) => [(0, dZ), (3, dI 0)]) (fun _ => []) (fun _ => True) (fun _ => 0) () rfl (sa rfl) HSub.rfl' trivial ?_)))))))))
  rintro _ _
  refine ja rfl (jn rfl (jS rfl (jT rfl (oR 2 rfl (oP rfl (zad (n := 0) rfl ⟨_, _, rfl⟩ Tryz.runUnderlying34) (oP rfl (zL rfl rfl rfl) (oZ rfl ?_)))))))
  refine jD rfl (fun hc1 => ?_) (fun hc1 => ?_)
  · skip
    exfalso; omega
  · skip
    refine zE rfl (zr (zn (zh (zc (jT rfl (oR 1 rfl (oZ rfl (zs rfl ?_))))))))
    exact zj Tryz.results94 (.cons (zf rfl) .nil) rfl HSub.rfl' ⟨rfl, rfl⟩

theorem stillNotes_0 (gb : Nat) (c0 c1 c2 c3 c4 c5 c6 c7 c8 c9 c10 c11 c12 c13 c15 c16 c17 c18 c19 : D)  :
    CD Tryz.prog 65 [.bx gb 39 (.agg [c0, c1, c2, c3, c4, c5, c6, c7, c8, c9, c10, c11, c12, c13, dZ, c15, c16, c17, c18, c19])] [dP gb 0] (fun r H' => r = dB true ∧ H' = [.bx gb 39 (.agg [c0, c1, c2, c3, c4, c5, c6, c7, c8, c9, c10, c11, c12, c13, dZ, c15, c16, c17, c18, c19])]) := by
  refine zy Tryz.func65 rfl (N := 29) rfl rfl (fun C => ?_)
  refine jk [0] rfl (jT rfl (oR 1 rfl (oZ rfl (jS rfl (jT rfl (oR 1 rfl (oZ rfl (jB rfl (jl1 (fun (_ : Unit) => [(0, dP gb 0), (3, dI 0)]) (fun _ => [.bx gb 39 (.agg [c0, c1, c2, c3, c4, c5, c6, c7, c8, c9, c10, c11, c12, c13, dZ, c15, c16, c17, c18, c19])]) (fun _ => True) (fun _ => 0) () rfl (sa rfl) HSub.rfl' trivial ?_)))))))))
  rintro _ _
  refine ja rfl (jn rfl (jS rfl (jT rfl (oR 3 rfl (oP rfl (zl rfl fa_39_14 rfl) (oP rfl (zz rfl (i := 0) rfl Tryz.isAgg35 rfl) (oP rfl (zad (n := 0) rfl ⟨_, _, rfl⟩ Tryz.runUnderlying35) (oP rfl (zL rfl rfl rfl) (oZ rfl ?_)))))))))
  refine jD rfl (fun hc1 => ?_) (fun hc1 => ?_)
  · skip
    exfalso; omega
  · skip
    refine zE rfl (zr (zn (zh (zc (jk [] rfl (jT rfl (oR 1 rfl (oZ rfl (zs rfl ?_)))))))))
    exact zj Tryz.results65 (.cons (zf rfl) .nil) rfl HSub.rfl' ⟨rfl, rfl⟩

theorem putNotes_0 (gb : Nat) (c0 c1 c2 c3 c4 c5 c6 c7 c8 c9 c10 c11 c12 c13 c15 c16 c17 c18 c19 : D)  :
    CD Tryz.prog 77 [.bx gb 39 (.agg [c0, c1, c2, c3, c4, c5, c6, c7, c8, c9, c10, c11, c12, c13, dZ, c15, c16, c17, c18, c19])] [dP gb 0] (fun r H' => r = .tup [] ∧ H' = [.bx gb 39 (.agg [c0, c1, c2, c3, c4, c5, c6, c7, c8, c9, c10, c11, c12, c13, dZ, c15, c16, c17, c18, c19])]) := by
  refine zy Tryz.func77 rfl (N := 43) rfl rfl (fun C => ?_)
  refine jk [0] rfl (jT rfl (oR 1 rfl (oZ rfl (jB rfl (jl1 (fun (_ : Unit) => [(0, dP gb 0), (2, dI 0)]) (fun _ => [.bx gb 39 (.agg [c0, c1, c2, c3, c4, c5, c6, c7, c8, c9, c10, c11, c12, c13, dZ, c15, c16, c17, c18, c19])]) (fun _ => True) (fun _ => 0) () rfl (sa rfl) HSub.rfl' trivial ?_)))))
  rintro _ _
  refine ja rfl (jn rfl (jS rfl (jT rfl (oR 3 rfl (oP rfl (zl rfl fa_39_14 rfl) (oP rfl (zz rfl (i := 0) rfl Tryz.isAgg35 rfl) (oP rfl (zad (n := 0) rfl ⟨_, _, rfl⟩ Tryz.runUnderlying35) (oP rfl (zL rfl rfl rfl) (oZ rfl ?_)))))))))
  refine jD rfl (fun hc1 => ?_) (fun hc1 => ?_)
  · skip
    exfalso; omega
  · skip
    refine zE rfl (zr (zn (zh ?_)))
    exact zaR Tryz.results77 .nil rfl HSub.rfl' ⟨rfl, rfl⟩

theorem growNotes_0 (gb : Nat) (c0 c1 c2 c3 c4 c5 c6 c7 c8 c9 c10 c11 c12 c13 c15 c16 c17 c18 c19 : D)  :
    CD Tryz.prog 85 [.bx gb 39 (.agg [c0, c1, c2, c3, c4, c5, c6, c7, c8, c9, c10, c11, c12, c13, dZ, c15, c16, c17, c18, c19])] [dP gb 0] (fun r H' => r = dZ ∧ H' = [.bx gb 39 (.agg [c0, c1, c2, c3, c4, c5, c6, c7, c8, c9, c10, c11, c12, c13, dZ, c15, c16, c17, c18, c19])]) := by
  refine zy Tryz.func85 rfl (N := 43) rfl rfl (fun C => ?_)
  refine jk [0] rfl (jT rfl (oR 1 rfl (oZ rfl (jT rfl (oR 1 rfl (oZ rfl (jS rfl (jT rfl (oR 1 rfl (oZ rfl (jB rfl (jl1 (fun (_ : Unit) => [(0, dP gb 0), (2, dZ), (4, dI 0), (3, dZ)]) (fun _ => [.bx gb 39 (.agg [c0, c1, c2, c3, c4, c5, c6, c7, c8, c9, c10, c11, c12, c13, dZ, c15, c16, c17, c18, c19])]) (fun _ => True) (fun _ => 0) () rfl (sa rfl) HSub.rfl' trivial ?_))))))))))))
  rintro _ _
  refine ja rfl (jn rfl (jS rfl (jT rfl (oR 3 rfl (oP rfl (zl rfl fa_39_14 rfl) (oP rfl (zz rfl (i := 0) rfl Tryz.isAgg35 rfl) (oP rfl (zad (n := 0) rfl ⟨_, _, rfl⟩ Tryz.runUnderlying35) (oP rfl (zL rfl rfl rfl) (oZ rfl ?_)))))))))
  refine jD rfl (fun hc1 => ?_) (fun hc1 => ?_)
  · skip
    exfalso; omega
  · skip
    refine zE rfl (zr (zn (zh (zc (jk [2, 3] rfl (jT rfl (oR 2 rfl (oZ rfl (zs rfl ?_)))))))))
    exact zj Tryz.results85 (.cons (zf rfl) .nil) rfl HSub.rfl' ⟨rfl, rfl⟩

theorem markedNotes_0   :
    CD Tryz.prog 95 [] [dZ] (isR (dB true)) := by
  refine zy Tryz.func95 rfl (N := 23) rfl rfl (fun C => ?_)
  refine jk [0] rfl (jT rfl (oR 1 rfl (oZ rfl (jS rfl (jT rfl (oR 1 rfl (oZ rfl (jB rfl (jl1 (fun (_ : Unit) => [(0, dZ), (3, dI 0)]) (fun _ => []) (fun _ => True) (fun _ => 0) () rfl (sa rfl) HSub.rfl' trivial ?_)))))))))
  rintro _ _
  refine ja rfl (jn rfl (jS rfl (jT rfl (oR 2 rfl (oP rfl (zad (n := 0) rfl ⟨_, _, rfl⟩ Tryz.runUnderlying35) (oP rfl (zL rfl rfl rfl) (oZ rfl ?_)))))))
  refine jD rfl (fun hc1 => ?_) (fun hc1 => ?_)
  · skip
    exfalso; omega
  · skip
    refine zE rfl (zr (zn (zh (zc (jT rfl (oR 1 rfl (oZ rfl (zs rfl ?_))))))))
    exact zj Tryz.results95 (.cons (zf rfl) .nil) rfl HSub.rfl' ⟨rfl, rfl⟩

theorem stillSeries_0 (gb : Nat) (c0 c1 c2 c3 c4 c5 c6 c7 c8 c9 c10 c11 c12 c13 c14 c15 c16 c17 c19 : D)  :
    CD Tryz.prog 67 [.bx gb 39 (.agg [c0, c1, c2, c3, c4, c5, c6, c7, c8, c9, c10, c11, c12, c13, c14, c15, c16, c17, dZ, c19])] [dP gb 0] (fun r H' => r = dB true ∧ H' = [.bx gb 39 (.agg [c0, c1, c2, c3, c4, c5, c6, c7, c8, c9, c10, c11, c12, c13, c14, c15, c16, c17, dZ, c19])]) := by
  refine zy Tryz.func67 rfl (N := 29) rfl rfl (fun C => ?_)
  refine jk [0] rfl (jT rfl (oR 1 rfl (oZ rfl (jS rfl (jT rfl (oR 1 rfl (oZ rfl (jB rfl (jl1 (fun (_ : Unit) => [(0, dP gb 0), (3, dI 0)]) (fun _ => [.bx gb 39 (.agg [c0, c1, c2, c3, c4, c5, c6, c7, c8, c9, c10, c11, c12, c13, c14, c15, c16, c17, dZ, c19])]) (fun _ => True) (fun _ => 0) () rfl (sa rfl) HSub.rfl' trivial ?_)))))))))
  rintro _ _
  refine ja rfl (jn rfl (jS rfl (jT rfl (oR 3 rfl (oP rfl (zl rfl fa_39_18 rfl) (oP rfl (zz rfl (i := 0) rfl Tryz.isAgg37 rfl) (oP rfl (zad (n := 0) rfl ⟨_, _, rfl⟩ Tryz.runUnderlying37) (oP rfl (zL rfl rfl rfl) (oZ rfl ?_)))))))))
  refine jD rfl (fun hc1 => ?_) (fun hc1 => ?_)
  · skip
    exfalso; omega
  · skip
    refine zE rfl (zr (zn (zh (zc (jk [] rfl (jT rfl (oR 1 rfl (oZ rfl (zs rfl ?_)))))))))
    exact zj Tryz.results67 (.cons (zf rfl) .nil) rfl HSub.rfl' ⟨rfl, rfl⟩

theorem putSeries_0 (gb : Nat) (c0 c1 c2 c3 c4 c5 c6 c7 c8 c9 c10 c11 c12 c13 c14 c15 c16 c17 c19 : D)  :
    CD Tryz.prog 69 [.bx gb 39 (.agg [c0, c1, c2, c3, c4, c5, c6, c7, c8, c9, c10, c11, c12, c13, c14, c15, c16, c17, dZ, c19])] [dP gb 0] (fun r H' => r = .tup [] ∧ H' = [.bx gb 39 (.agg [c0, c1, c2, c3, c4, c5, c6, c7, c8, c9, c10, c11, c12, c13, c14, c15, c16, c17, dZ, c19])]) := by
  refine zy Tryz.func69 rfl (N := 43) rfl rfl (fun C => ?_)
  refine jk [0] rfl (jT rfl (oR 1 rfl (oZ rfl (jB rfl (jl1 (fun (_ : Unit) => [(0, dP gb 0), (2, dI 0)]) (fun _ => [.bx gb 39 (.agg [c0, c1, c2, c3, c4, c5, c6, c7, c8, c9, c10, c11, c12, c13, c14, c15, c16, c17, dZ, c19])]) (fun _ => True) (fun _ => 0) () rfl (sa rfl) HSub.rfl' trivial ?_)))))
  rintro _ _
  refine ja rfl (jn rfl (jS rfl (jT rfl (oR 3 rfl (oP rfl (zl rfl fa_39_18 rfl) (oP rfl (zz rfl (i := 0) rfl Tryz.isAgg37 rfl) (oP rfl (zad (n := 0) rfl ⟨_, _, rfl⟩ Tryz.runUnderlying37) (oP rfl (zL rfl rfl rfl) (oZ rfl ?_)))))))))
  refine jD rfl (fun hc1 => ?_) (fun hc1 => ?_)
  · skip
    exfalso; omega
  · skip
    refine zE rfl (zr (zn (zh ?_)))
    exact zaR Tryz.results69 .nil rfl HSub.rfl' ⟨rfl, rfl⟩

theorem growSeries_0 (gb : Nat) (c0 c1 c2 c3 c4 c5 c6 c7 c8 c9 c10 c11 c12 c13 c14 c15 c16 c17 c19 : D)  :
    CD Tryz.prog 87 [.bx gb 39 (.agg [c0, c1, c2, c3, c4, c5, c6, c7, c8, c9, c10, c11, c12, c13, c14, c15, c16, c17, dZ, c19])] [dP gb 0] (fun r H' => r = dZ ∧ H' = [.bx gb 39 (.agg [c0, c1, c2, c3, c4, c5, c6, c7, c8, c9, c10, c11, c12, c13, c14, c15, c16, c17, dZ, c19])]) := by
  refine zy Tryz.func87 rfl (N := 43) rfl rfl (fun C => ?_)
  refine jk [0] rfl (jT rfl (oR 1 rfl (oZ rfl (jT rfl (oR 1 rfl (oZ rfl (jS rfl (jT rfl (oR 1 rfl (oZ rfl (jB rfl (jl1 (fun (_ : Unit) => [(0, dP gb 0), (2, dZ), (4, dI 0), (3, dZ)]) (fun _ => [.bx gb 39 (.agg [c0, c1, c2, c3, c4, c5, c6, c7, c8, c9, c10, c11, c12, c13, c14, c15, c16, c17, dZ, c19])]) (fun _ => True) (fun _ => 0) () rfl (sa rfl) HSub.rfl' trivial ?_))))))))))))
  rintro _ _
  refine ja rfl (jn rfl (jS rfl (jT rfl (oR 3 rfl (oP rfl (zl rfl fa_39_18 rfl) (oP rfl (zz rfl (i := 0) rfl Tryz.isAgg37 rfl) (oP rfl (zad (n := 0) rfl ⟨_, _, rfl⟩ Tryz.runUnderlying37) (oP rfl (zL rfl rfl rfl) (oZ rfl ?_)))))))))
  refine jD rfl (fun hc1 => ?_) (fun hc1 => ?_)
  · skip
    exfalso; omega
  · skip
    refine zE rfl (zr (zn (zh (zc (jk [2, 3] rfl (jT rfl (oR 2 rfl (oZ rfl (zs rfl ?_)))))))))
    exact zj Tryz.results87 (.cons (zf rfl) .nil) rfl HSub.rfl' ⟨rfl, rfl⟩

theorem markedSeries_0   :
    CD Tryz.prog 97 [] [dZ] (isR (dB true)) := by
  refine zy Tryz.func97 rfl (N := 23) rfl rfl (fun C => ?_)
  refine jk [0] rfl (jT rfl (oR 1 rfl (oZ rfl (jS rfl (jT rfl (oR 1 rfl (oZ rfl (jB rfl (jl1 (fun (_ : Unit) => [(0, dZ), (3, dI 0)]) (fun _ => []) (fun _ => True) (fun _ => 0) () rfl (sa rfl) HSub.rfl' trivial ?_)))))))))
  rintro _ _
  refine ja rfl (jn rfl (jS rfl (jT rfl (oR 2 rfl (oP rfl (zad (n := 0) rfl ⟨_, _, rfl⟩ Tryz.runUnderlying37) (oP rfl (zL rfl rfl rfl) (oZ rfl ?_)))))))
  refine jD rfl (fun hc1 => ?_) (fun hc1 => ?_)
  · skip
    exfalso; omega
  · skip
    refine zE rfl (zr (zn (zh (zc (jT rfl (oR 1 rfl (oZ rfl (zs rfl ?_))))))))
    exact zj Tryz.results97 (.cons (zf rfl) .nil) rfl HSub.rfl' ⟨rfl, rfl⟩

theorem Apart_c (gb : Nat) (vRb vRw : Value) (KR : List (Kp RowD)) (WR : List (List RowD)) (hKR : KR.length ≤ 250) (hBR : ∀ x ∈ KR, x.l.length ≤ 1000000) (hWR : WR = KR.map (·.l)) :
    CD Tryz.prog 29 ([.bx gb 39 (zu vRb vRw), .sl vRb 1 22 (KR.map Kp.d), .sl vRw 1 22 (WR.map (D.ls 2 RowD.d))] ++ (KR.map (Kp.h 2 53 RowD.d))) [dP gb 0] (isR (dB true)) := by
  refine zy Tryz.func29 rfl (N := 191) rfl rfl (fun C => ?_)
  refine jk [0] rfl (jT rfl (oR 1 rfl (oZ rfl (jS rfl (jT rfl (oR 1 rfl (oE rfl (zx [.bx gb 39 (zu vRb vRw)] ([.sl vRb 1 22 (KR.map Kp.d), .sl vRw 1 22 (WR.map (D.ls 2 RowD.d))] ++ (KR.map (Kp.h 2 53 RowD.d))) [] rfl rfl (.cons ArgC.id .nil) zo Tryz.call58 (stillTexts_0 gb (dZ) (dZ) (dZ) (dZ) (dZ) (dZ) (dZ) (dZ) (dZ) (dZ) (dZ) (dZ) (dZ) (dZ) (dZ) (.ov vRb) (.ov vRw) (dZ) (dZ)) (.inl rfl)) ?_)))))))
  rintro _ _ ⟨_, ⟨rfl, rfl⟩, rfl⟩
  refine OpsD.norm ([.bx gb 39 (zu vRb vRw), .sl vRb 1 22 (KR.map Kp.d), .sl vRw 1 22 (WR.map (D.ls 2 RowD.d))] ++ (KR.map (Kp.h 2 53 RowD.d))) rfl (oR 1 rfl (oZ rfl (jCf rfl (zq rfl (zc (jS rfl (jT rfl (oR 1 rfl ?_))))))))
  refine oE rfl (zx [.bx gb 39 (zu vRb vRw)] ([.sl vRb 1 22 (KR.map Kp.d), .sl vRw 1 22 (WR.map (D.ls 2 RowD.d))] ++ (KR.map (Kp.h 2 53 RowD.d))) [] rfl rfl (.cons ArgC.id .nil) zo Tryz.call59 (stillInts_0 gb (dZ) (dZ) (dZ) (dZ) (dZ) (dZ) (dZ) (dZ) (dZ) (dZ) (dZ) (dZ) (dZ) (dZ) (dZ) (.ov vRb) (.ov vRw) (dZ) (dZ)) (.inl rfl)) ?_
  rintro _ _ ⟨_, ⟨rfl, rfl⟩, rfl⟩
  refine OpsD.norm ([.bx gb 39 (zu vRb vRw), .sl vRb 1 22 (KR.map Kp.d), .sl vRw 1 22 (WR.map (D.ls 2 RowD.d))] ++ (KR.map (Kp.h 2 53 RowD.d))) rfl (oR 1 rfl (oZ rfl (jCf rfl (zq rfl (zc (jS rfl (jT rfl (oR 1 rfl ?_))))))))
  refine oE rfl (zx [.bx gb 39 (zu vRb vRw)] ([.sl vRb 1 22 (KR.map Kp.d), .sl vRw 1 22 (WR.map (D.ls 2 RowD.d))] ++ (KR.map (Kp.h 2 53 RowD.d))) [] rfl rfl (.cons ArgC.id .nil) zo Tryz.call60 (stillRunes_0 gb (dZ) (dZ) (dZ) (dZ) (dZ) (dZ) (dZ) (dZ) (dZ) (dZ) (dZ) (dZ) (dZ) (dZ) (dZ) (.ov vRb) (.ov vRw) (dZ) (dZ)) (.inl rfl)) ?_
  rintro _ _ ⟨_, ⟨rfl, rfl⟩, rfl⟩
  refine OpsD.norm ([.bx gb 39 (zu vRb vRw), .sl vRb 1 22 (KR.map Kp.d), .sl vRw 1 22 (WR.map (D.ls 2 RowD.d))] ++ (KR.map (Kp.h 2 53 RowD.d))) rfl (oR 1 rfl (oZ rfl (jCf rfl (zq rfl (zc (jk [0, 2] rfl (jS rfl (jT rfl (oR 1 rfl ?_)))))))))
  refine oE rfl (zx [.bx gb 39 (zu vRb vRw)] ([.sl vRb 1 22 (KR.map Kp.d), .sl vRw 1 22 (WR.map (D.ls 2 RowD.d))] ++ (KR.map (Kp.h 2 53 RowD.d))) [] rfl rfl (.cons ArgC.id .nil) zo Tryz.call61 (stillLabels_0 gb (dZ) (dZ) (dZ) (dZ) (dZ) (dZ) (dZ) (dZ) (dZ) (dZ) (dZ) (dZ) (dZ) (dZ) (dZ) (.ov vRb) (.ov vRw) (dZ) (dZ)) (.inl rfl)) ?_
  rintro _ _ ⟨_, ⟨rfl, rfl⟩, rfl⟩
  refine OpsD.norm ([.bx gb 39 (zu vRb vRw), .sl vRb 1 22 (KR.map Kp.d), .sl vRw 1 22 (WR.map (D.ls 2 RowD.d))] ++ (KR.map (Kp.h 2 53 RowD.d))) rfl (oR 1 rfl (oZ rfl (jCf rfl (zq rfl (zc (jS rfl (jT rfl (oR 1 rfl ?_))))))))
  refine oE rfl (zx [.bx gb 39 (zu vRb vRw)] ([.sl vRb 1 22 (KR.map Kp.d), .sl vRw 1 22 (WR.map (D.ls 2 RowD.d))] ++ (KR.map (Kp.h 2 53 RowD.d))) [] rfl rfl (.cons ArgC.id .nil) zo Tryz.call62 (stillPoints_0 gb (dZ) (dZ) (dZ) (dZ) (dZ) (dZ) (dZ) (dZ) (dZ) (dZ) (dZ) (dZ) (dZ) (dZ) (dZ) (.ov vRb) (.ov vRw) (dZ) (dZ)) (.inl rfl)) ?_
  rintro _ _ ⟨_, ⟨rfl, rfl⟩, rfl⟩
  refine OpsD.norm ([.bx gb 39 (zu vRb vRw), .sl vRb 1 22 (KR.map Kp.d), .sl vRw 1 22 (WR.map (D.ls 2 RowD.d))] ++ (KR.map (Kp.h 2 53 RowD.d))) rfl (oR 1 rfl (oZ rfl (jCf rfl (zq rfl (zc (jS rfl (jT rfl (oR 1 rfl ?_))))))))
  refine oE rfl (zx [.bx gb 39 (zu vRb vRw)] ([.sl vRb 1 22 (KR.map Kp.d), .sl vRw 1 22 (WR.map (D.ls 2 RowD.d))] ++ (KR.map (Kp.h 2 53 RowD.d))) [] rfl rfl (.cons ArgC.id .nil) zo Tryz.call63 (stillTokens_0 gb (dZ) (dZ) (dZ) (dZ) (dZ) (dZ) (dZ) (dZ) (dZ) (dZ) (dZ) (dZ) (dZ) (dZ) (dZ) (.ov vRb) (.ov vRw) (dZ) (dZ)) (.inl rfl)) ?_
  rintro _ _ ⟨_, ⟨rfl, rfl⟩, rfl⟩
  refine OpsD.norm ([.bx gb 39 (zu vRb vRw), .sl vRb 1 22 (KR.map Kp.d), .sl vRw 1 22 (WR.map (D.ls 2 RowD.d))] ++ (KR.map (Kp.h 2 53 RowD.d))) rfl (oR 1 rfl (oZ rfl (jCf rfl (zq rfl (zc (jk [0, 2] rfl (jS rfl (jT rfl (oR 1 rfl ?_)))))))))
  refine oE rfl (zx [.bx gb 39 (zu vRb vRw)] ([.sl vRb 1 22 (KR.map Kp.d), .sl vRw 1 22 (WR.map (D.ls 2 RowD.d))] ++ (KR.map (Kp.h 2 53 RowD.d))) [] rfl rfl (.cons ArgC.id .nil) zo Tryz.call64 (stillCursors_0 gb (dZ) (dZ) (dZ) (dZ) (dZ) (dZ) (dZ) (dZ) (dZ) (dZ) (dZ) (dZ) (dZ) (dZ) (dZ) (.ov vRb) (.ov vRw) (dZ) (dZ)) (.inl rfl)) ?_
  rintro _ _ ⟨_, ⟨rfl, rfl⟩, rfl⟩
  refine OpsD.norm ([.bx gb 39 (zu vRb vRw), .sl vRb 1 22 (KR.map Kp.d), .sl vRw 1 22 (WR.map (D.ls 2 RowD.d))] ++ (KR.map (Kp.h 2 53 RowD.d))) rfl (oR 1 rfl (oZ rfl (jCf rfl (zq rfl (zc (jS rfl (jT rfl (oR 1 rfl ?_))))))))
  refine oE rfl (zx [.bx gb 39 (zu vRb vRw)] ([.sl vRb 1 22 (KR.map Kp.d), .sl vRw 1 22 (WR.map (D.ls 2 RowD.d))] ++ (KR.map (Kp.h 2 53 RowD.d))) [] rfl rfl (.cons ArgC.id .nil) zo Tryz.call65 (stillNotes_0 gb (dZ) (dZ) (dZ) (dZ) (dZ) (dZ) (dZ) (dZ) (dZ) (dZ) (dZ) (dZ) (dZ) (dZ) (dZ) (.ov vRb) (.ov vRw) (dZ) (dZ)) (.inl rfl)) ?_
  rintro _ _ ⟨_, ⟨rfl, rfl⟩, rfl⟩
  refine OpsD.norm ([.bx gb 39 (zu vRb vRw), .sl vRb 1 22 (KR.map Kp.d), .sl vRw 1 22 (WR.map (D.ls 2 RowD.d))] ++ (KR.map (Kp.h 2 53 RowD.d))) rfl (oR 1 rfl (oZ rfl (jCf rfl (zq rfl (zc (jS rfl (jT rfl (oR 1 rfl (OpsD.subH (HSub.perm (zck (A := [.bx gb 39 (zu vRb vRw), .sl vRb 1 22 (KR.map Kp.d), .sl vRw 1 22 (WR.map (D.ls 2 RowD.d))]) (B := []) (T := KR.map (Kp.h 2 53 RowD.d)))) ?_)))))))))
  refine oE rfl (zx ([.bx gb 39 (zu vRb vRw), .sl vRb 1 22 (KR.map Kp.d), .sl vRw 1 22 (WR.map (D.ls 2 RowD.d))] ++ (KR.map (Kp.h 2 53 RowD.d))) [] [] rfl rfl (.cons ArgC.id .nil) zo Tryz.call66 (stillRows_c gb vRb vRw (dZ) (dZ) (dZ) (dZ) (dZ) (dZ) (dZ) (dZ) (dZ) (dZ) (dZ) (dZ) (dZ) (dZ) (dZ) (dZ) (dZ) (dZ) KR WR (by omega) hWR) (.inl rfl)) ?_
  rintro _ _ ⟨_, ⟨rfl, rfl⟩, rfl⟩
  refine OpsD.subH (HSub.perm (zck (A := [.bx gb 39 (zu vRb vRw), .sl vRb 1 22 (KR.map Kp.d), .sl vRw 1 22 (WR.map (D.ls 2 RowD.d))]) (B := []) (T := KR.map (Kp.h 2 53 RowD.d))).symm) (OpsD.norm ([.bx gb 39 (zu vRb vRw), .sl vRb 1 22 (KR.map Kp.d), .sl vRw 1 22 (WR.map (D.ls 2 RowD.d))] ++ (KR.map (Kp.h 2 53 RowD.d))) rfl (oR 1 rfl (oZ rfl (jCf rfl (zq rfl (zc (jk [0, 2] rfl (jS rfl (jT rfl (oR 1 rfl ?_))))))))))
  refine oE rfl (zx [.bx gb 39 (zu vRb vRw)] ([.sl vRb 1 22 (KR.map Kp.d), .sl vRw 1 22 (WR.map (D.ls 2 RowD.d))] ++ (KR.map (Kp.h 2 53 RowD.d))) [] rfl rfl (.cons ArgC.id .nil) zo Tryz.call67 (stillSeries_0 gb (dZ) (dZ) (dZ) (dZ) (dZ) (dZ) (dZ) (dZ) (dZ) (dZ) (dZ) (dZ) (dZ) (dZ) (dZ) (dZ) (.ov vRb) (.ov vRw) (dZ)) (.inl rfl)) ?_
  rintro _ _ ⟨_, ⟨rfl, rfl⟩, rfl⟩
  refine OpsD.norm ([.bx gb 39 (zu vRb vRw), .sl vRb 1 22 (KR.map Kp.d), .sl vRw 1 22 (WR.map (D.ls 2 RowD.d))] ++ (KR.map (Kp.h 2 53 RowD.d))) rfl (oR 1 rfl (oZ rfl (jCf rfl (zq rfl (zc (jT rfl (oR 1 rfl (OpsD.subH (HSub.perm (zck (A := [.bx gb 39 (zu vRb vRw), .sl vRb 1 22 (KR.map Kp.d)]) (B := [.sl vRw 1 22 (WR.map (D.ls 2 RowD.d))]) (T := KR.map (Kp.h 2 53 RowD.d)))) ?_))))))))
  refine oE rfl (zx ([.bx gb 39 (zu vRb vRw), .sl vRb 1 22 (KR.map Kp.d)] ++ (KR.map (Kp.h 2 53 RowD.d))) [.sl vRw 1 22 (WR.map (D.ls 2 RowD.d))] [] rfl rfl (.cons ArgC.id .nil) zo Tryz.call68 (putRows_c gb vRb vRw (dZ) (dZ) (dZ) (dZ) (dZ) (dZ) (dZ) (dZ) (dZ) (dZ) (dZ) (dZ) (dZ) (dZ) (dZ) (dZ) (dZ) (dZ) KR (by omega) hBR) (.inl rfl)) ?_
  rintro _ _ ⟨_, ⟨rfl, rfl⟩, rfl⟩
  refine OpsD.subH (HSub.perm (zck (A := [.bx gb 39 (zu vRb vRw), .sl vRb 1 22 (KR.map Kp.d)]) (B := [.sl vRw 1 22 (WR.map (D.ls 2 RowD.d))]) (T := (putK gR KR).map (Kp.h 2 53 RowD.d))).symm) (OpsD.norm ([.bx gb 39 (zu vRb vRw), .sl vRb 1 22 (KR.map Kp.d), .sl vRw 1 22 (WR.map (D.ls 2 RowD.d))] ++ ((putK gR KR).map (Kp.h 2 53 RowD.d))) rfl (oZ rfl (jT rfl (oR 1 rfl ?_))))
  refine oE rfl (zx [.bx gb 39 (zu vRb vRw)] ([.sl vRb 1 22 (KR.map Kp.d), .sl vRw 1 22 (WR.map (D.ls 2 RowD.d))] ++ ((putK gR KR).map (Kp.h 2 53 RowD.d))) [] rfl rfl (.cons ArgC.id .nil) zo Tryz.call69 (putSeries_0 gb (dZ) (dZ) (dZ) (dZ) (dZ) (dZ) (dZ) (dZ) (dZ) (dZ) (dZ) (dZ) (dZ) (dZ) (dZ) (dZ) (.ov vRb) (.ov vRw) (dZ)) (.inl rfl)) ?_
  rintro _ _ ⟨_, ⟨rfl, rfl⟩, rfl⟩
  refine OpsD.norm ([.bx gb 39 (zu vRb vRw), .sl vRb 1 22 (KR.map Kp.d), .sl vRw 1 22 (WR.map (D.ls 2 RowD.d))] ++ ((putK gR KR).map (Kp.h 2 53 RowD.d))) rfl (oZ rfl (jT rfl (oR 1 rfl ?_)))
  refine oE rfl (zx [.bx gb 39 (zu vRb vRw)] ([.sl vRb 1 22 (KR.map Kp.d), .sl vRw 1 22 (WR.map (D.ls 2 RowD.d))] ++ ((putK gR KR).map (Kp.h 2 53 RowD.d))) [] rfl rfl (.cons ArgC.id .nil) zo Tryz.call70 (putTexts_0 gb (dZ) (dZ) (dZ) (dZ) (dZ) (dZ) (dZ) (dZ) (dZ) (dZ) (dZ) (dZ) (dZ) (dZ) (dZ) (.ov vRb) (.ov vRw) (dZ) (dZ)) (.inl rfl)) ?_
  rintro _ _ ⟨_, ⟨rfl, rfl⟩, rfl⟩
  refine OpsD.norm ([.bx gb 39 (zu vRb vRw), .sl vRb 1 22 (KR.map Kp.d), .sl vRw 1 22 (WR.map (D.ls 2 RowD.d))] ++ ((putK gR KR).map (Kp.h 2 53 RowD.d))) rfl (oZ rfl (jk [0, 2] rfl (jT rfl (oR 1 rfl ?_))))
  refine oE rfl (zx [.bx gb 39 (zu vRb vRw)] ([.sl vRb 1 22 (KR.map Kp.d), .sl vRw 1 22 (WR.map (D.ls 2 RowD.d))] ++ ((putK gR KR).map (Kp.h 2 53 RowD.d))) [] rfl rfl (.cons ArgC.id .nil) zo Tryz.call71 (putInts_0 gb (dZ) (dZ) (dZ) (dZ) (dZ) (dZ) (dZ) (dZ) (dZ) (dZ) (dZ) (dZ) (dZ) (dZ) (dZ) (.ov vRb) (.ov vRw) (dZ) (dZ)) (.inl rfl)) ?_
  rintro _ _ ⟨_, ⟨rfl, rfl⟩, rfl⟩
  refine OpsD.norm ([.bx gb 39 (zu vRb vRw), .sl vRb 1 22 (KR.map Kp.d), .sl vRw 1 22 (WR.map (D.ls 2 RowD.d))] ++ ((putK gR KR).map (Kp.h 2 53 RowD.d))) rfl (oZ rfl (jT rfl (oR 1 rfl ?_)))
  refine oE rfl (zx [.bx gb 39 (zu vRb vRw)] ([.sl vRb 1 22 (KR.map Kp.d), .sl vRw 1 22 (WR.map (D.ls 2 RowD.d))] ++ ((putK gR KR).map (Kp.h 2 53 RowD.d))) [] rfl rfl (.cons ArgC.id .nil) zo Tryz.call72 (putRunes_0 gb (dZ) (dZ) (dZ) (dZ) (dZ) (dZ) (dZ) (dZ) (dZ) (dZ) (dZ) (dZ) (dZ) (dZ) (dZ) (.ov vRb) (.ov vRw) (dZ) (dZ)) (.inl rfl)) ?_
  rintro _ _ ⟨_, ⟨rfl, rfl⟩, rfl⟩
  refine OpsD.norm ([.bx gb 39 (zu vRb vRw), .sl vRb 1 22 (KR.map Kp.d), .sl vRw 1 22 (WR.map (D.ls 2 RowD.d))] ++ ((putK gR KR).map (Kp.h 2 53 RowD.d))) rfl (oZ rfl (jT rfl (oR 1 rfl ?_)))
  refine oE rfl (zx [.bx gb 39 (zu vRb vRw)] ([.sl vRb 1 22 (KR.map Kp.d), .sl vRw 1 22 (WR.map (D.ls 2 RowD.d))] ++ ((putK gR KR).map (Kp.h 2 53 RowD.d))) [] rfl rfl (.cons ArgC.id .nil) zo Tryz.call73 (putLabels_0 gb (dZ) (dZ) (dZ) (dZ) (dZ) (dZ) (dZ) (dZ) (dZ) (dZ) (dZ) (dZ) (dZ) (dZ) (dZ) (.ov vRb) (.ov vRw) (dZ) (dZ)) (.inl rfl)) ?_
  rintro _ _ ⟨_, ⟨rfl, rfl⟩, rfl⟩
  refine OpsD.norm ([.bx gb 39 (zu vRb vRw), .sl vRb 1 22 (KR.map Kp.d), .sl vRw 1 22 (WR.map (D.ls 2 RowD.d))] ++ ((putK gR KR).map (Kp.h 2 53 RowD.d))) rfl (oZ rfl (jT rfl (oR 1 rfl ?_)))
  refine oE rfl (zx [.bx gb 39 (zu vRb vRw)] ([.sl vRb 1 22 (KR.map Kp.d), .sl vRw 1 22 (WR.map (D.ls 2 RowD.d))] ++ ((putK gR KR).map (Kp.h 2 53 RowD.d))) [] rfl rfl (.cons ArgC.id .nil) zo Tryz.call74 (putPoints_0 gb (dZ) (dZ) (dZ) (dZ) (dZ) (dZ) (dZ) (dZ) (dZ) (dZ) (dZ) (dZ) (dZ) (dZ) (dZ) (.ov vRb) (.ov vRw) (dZ) (dZ)) (.inl rfl)) ?_
  rintro _ _ ⟨_, ⟨rfl, rfl⟩, rfl⟩
  refine OpsD.norm ([.bx gb 39 (zu vRb vRw), .sl vRb 1 22 (KR.map Kp.d), .sl vRw 1 22 (WR.map (D.ls 2 RowD.d))] ++ ((putK gR KR).map (Kp.h 2 53 RowD.d))) rfl (oZ rfl (jT rfl (oR 1 rfl ?_)))
  refine oE rfl (zx [.bx gb 39 (zu vRb vRw)] ([.sl vRb 1 22 (KR.map Kp.d), .sl vRw 1 22 (WR.map (D.ls 2 RowD.d))] ++ ((putK gR KR).map (Kp.h 2 53 RowD.d))) [] rfl rfl (.cons ArgC.id .nil) zo Tryz.call75 (putTokens_0 gb (dZ) (dZ) (dZ) (dZ) (dZ) (dZ) (dZ) (dZ) (dZ) (dZ) (dZ) (dZ) (dZ) (dZ) (dZ) (.ov vRb) (.ov vRw) (dZ) (dZ)) (.inl rfl)) ?_
  rintro _ _ ⟨_, ⟨rfl, rfl⟩, rfl⟩
  refine OpsD.norm ([.bx gb 39 (zu vRb vRw), .sl vRb 1 22 (KR.map Kp.d), .sl vRw 1 22 (WR.map (D.ls 2 RowD.d))] ++ ((putK gR KR).map (Kp.h 2 53 RowD.d))) rfl (oZ rfl (jk [0, 2] rfl (jT rfl (oR 1 rfl ?_))))
  refine oE rfl (zx [.bx gb 39 (zu vRb vRw)] ([.sl vRb 1 22 (KR.map Kp.d), .sl vRw 1 22 (WR.map (D.ls 2 RowD.d))] ++ ((putK gR KR).map (Kp.h 2 53 RowD.d))) [] rfl rfl (.cons ArgC.id .nil) zo Tryz.call76 (putCursors_0 gb (dZ) (dZ) (dZ) (dZ) (dZ) (dZ) (dZ) (dZ) (dZ) (dZ) (dZ) (dZ) (dZ) (dZ) (dZ) (.ov vRb) (.ov vRw) (dZ) (dZ)) (.inl rfl)) ?_
  rintro _ _ ⟨_, ⟨rfl, rfl⟩, rfl⟩
  refine OpsD.norm ([.bx gb 39 (zu vRb vRw), .sl vRb 1 22 (KR.map Kp.d), .sl vRw 1 22 (WR.map (D.ls 2 RowD.d))] ++ ((putK gR KR).map (Kp.h 2 53 RowD.d))) rfl (oZ rfl (jT rfl (oR 1 rfl ?_)))
  refine oE rfl (zx [.bx gb 39 (zu vRb vRw)] ([.sl vRb 1 22 (KR.map Kp.d), .sl vRw 1 22 (WR.map (D.ls 2 RowD.d))] ++ ((putK gR KR).map (Kp.h 2 53 RowD.d))) [] rfl rfl (.cons ArgC.id .nil) zo Tryz.call77 (putNotes_0 gb (dZ) (dZ) (dZ) (dZ) (dZ) (dZ) (dZ) (dZ) (dZ) (dZ) (dZ) (dZ) (dZ) (dZ) (dZ) (.ov vRb) (.ov vRw) (dZ) (dZ)) (.inl rfl)) ?_
  rintro _ _ ⟨_, ⟨rfl, rfl⟩, rfl⟩
  refine OpsD.norm ([.bx gb 39 (zu vRb vRw), .sl vRb 1 22 (KR.map Kp.d), .sl vRw 1 22 (WR.map (D.ls 2 RowD.d))] ++ ((putK gR KR).map (Kp.h 2 53 RowD.d))) rfl (oZ rfl (jT rfl (oR 1 rfl ?_)))
  refine oE rfl (zx [.bx gb 39 (zu vRb vRw)] ([.sl vRb 1 22 (KR.map Kp.d), .sl vRw 1 22 (WR.map (D.ls 2 RowD.d))] ++ ((putK gR KR).map (Kp.h 2 53 RowD.d))) [] rfl rfl (.cons ArgC.id .nil) zo Tryz.call78 (growTexts_0 gb (dZ) (dZ) (dZ) (dZ) (dZ) (dZ) (dZ) (dZ) (dZ) (dZ) (dZ) (dZ) (dZ) (dZ) (dZ) (.ov vRb) (.ov vRw) (dZ) (dZ)) (.inl rfl)) ?_
  rintro _ _ ⟨_, ⟨rfl, rfl⟩, rfl⟩
  refine OpsD.norm ([.bx gb 39 (zu vRb vRw), .sl vRb 1 22 (KR.map Kp.d), .sl vRw 1 22 (WR.map (D.ls 2 RowD.d))] ++ ((putK gR KR).map (Kp.h 2 53 RowD.d))) rfl (oR 1 rfl (oZ rfl (jT rfl (oR 1 rfl ?_))))
  refine oE rfl (zx [.bx gb 39 (zu vRb vRw)] ([.sl vRb 1 22 (KR.map Kp.d), .sl vRw 1 22 (WR.map (D.ls 2 RowD.d))] ++ ((putK gR KR).map (Kp.h 2 53 RowD.d))) [] rfl rfl (.cons ArgC.id .nil) zo Tryz.call79 (growInts_0 gb (dZ) (dZ) (dZ) (dZ) (dZ) (dZ) (dZ) (dZ) (dZ) (dZ) (dZ) (dZ) (dZ) (dZ) (dZ) (.ov vRb) (.ov vRw) (dZ) (dZ)) (.inl rfl)) ?_
  rintro _ _ ⟨_, ⟨rfl, rfl⟩, rfl⟩
  refine OpsD.norm ([.bx gb 39 (zu vRb vRw), .sl vRb 1 22 (KR.map Kp.d), .sl vRw 1 22 (WR.map (D.ls 2 RowD.d))] ++ ((putK gR KR).map (Kp.h 2 53 RowD.d))) rfl (oR 1 rfl (oZ rfl (jT rfl (oR 1 rfl ?_))))
  refine oE rfl (zx [.bx gb 39 (zu vRb vRw)] ([.sl vRb 1 22 (KR.map Kp.d), .sl vRw 1 22 (WR.map (D.ls 2 RowD.d))] ++ ((putK gR KR).map (Kp.h 2 53 RowD.d))) [] rfl rfl (.cons ArgC.id .nil) zo Tryz.call80 (growRunes_0 gb (dZ) (dZ) (dZ) (dZ) (dZ) (dZ) (dZ) (dZ) (dZ) (dZ) (dZ) (dZ) (dZ) (dZ) (dZ) (.ov vRb) (.ov vRw) (dZ) (dZ)) (.inl rfl)) ?_
  rintro _ _ ⟨_, ⟨rfl, rfl⟩, rfl⟩
  refine OpsD.norm ([.bx gb 39 (zu vRb vRw), .sl vRb 1 22 (KR.map Kp.d), .sl vRw 1 22 (WR.map (D.ls 2 RowD.d))] ++ ((putK gR KR).map (Kp.h 2 53 RowD.d))) rfl (oR 1 rfl (oZ rfl (jk [0, 2, 3, 4, 5] rfl (jT rfl (oR 1 rfl ?_)))))
  refine oE rfl (zx [.bx gb 39 (zu vRb vRw)] ([.sl vRb 1 22 (KR.map Kp.d), .sl vRw 1 22 (WR.map (D.ls 2 RowD.d))] ++ ((putK gR KR).map (Kp.h 2 53 RowD.d))) [] rfl rfl (.cons ArgC.id .nil) zo Tryz.call81 (growLabels_0 gb (dZ) (dZ) (dZ) (dZ) (dZ) (dZ) (dZ) (dZ) (dZ) (dZ) (dZ) (dZ) (dZ) (dZ) (dZ) (.ov vRb) (.ov vRw) (dZ) (dZ)) (.inl rfl)) ?_
  rintro _ _ ⟨_, ⟨rfl, rfl⟩, rfl⟩
  refine OpsD.norm ([.bx gb 39 (zu vRb vRw), .sl vRb 1 22 (KR.map Kp.d), .sl vRw 1 22 (WR.map (D.ls 2 RowD.d))] ++ ((putK gR KR).map (Kp.h 2 53 RowD.d))) rfl (oR 1 rfl (oZ rfl (jT rfl (oR 1 rfl ?_))))
  refine oE rfl (zx [.bx gb 39 (zu vRb vRw)] ([.sl vRb 1 22 (KR.map Kp.d), .sl vRw 1 22 (WR.map (D.ls 2 RowD.d))] ++ ((putK gR KR).map (Kp.h 2 53 RowD.d))) [] rfl rfl (.cons ArgC.id .nil) zo Tryz.call82 (growPoints_0 gb (dZ) (dZ) (dZ) (dZ) (dZ) (dZ) (dZ) (dZ) (dZ) (dZ) (dZ) (dZ) (dZ) (dZ) (dZ) (.ov vRb) (.ov vRw) (dZ) (dZ)) (.inl rfl)) ?_
  rintro _ _ ⟨_, ⟨rfl, rfl⟩, rfl⟩
  refine OpsD.norm ([.bx gb 39 (zu vRb vRw), .sl vRb 1 22 (KR.map Kp.d), .sl vRw 1 22 (WR.map (D.ls 2 RowD.d))] ++ ((putK gR KR).map (Kp.h 2 53 RowD.d))) rfl (oR 1 rfl (oZ rfl (jT rfl (oR 1 rfl ?_))))
  refine oE rfl (zx [.bx gb 39 (zu vRb vRw)] ([.sl vRb 1 22 (KR.map Kp.d), .sl vRw 1 22 (WR.map (D.ls 2 RowD.d))] ++ ((putK gR KR).map (Kp.h 2 53 RowD.d))) [] rfl rfl (.cons ArgC.id .nil) zo Tryz.call83 (growTokens_0 gb (dZ) (dZ) (dZ) (dZ) (dZ) (dZ) (dZ) (dZ) (dZ) (dZ) (dZ) (dZ) (dZ) (dZ) (dZ) (.ov vRb) (.ov vRw) (dZ) (dZ)) (.inl rfl)) ?_
  rintro _ _ ⟨_, ⟨rfl, rfl⟩, rfl⟩
  refine OpsD.norm ([.bx gb 39 (zu vRb vRw), .sl vRb 1 22 (KR.map Kp.d), .sl vRw 1 22 (WR.map (D.ls 2 RowD.d))] ++ ((putK gR KR).map (Kp.h 2 53 RowD.d))) rfl (oR 1 rfl (oZ rfl (jT rfl (oR 1 rfl ?_))))
  refine oE rfl (zx [.bx gb 39 (zu vRb vRw)] ([.sl vRb 1 22 (KR.map Kp.d), .sl vRw 1 22 (WR.map (D.ls 2 RowD.d))] ++ ((putK gR KR).map (Kp.h 2 53 RowD.d))) [] rfl rfl (.cons ArgC.id .nil) zo Tryz.call84 (growCursors_0 gb (dZ) (dZ) (dZ) (dZ) (dZ) (dZ) (dZ) (dZ) (dZ) (dZ) (dZ) (dZ) (dZ) (dZ) (dZ) (.ov vRb) (.ov vRw) (dZ) (dZ)) (.inl rfl)) ?_
  rintro _ _ ⟨_, ⟨rfl, rfl⟩, rfl⟩
  refine OpsD.norm ([.bx gb 39 (zu vRb vRw), .sl vRb 1 22 (KR.map Kp.d), .sl vRw 1 22 (WR.map (D.ls 2 RowD.d))] ++ ((putK gR KR).map (Kp.h 2 53 RowD.d))) rfl (oR 1 rfl (oZ rfl (jT rfl (oR 1 rfl ?_))))
  refine oE rfl (zx [.bx gb 39 (zu vRb vRw)] ([.sl vRb 1 22 (KR.map Kp.d), .sl vRw 1 22 (WR.map (D.ls 2 RowD.d))] ++ ((putK gR KR).map (Kp.h 2 53 RowD.d))) [] rfl rfl (.cons ArgC.id .nil) zo Tryz.call85 (growNotes_0 gb (dZ) (dZ) (dZ) (dZ) (dZ) (dZ) (dZ) (dZ) (dZ) (dZ) (dZ) (dZ) (dZ) (dZ) (dZ) (.ov vRb) (.ov vRw) (dZ) (dZ)) (.inl rfl)) ?_
  rintro _ _ ⟨_, ⟨rfl, rfl⟩, rfl⟩
  refine OpsD.norm ([.bx gb 39 (zu vRb vRw), .sl vRb 1 22 (KR.map Kp.d), .sl vRw 1 22 (WR.map (D.ls 2 RowD.d))] ++ ((putK gR KR).map (Kp.h 2 53 RowD.d))) rfl (oR 1 rfl (oZ rfl (jk [0, 2, 3, 4, 5, 6, 7, 8, 9, 10] rfl (jT rfl (oR 1 rfl (OpsD.norm ([.bx gb 39 (zu vRb vRw), .sl vRb 1 22 ((putK gR KR).map Kp.d), .sl vRw 1 22 (WR.map (D.ls 2 RowD.d))] ++ ((putK gR KR).map (Kp.h 2 53 RowD.d))) (by rw [putK_d]) ?_))))))
  refine OpsD.subH (HSub.perm (zck (A := [.bx gb 39 (zu vRb vRw), .sl vRb 1 22 ((putK gR KR).map Kp.d)]) (B := [.sl vRw 1 22 (WR.map (D.ls 2 RowD.d))]) (T := (putK gR KR).map (Kp.h 2 53 RowD.d)))) ?_
  refine oE rfl (zx ([.bx gb 39 (zu vRb vRw), .sl vRb 1 22 ((putK gR KR).map Kp.d)] ++ ((putK gR KR).map (Kp.h 2 53 RowD.d))) [.sl vRw 1 22 (WR.map (D.ls 2 RowD.d))] [] rfl rfl (.cons ArgC.id .nil) zo Tryz.call86 (growRows_c gb vRb vRw (dZ) (dZ) (dZ) (dZ) (dZ) (dZ) (dZ) (dZ) (dZ) (dZ) (dZ) (dZ) (dZ) (dZ) (dZ) (dZ) (dZ) (dZ) (putK gR KR) (by rw [putK_len]; omega) (putK_light hBR) putK_marked) (.inl rfl)) ?_
  rintro _ _ ⟨_, ⟨goR, GR, rfl, rfl, hGR⟩, rfl⟩
  refine OpsD.subH (HSub.perm (zck (A := [.bx gb 39 (zu vRb vRw), .sl vRb 1 22 (GR.map K2.d0), .sl goR 1 22 (GR.map K2.d1)]) (B := [.sl vRw 1 22 (WR.map (D.ls 2 RowD.d))]) (T := GR.map (K2.h 2 53 RowD.d))).symm) (OpsD.norm ([.bx gb 39 (zu vRb vRw), .sl vRb 1 22 (GR.map K2.d0), .sl goR 1 22 (GR.map K2.d1), .sl vRw 1 22 (WR.map (D.ls 2 RowD.d))] ++ (GR.map (K2.h 2 53 RowD.d))) rfl (oR 1 rfl (oZ rfl (jT rfl (oR 1 rfl ?_)))))
  refine oE rfl (zx [.bx gb 39 (zu vRb vRw)] ([.sl vRb 1 22 (GR.map K2.d0), .sl goR 1 22 (GR.map K2.d1), .sl vRw 1 22 (WR.map (D.ls 2 RowD.d))] ++ (GR.map (K2.h 2 53 RowD.d))) [] rfl rfl (.cons ArgC.id .nil) zo Tryz.call87 (growSeries_0 gb (dZ) (dZ) (dZ) (dZ) (dZ) (dZ) (dZ) (dZ) (dZ) (dZ) (dZ) (dZ) (dZ) (dZ) (dZ) (dZ) (.ov vRb) (.ov vRw) (dZ)) (.inl rfl)) ?_
  rintro _ _ ⟨_, ⟨rfl, rfl⟩, rfl⟩
  refine OpsD.norm ([.bx gb 39 (zu vRb vRw), .sl vRb 1 22 (GR.map K2.d0), .sl goR 1 22 (GR.map K2.d1), .sl vRw 1 22 (WR.map (D.ls 2 RowD.d))] ++ (GR.map (K2.h 2 53 RowD.d))) rfl (oR 1 rfl (oZ rfl (jT rfl (oR 1 rfl (oE rfl (zx [] ([.bx gb 39 (zu vRb vRw), .sl vRb 1 22 (GR.map K2.d0), .sl goR 1 22 (GR.map K2.d1), .sl vRw 1 22 (WR.map (D.ls 2 RowD.d))] ++ (GR.map (K2.h 2 53 RowD.d))) [] rfl rfl (.cons ArgC.id .nil) zo Tryz.call88 (markedTexts_0) (.inl rfl)) ?_)))))
  rintro _ _ ⟨_, ⟨rfl, rfl⟩, rfl⟩
  refine OpsD.norm ([.bx gb 39 (zu vRb vRw), .sl vRb 1 22 (GR.map K2.d0), .sl goR 1 22 (GR.map K2.d1), .sl vRw 1 22 (WR.map (D.ls 2 RowD.d))] ++ (GR.map (K2.h 2 53 RowD.d))) rfl (oR 3 rfl (oG rfl (zl rfl fa_39_0 rfl) (oG rfl (zz rfl (i := 0) rfl Tryz.isAgg28 rfl) (oF rfl (zx [] ([.bx gb 39 (zu vRb vRw), .sl vRb 1 22 (GR.map K2.d0), .sl goR 1 22 (GR.map K2.d1), .sl vRw 1 22 (WR.map (D.ls 2 RowD.d))] ++ (GR.map (K2.h 2 53 RowD.d))) [] rfl rfl (.cons ArgC.id .nil) zo Tryz.call88 (markedTexts_0) (.inl rfl)) ?_))))
  rintro _ _ ⟨_, ⟨rfl, rfl⟩, rfl⟩
  refine OpsD.norm ([.bx gb 39 (zu vRb vRw), .sl vRb 1 22 (GR.map K2.d0), .sl goR 1 22 (GR.map K2.d1), .sl vRw 1 22 (WR.map (D.ls 2 RowD.d))] ++ (GR.map (K2.h 2 53 RowD.d))) rfl (oR 3 rfl (oF rfl (zx [] ([.bx gb 39 (zu vRb vRw), .sl vRb 1 22 (GR.map K2.d0), .sl goR 1 22 (GR.map K2.d1), .sl vRw 1 22 (WR.map (D.ls 2 RowD.d))] ++ (GR.map (K2.h 2 53 RowD.d))) [] rfl rfl (.cons ArgC.id .nil) zo Tryz.call89 (markedInts_0) (.inl rfl)) ?_))
  rintro _ _ ⟨_, ⟨rfl, rfl⟩, rfl⟩
  refine OpsD.norm ([.bx gb 39 (zu vRb vRw), .sl vRb 1 22 (GR.map K2.d0), .sl goR 1 22 (GR.map K2.d1), .sl vRw 1 22 (WR.map (D.ls 2 RowD.d))] ++ (GR.map (K2.h 2 53 RowD.d))) rfl (oR 4 rfl (oG rfl (zl rfl zdM rfl) (oG rfl (zz rfl (i := 0) rfl Tryz.isAgg29 rfl) (oF rfl (zx [] ([.bx gb 39 (zu vRb vRw), .sl vRb 1 22 (GR.map K2.d0), .sl goR 1 22 (GR.map K2.d1), .sl vRw 1 22 (WR.map (D.ls 2 RowD.d))] ++ (GR.map (K2.h 2 53 RowD.d))) [] rfl rfl (.cons ArgC.id .nil) zo Tryz.call89 (markedInts_0) (.inl rfl)) ?_))))
  rintro _ _ ⟨_, ⟨rfl, rfl⟩, rfl⟩
  refine OpsD.norm ([.bx gb 39 (zu vRb vRw), .sl vRb 1 22 (GR.map K2.d0), .sl goR 1 22 (GR.map K2.d1), .sl vRw 1 22 (WR.map (D.ls 2 RowD.d))] ++ (GR.map (K2.h 2 53 RowD.d))) rfl (oR 3 rfl (oF rfl (zx [] ([.bx gb 39 (zu vRb vRw), .sl vRb 1 22 (GR.map K2.d0), .sl goR 1 22 (GR.map K2.d1), .sl vRw 1 22 (WR.map (D.ls 2 RowD.d))] ++ (GR.map (K2.h 2 53 RowD.d))) [] rfl rfl (.cons ArgC.id .nil) zo Tryz.call90 (markedRunes_0) (.inl rfl)) ?_))
  rintro _ _ ⟨_, ⟨rfl, rfl⟩, rfl⟩
  refine OpsD.norm ([.bx gb 39 (zu vRb vRw), .sl vRb 1 22 (GR.map K2.d0), .sl goR 1 22 (GR.map K2.d1), .sl vRw 1 22 (WR.map (D.ls 2 RowD.d))] ++ (GR.map (K2.h 2 53 RowD.d))) rfl (oR 4 rfl (oG rfl (zl rfl fa_39_4 rfl) (oG rfl (zz rfl (i := 0) rfl Tryz.isAgg30 rfl) (oF rfl (zx [] ([.bx gb 39 (zu vRb vRw), .sl vRb 1 22 (GR.map K2.d0), .sl goR 1 22 (GR.map K2.d1), .sl vRw 1 22 (WR.map (D.ls 2 RowD.d))] ++ (GR.map (K2.h 2 53 RowD.d))) [] rfl rfl (.cons ArgC.id .nil) zo Tryz.call90 (markedRunes_0) (.inl rfl)) ?_))))
  rintro _ _ ⟨_, ⟨rfl, rfl⟩, rfl⟩
  refine OpsD.norm ([.bx gb 39 (zu vRb vRw), .sl vRb 1 22 (GR.map K2.d0), .sl goR 1 22 (GR.map K2.d1), .sl vRw 1 22 (WR.map (D.ls 2 RowD.d))] ++ (GR.map (K2.h 2 53 RowD.d))) rfl (oR 3 rfl (oF rfl (zx [] ([.bx gb 39 (zu vRb vRw), .sl vRb 1 22 (GR.map K2.d0), .sl goR 1 22 (GR.map K2.d1), .sl vRw 1 22 (WR.map (D.ls 2 RowD.d))] ++ (GR.map (K2.h 2 53 RowD.d))) [] rfl rfl (.cons ArgC.id .nil) zo Tryz.call91 (markedLabels_0) (.inl rfl)) ?_))
  rintro _ _ ⟨_, ⟨rfl, rfl⟩, rfl⟩
  refine OpsD.norm ([.bx gb 39 (zu vRb vRw), .sl vRb 1 22 (GR.map K2.d0), .sl goR 1 22 (GR.map K2.d1), .sl vRw 1 22 (WR.map (D.ls 2 RowD.d))] ++ (GR.map (K2.h 2 53 RowD.d))) rfl (oR 4 rfl (oG rfl (zl rfl fa_39_6 rfl) (oG rfl (zz rfl (i := 0) rfl Tryz.isAgg31 rfl) (oF rfl (zx [] ([.bx gb 39 (zu vRb vRw), .sl vRb 1 22 (GR.map K2.d0), .sl goR 1 22 (GR.map K2.d1), .sl vRw 1 22 (WR.map (D.ls 2 RowD.d))] ++ (GR.map (K2.h 2 53 RowD.d))) [] rfl rfl (.cons ArgC.id .nil) zo Tryz.call91 (markedLabels_0) (.inl rfl)) ?_))))
  rintro _ _ ⟨_, ⟨rfl, rfl⟩, rfl⟩
  refine OpsD.norm ([.bx gb 39 (zu vRb vRw), .sl vRb 1 22 (GR.map K2.d0), .sl goR 1 22 (GR.map K2.d1), .sl vRw 1 22 (WR.map (D.ls 2 RowD.d))] ++ (GR.map (K2.h 2 53 RowD.d))) rfl (oR 3 rfl (oF rfl (zx [] ([.bx gb 39 (zu vRb vRw), .sl vRb 1 22 (GR.map K2.d0), .sl goR 1 22 (GR.map K2.d1), .sl vRw 1 22 (WR.map (D.ls 2 RowD.d))] ++ (GR.map (K2.h 2 53 RowD.d))) [] rfl rfl (.cons ArgC.id .nil) zo Tryz.call92 (markedPoints_0) (.inl rfl)) ?_))
  rintro _ _ ⟨_, ⟨rfl, rfl⟩, rfl⟩
  refine OpsD.norm ([.bx gb 39 (zu vRb vRw), .sl vRb 1 22 (GR.map K2.d0), .sl goR 1 22 (GR.map K2.d1), .sl vRw 1 22 (WR.map (D.ls 2 RowD.d))] ++ (GR.map (K2.h 2 53 RowD.d))) rfl (oR 4 rfl (oG rfl (zl rfl fa_39_8 rfl) (oG rfl (zz rfl (i := 0) rfl Tryz.isAgg32 rfl) (oF rfl (zx [] ([.bx gb 39 (zu vRb vRw), .sl vRb 1 22 (GR.map K2.d0), .sl goR 1 22 (GR.map K2.d1), .sl vRw 1 22 (WR.map (D.ls 2 RowD.d))] ++ (GR.map (K2.h 2 53 RowD.d))) [] rfl rfl (.cons ArgC.id .nil) zo Tryz.call92 (markedPoints_0) (.inl rfl)) ?_))))
  rintro _ _ ⟨_, ⟨rfl, rfl⟩, rfl⟩
  refine OpsD.norm ([.bx gb 39 (zu vRb vRw), .sl vRb 1 22 (GR.map K2.d0), .sl goR 1 22 (GR.map K2.d1), .sl vRw 1 22 (WR.map (D.ls 2 RowD.d))] ++ (GR.map (K2.h 2 53 RowD.d))) rfl (oR 3 rfl (oF rfl (zx [] ([.bx gb 39 (zu vRb vRw), .sl vRb 1 22 (GR.map K2.d0), .sl goR 1 22 (GR.map K2.d1), .sl vRw 1 22 (WR.map (D.ls 2 RowD.d))] ++ (GR.map (K2.h 2 53 RowD.d))) [] rfl rfl (.cons ArgC.id .nil) zo Tryz.call93 (markedTokens_0) (.inl rfl)) ?_))
  rintro _ _ ⟨_, ⟨rfl, rfl⟩, rfl⟩
  refine OpsD.norm ([.bx gb 39 (zu vRb vRw), .sl vRb 1 22 (GR.map K2.d0), .sl goR 1 22 (GR.map K2.d1), .sl vRw 1 22 (WR.map (D.ls 2 RowD.d))] ++ (GR.map (K2.h 2 53 RowD.d))) rfl (oR 4 rfl (oG rfl (zl rfl fa_39_10 rfl) (oG rfl (zz rfl (i := 0) rfl Tryz.isAgg33 rfl) (oF rfl (zx [] ([.bx gb 39 (zu vRb vRw), .sl vRb 1 22 (GR.map K2.d0), .sl goR 1 22 (GR.map K2.d1), .sl vRw 1 22 (WR.map (D.ls 2 RowD.d))] ++ (GR.map (K2.h 2 53 RowD.d))) [] rfl rfl (.cons ArgC.id .nil) zo Tryz.call93 (markedTokens_0) (.inl rfl)) ?_))))
  rintro _ _ ⟨_, ⟨rfl, rfl⟩, rfl⟩
  refine OpsD.norm ([.bx gb 39 (zu vRb vRw), .sl vRb 1 22 (GR.map K2.d0), .sl goR 1 22 (GR.map K2.d1), .sl vRw 1 22 (WR.map (D.ls 2 RowD.d))] ++ (GR.map (K2.h 2 53 RowD.d))) rfl (oR 3 rfl (oF rfl (zx [] ([.bx gb 39 (zu vRb vRw), .sl vRb 1 22 (GR.map K2.d0), .sl goR 1 22 (GR.map K2.d1), .sl vRw 1 22 (WR.map (D.ls 2 RowD.d))] ++ (GR.map (K2.h 2 53 RowD.d))) [] rfl rfl (.cons ArgC.id .nil) zo Tryz.call94 (markedCursors_0) (.inl rfl)) ?_))
  rintro _ _ ⟨_, ⟨rfl, rfl⟩, rfl⟩
  refine OpsD.norm ([.bx gb 39 (zu vRb vRw), .sl vRb 1 22 (GR.map K2.d0), .sl goR 1 22 (GR.map K2.d1), .sl vRw 1 22 (WR.map (D.ls 2 RowD.d))] ++ (GR.map (K2.h 2 53 RowD.d))) rfl (oR 4 rfl (oG rfl (zl rfl fa_39_12 rfl) (oG rfl (zz rfl (i := 0) rfl Tryz.isAgg34 rfl) (oF rfl (zx [] ([.bx gb 39 (zu vRb vRw), .sl vRb 1 22 (GR.map K2.d0), .sl goR 1 22 (GR.map K2.d1), .sl vRw 1 22 (WR.map (D.ls 2 RowD.d))] ++ (GR.map (K2.h 2 53 RowD.d))) [] rfl rfl (.cons ArgC.id .nil) zo Tryz.call94 (markedCursors_0) (.inl rfl)) ?_))))
  rintro _ _ ⟨_, ⟨rfl, rfl⟩, rfl⟩
  refine OpsD.norm ([.bx gb 39 (zu vRb vRw), .sl vRb 1 22 (GR.map K2.d0), .sl goR 1 22 (GR.map K2.d1), .sl vRw 1 22 (WR.map (D.ls 2 RowD.d))] ++ (GR.map (K2.h 2 53 RowD.d))) rfl (oR 3 rfl (oF rfl (zx [] ([.bx gb 39 (zu vRb vRw), .sl vRb 1 22 (GR.map K2.d0), .sl goR 1 22 (GR.map K2.d1), .sl vRw 1 22 (WR.map (D.ls 2 RowD.d))] ++ (GR.map (K2.h 2 53 RowD.d))) [] rfl rfl (.cons ArgC.id .nil) zo Tryz.call95 (markedNotes_0) (.inl rfl)) ?_))
  rintro _ _ ⟨_, ⟨rfl, rfl⟩, rfl⟩
  refine OpsD.norm ([.bx gb 39 (zu vRb vRw), .sl vRb 1 22 (GR.map K2.d0), .sl goR 1 22 (GR.map K2.d1), .sl vRw 1 22 (WR.map (D.ls 2 RowD.d))] ++ (GR.map (K2.h 2 53 RowD.d))) rfl (oR 4 rfl (oG rfl (zl rfl fa_39_14 rfl) (oG rfl (zz rfl (i := 0) rfl Tryz.isAgg35 rfl) (oF rfl (zx [] ([.bx gb 39 (zu vRb vRw), .sl vRb 1 22 (GR.map K2.d0), .sl goR 1 22 (GR.map K2.d1), .sl vRw 1 22 (WR.map (D.ls 2 RowD.d))] ++ (GR.map (K2.h 2 53 RowD.d))) [] rfl rfl (.cons ArgC.id .nil) zo Tryz.call95 (markedNotes_0) (.inl rfl)) ?_))))
  rintro _ _ ⟨_, ⟨rfl, rfl⟩, rfl⟩
  refine OpsD.norm ([.bx gb 39 (zu vRb vRw), .sl vRb 1 22 (GR.map K2.d0), .sl goR 1 22 (GR.map K2.d1), .sl vRw 1 22 (WR.map (D.ls 2 RowD.d))] ++ (GR.map (K2.h 2 53 RowD.d))) rfl (oR 3 rfl (OpsD.subH (HSub.perm (zk (i := 2) rfl)) (OpsD.norm ([.sl goR 1 22 (GR.map K2.d1), .bx gb 39 (zu vRb vRw), .sl vRb 1 22 (GR.map K2.d0), .sl vRw 1 22 (WR.map (D.ls 2 RowD.d))] ++ (GR.map (K2.h 2 53 RowD.d))) rfl ?_)))
  refine OpsD.subH (HSub.perm (zck (A := [.sl goR 1 22 (GR.map K2.d1)]) (B := [.bx gb 39 (zu vRb vRw), .sl vRb 1 22 (GR.map K2.d0), .sl vRw 1 22 (WR.map (D.ls 2 RowD.d))]) (T := GR.map (K2.h 2 53 RowD.d)))) (oF rfl (zx ([.sl goR 1 22 (GR.map K2.d1)] ++ (GR.map (K2.h 2 53 RowD.d))) [.bx gb 39 (zu vRb vRw), .sl vRb 1 22 (GR.map K2.d0), .sl vRw 1 22 (WR.map (D.ls 2 RowD.d))] [] rfl rfl (.cons ArgC.id .nil) zo Tryz.call96 (markedRowsN_c goR GR (by have e := hGR.len; rw [putK_len] at e; omega) hGR.at_) (.inl rfl)) ?_)
  rintro _ _ ⟨_, ⟨rfl, rfl⟩, rfl⟩
  refine OpsD.subH (HSub.perm (zck (A := [.sl goR 1 22 (GR.map K2.d1)]) (B := [.bx gb 39 (zu vRb vRw), .sl vRb 1 22 (GR.map K2.d0), .sl vRw 1 22 (WR.map (D.ls 2 RowD.d))]) (T := GR.map (K2.h 2 53 RowD.d))).symm) (OpsD.norm ([.sl goR 1 22 (GR.map K2.d1), .bx gb 39 (zu vRb vRw), .sl vRb 1 22 (GR.map K2.d0), .sl vRw 1 22 (WR.map (D.ls 2 RowD.d))] ++ (GR.map (K2.h 2 53 RowD.d))) rfl (oR 4 rfl (oG rfl (zl rfl zbo rfl) (oG rfl (zz rfl (i := 1) rfl Tryz.isAgg36 rfl) (OpsD.subH (HSub.perm (zk (i := 2) rfl)) ?_)))))
  refine OpsD.norm ([.sl vRb 1 22 (GR.map K2.d0), .sl goR 1 22 (GR.map K2.d1), .bx gb 39 (zu vRb vRw), .sl vRw 1 22 (WR.map (D.ls 2 RowD.d))] ++ (GR.map (K2.h 2 53 RowD.d))) rfl (OpsD.subH (HSub.perm (zck (A := [.sl vRb 1 22 (GR.map K2.d0)]) (B := [.sl goR 1 22 (GR.map K2.d1), .bx gb 39 (zu vRb vRw), .sl vRw 1 22 (WR.map (D.ls 2 RowD.d))]) (T := GR.map (K2.h 2 53 RowD.d)))) ?_)
  refine oF rfl (zx ([.sl vRb 1 22 (GR.map K2.d0)] ++ (GR.map (K2.h 2 53 RowD.d))) [.sl goR 1 22 (GR.map K2.d1), .bx gb 39 (zu vRb vRw), .sl vRw 1 22 (WR.map (D.ls 2 RowD.d))] [] rfl rfl (.cons ArgC.id .nil) zo Tryz.call96 (markedRowsW_c vRb GR (by have e := hGR.len; rw [putK_len] at e; omega) hGR.at_) (.inl rfl)) ?_
  rintro _ _ ⟨_, ⟨rfl, rfl⟩, rfl⟩
  refine OpsD.subH (HSub.perm (zck (A := [.sl vRb 1 22 (GR.map K2.d0)]) (B := [.sl goR 1 22 (GR.map K2.d1), .bx gb 39 (zu vRb vRw), .sl vRw 1 22 (WR.map (D.ls 2 RowD.d))]) (T := GR.map (K2.h 2 53 RowD.d))).symm) (OpsD.norm ([.sl vRb 1 22 (GR.map K2.d0), .sl goR 1 22 (GR.map K2.d1), .bx gb 39 (zu vRb vRw), .sl vRw 1 22 (WR.map (D.ls 2 RowD.d))] ++ (GR.map (K2.h 2 53 RowD.d))) rfl (oR 3 rfl ?_))
  refine oF rfl (zx [] ([.sl vRb 1 22 (GR.map K2.d0), .sl goR 1 22 (GR.map K2.d1), .bx gb 39 (zu vRb vRw), .sl vRw 1 22 (WR.map (D.ls 2 RowD.d))] ++ (GR.map (K2.h 2 53 RowD.d))) [] rfl rfl (.cons ArgC.id .nil) zo Tryz.call97 (markedSeries_0) (.inl rfl)) ?_
  rintro _ _ ⟨_, ⟨rfl, rfl⟩, rfl⟩
  refine OpsD.norm ([.sl vRb 1 22 (GR.map K2.d0), .sl goR 1 22 (GR.map K2.d1), .bx gb 39 (zu vRb vRw), .sl vRw 1 22 (WR.map (D.ls 2 RowD.d))] ++ (GR.map (K2.h 2 53 RowD.d))) rfl (oR 4 rfl (oG rfl (zl rfl fa_39_18 rfl) (oG rfl (zz rfl (i := 2) rfl Tryz.isAgg37 rfl) (oF rfl (zx [] ([.sl vRb 1 22 (GR.map K2.d0), .sl goR 1 22 (GR.map K2.d1), .bx gb 39 (zu vRb vRw), .sl vRw 1 22 (WR.map (D.ls 2 RowD.d))] ++ (GR.map (K2.h 2 53 RowD.d))) [] rfl rfl (.cons ArgC.id .nil) zo Tryz.call97 (markedSeries_0) (.inl rfl)) ?_))))
  rintro _ _ ⟨_, ⟨rfl, rfl⟩, rfl⟩
  refine OpsD.norm ([.sl vRb 1 22 (GR.map K2.d0), .sl goR 1 22 (GR.map K2.d1), .bx gb 39 (zu vRb vRw), .sl vRw 1 22 (WR.map (D.ls 2 RowD.d))] ++ (GR.map (K2.h 2 53 RowD.d))) rfl (oR 2 rfl (oZ rfl (jk [2] rfl (zs rfl ?_))))
  exact zj Tryz.results29 (.cons (zf rfl) .nil) rfl HSub.none ⟨rfl, rfl⟩
end Lp
