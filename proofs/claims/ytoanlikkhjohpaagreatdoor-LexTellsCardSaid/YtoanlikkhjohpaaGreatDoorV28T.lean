/- Walks, printed by a program of mine. -/
import Derived.Test.YtoanlikkhjohpaaGreatDoorV46
set_option linter.unusedSimpArgs false
set_option linter.unusedVariables false
namespace Lp
open Go Go.RowKit Go.Proofs
abbrev zA (a10 a11 : Value) : D := .agg [dZ, dZ, dZ, dZ, dZ, dZ, dZ, dZ, dZ, dZ, .ov a10, .ov a11, dZ, dZ, dZ, dZ, dZ, dZ, dZ, dZ]

namespace HdYtoanlikkhjohpaaGreatDoorV28T
theorem fa_35_0 (b o : Nat) : ∀ w, (Instr.fieldAt 35 (.pointer (some ⟨b, o, none⟩)) 0).run Tryz.prog w = .ok (.pointer (some ⟨b, o + 0, none⟩)) w := fun _ => by kernel_rfl
theorem za6 (b o : Nat) : ∀ w, (Instr.fieldAt 35 (.pointer (some ⟨b, o, none⟩)) 10).run Tryz.prog w = .ok (.pointer (some ⟨b, o + 10, none⟩)) w := fun _ => by kernel_rfl
theorem fa_35_12 (b o : Nat) : ∀ w, (Instr.fieldAt 35 (.pointer (some ⟨b, o, none⟩)) 12).run Tryz.prog w = .ok (.pointer (some ⟨b, o + 12, none⟩)) w := fun _ => by kernel_rfl
theorem fa_35_14 (b o : Nat) : ∀ w, (Instr.fieldAt 35 (.pointer (some ⟨b, o, none⟩)) 14).run Tryz.prog w = .ok (.pointer (some ⟨b, o + 14, none⟩)) w := fun _ => by kernel_rfl
theorem zcz (b o : Nat) : ∀ w, (Instr.fieldAt 35 (.pointer (some ⟨b, o, none⟩)) 16).run Tryz.prog w = .ok (.pointer (some ⟨b, o + 16, none⟩)) w := fun _ => by kernel_rfl
theorem fa_35_18 (b o : Nat) : ∀ w, (Instr.fieldAt 35 (.pointer (some ⟨b, o, none⟩)) 18).run Tryz.prog w = .ok (.pointer (some ⟨b, o + 18, none⟩)) w := fun _ => by kernel_rfl
theorem zc3 (b o : Nat) : ∀ w, (Instr.fieldAt 35 (.pointer (some ⟨b, o, none⟩)) 2).run Tryz.prog w = .ok (.pointer (some ⟨b, o + 2, none⟩)) w := fun _ => by kernel_rfl
theorem fa_35_4 (b o : Nat) : ∀ w, (Instr.fieldAt 35 (.pointer (some ⟨b, o, none⟩)) 4).run Tryz.prog w = .ok (.pointer (some ⟨b, o + 4, none⟩)) w := fun _ => by kernel_rfl
theorem fa_35_6 (b o : Nat) : ∀ w, (Instr.fieldAt 35 (.pointer (some ⟨b, o, none⟩)) 6).run Tryz.prog w = .ok (.pointer (some ⟨b, o + 6, none⟩)) w := fun _ => by kernel_rfl
theorem fa_35_8 (b o : Nat) : ∀ w, (Instr.fieldAt 35 (.pointer (some ⟨b, o, none⟩)) 8).run Tryz.prog w = .ok (.pointer (some ⟨b, o + 8, none⟩)) w := fun _ => by kernel_rfl
end HdYtoanlikkhjohpaaGreatDoorV28T
open HdYtoanlikkhjohpaaGreatDoorV28T

set_option maxHeartbeats 4000000 in
set_option maxRecDepth 100000 in
theorem stillTexts_0 (gb : Nat) (c1 c2 c3 c4 c5 c6 c7 c8 c9 c10 c11 c12 c13 c14 c15 c16 c17 c18 c19 : D)  :
    CD Tryz.prog 20 [.bx gb 35 (.agg [dZ, c1, c2, c3, c4, c5, c6, c7, c8, c9, c10, c11, c12, c13, c14, c15, c16, c17, c18, c19])] [dP gb 0] (fun r H' => r = dB true ∧ H' = [.bx gb 35 (.agg [dZ, c1, c2, c3, c4, c5, c6, c7, c8, c9, c10, c11, c12, c13, c14, c15, c16, c17, c18, c19])]) := by
  refine zH Tryz.func20 rfl (N := 29) rfl rfl (fun C => ?_)
  refine JD.keep [0] [(0, dP gb 0)] rfl (zf _ _ rfl rfl rfl (zb rfl (za rfl rfl (zd rfl) (zg rfl (ze (zf _ _ rfl rfl rfl (zf _ _ rfl rfl rfl (zb rfl (za rfl rfl (zd rfl) (zg rfl (ze (zB _ rfl rfl (zS (fun (g : Unit) => [(0, dP gb 0), (3, dI 0)]) (fun (g : Unit) => [.bx gb 35 (.agg [dZ, c1, c2, c3, c4, c5, c6, c7, c8, c9, c10, c11, c12, c13, c14, c15, c16, c17, c18, c19])]) (fun (g : Unit) => True) (fun (g : Unit) => 0) _ () rfl rfl ⟨sk rfl, sk rfl, trivial⟩ HSub.rfl' trivial ?_)))))))))))))
  rintro _ _
  refine JD.keep [0, 3] [(0, dP gb 0), (3, dI 0)] rfl (JD.norm [.bx gb 35 (.agg [dZ, c1, c2, c3, c4, c5, c6, c7, c8, c9, c10, c11, c12, c13, c14, c15, c16, c17, c18, c19])] rfl (zf _ _ rfl rfl rfl (zf _ _ rfl rfl rfl (zb rfl (za rfl rfl (zc rfl) (za rfl rfl (zc rfl) (za rfl rfl (zI rfl) (za rfl rfl (zE rfl fa_35_0 rfl) (za rfl rfl (zL rfl (i := 0) rfl Tryz.isAgg24 rfl) (za rfl rfl (zal (n := 0) rfl ⟨_, _, rfl⟩ Tryz.runUnderlying24) (za rfl rfl (z1 rfl rfl rfl) (zg rfl (ze ?_)))))))))))))
  refine zl _ _ rfl rfl rfl rfl (fun hc1 => ?_) (fun hc1 => ?_)
  · replace hc1 := of_decide_eq_true hc1
    exfalso; omega
  · replace hc1 := of_decide_eq_false hc1
    refine zO rfl (zD (zz (zw (ze (JD.keep [] [] rfl (zf _ _ rfl rfl rfl (zb rfl (za rfl rfl (zd rfl) (zg rfl (ze (zu rfl ?_)))))))))))
    exact zk Tryz.results20 (.cons (zo rfl) .nil) rfl HSub.rfl' ⟨rfl, rfl⟩

set_option maxHeartbeats 4000000 in
set_option maxRecDepth 100000 in
theorem putTexts_0 (gb : Nat) (c1 c2 c3 c4 c5 c6 c7 c8 c9 c10 c11 c12 c13 c14 c15 c16 c17 c18 c19 : D)  :
    CD Tryz.prog 32 [.bx gb 35 (.agg [dZ, c1, c2, c3, c4, c5, c6, c7, c8, c9, c10, c11, c12, c13, c14, c15, c16, c17, c18, c19])] [dP gb 0] (fun r H' => r = .tup [] ∧ H' = [.bx gb 35 (.agg [dZ, c1, c2, c3, c4, c5, c6, c7, c8, c9, c10, c11, c12, c13, c14, c15, c16, c17, c18, c19])]) := by
  refine zH Tryz.func32 rfl (N := 43) rfl rfl (fun C => ?_)
  refine JD.keep [0] [(0, dP gb 0)] rfl (zf _ _ rfl rfl rfl (zb rfl (za rfl rfl (zd rfl) (zg rfl (ze (zB _ rfl rfl (zS (fun (g : Unit) => [(0, dP gb 0), (2, dI 0)]) (fun (g : Unit) => [.bx gb 35 (.agg [dZ, c1, c2, c3, c4, c5, c6, c7, c8, c9, c10, c11, c12, c13, c14, c15, c16, c17, c18, c19])]) (fun (g : Unit) => True) (fun (g : Unit) => 0) _ () rfl rfl ⟨sk rfl, sk rfl, trivial⟩ HSub.rfl' trivial ?_)))))))
  rintro _ _
  refine JD.keep [0, 2] [(0, dP gb 0), (2, dI 0)] rfl (JD.norm [.bx gb 35 (.agg [dZ, c1, c2, c3, c4, c5, c6, c7, c8, c9, c10, c11, c12, c13, c14, c15, c16, c17, c18, c19])] rfl (zf _ _ rfl rfl rfl (zf _ _ rfl rfl rfl (zb rfl (za rfl rfl (zc rfl) (za rfl rfl (zc rfl) (za rfl rfl (zI rfl) (za rfl rfl (zE rfl fa_35_0 rfl) (za rfl rfl (zL rfl (i := 0) rfl Tryz.isAgg24 rfl) (za rfl rfl (zal (n := 0) rfl ⟨_, _, rfl⟩ Tryz.runUnderlying24) (za rfl rfl (z1 rfl rfl rfl) (zg rfl (ze ?_)))))))))))))
  refine zl _ _ rfl rfl rfl rfl (fun hc1 => ?_) (fun hc1 => ?_)
  · replace hc1 := of_decide_eq_true hc1
    exfalso; omega
  · replace hc1 := of_decide_eq_false hc1
    refine zO rfl (zD (zz (zw ?_)))
    exact zbC Tryz.results32 .nil rfl HSub.rfl' ⟨rfl, rfl⟩

set_option maxHeartbeats 4000000 in
set_option maxRecDepth 100000 in
theorem growTexts_0 (gb : Nat) (c1 c2 c3 c4 c5 c6 c7 c8 c9 c10 c11 c12 c13 c14 c15 c16 c17 c18 c19 : D)  :
    CD Tryz.prog 40 [.bx gb 35 (.agg [dZ, c1, c2, c3, c4, c5, c6, c7, c8, c9, c10, c11, c12, c13, c14, c15, c16, c17, c18, c19])] [dP gb 0] (fun r H' => r = dZ ∧ H' = [.bx gb 35 (.agg [dZ, c1, c2, c3, c4, c5, c6, c7, c8, c9, c10, c11, c12, c13, c14, c15, c16, c17, c18, c19])]) := by
  refine zH Tryz.func40 rfl (N := 43) rfl rfl (fun C => ?_)
  refine JD.keep [0] [(0, dP gb 0)] rfl (zf _ _ rfl rfl rfl (zb rfl (za rfl rfl (zd rfl) (zg rfl (ze (zf _ _ rfl rfl rfl (zb rfl (za rfl rfl (zd rfl) (zg rfl (ze (zf _ _ rfl rfl rfl (zf _ _ rfl rfl rfl (zb rfl (za rfl rfl (zd rfl) (zg rfl (ze (zB _ rfl rfl (zS (fun (g : Unit) => [(0, dP gb 0), (2, dZ), (4, dI 0), (3, dZ)]) (fun (g : Unit) => [.bx gb 35 (.agg [dZ, c1, c2, c3, c4, c5, c6, c7, c8, c9, c10, c11, c12, c13, c14, c15, c16, c17, c18, c19])]) (fun (g : Unit) => True) (fun (g : Unit) => 0) _ () rfl rfl ⟨sk rfl, sk rfl, sk rfl, sk rfl, trivial⟩ HSub.rfl' trivial ?_))))))))))))))))))
  rintro _ _
  refine JD.keep [0, 2, 4, 3] [(0, dP gb 0), (2, dZ), (4, dI 0), (3, dZ)] rfl (JD.norm [.bx gb 35 (.agg [dZ, c1, c2, c3, c4, c5, c6, c7, c8, c9, c10, c11, c12, c13, c14, c15, c16, c17, c18, c19])] rfl (zf _ _ rfl rfl rfl (zf _ _ rfl rfl rfl (zb rfl (za rfl rfl (zc rfl) (za rfl rfl (zc rfl) (za rfl rfl (zI rfl) (za rfl rfl (zE rfl fa_35_0 rfl) (za rfl rfl (zL rfl (i := 0) rfl Tryz.isAgg24 rfl) (za rfl rfl (zal (n := 0) rfl ⟨_, _, rfl⟩ Tryz.runUnderlying24) (za rfl rfl (z1 rfl rfl rfl) (zg rfl (ze ?_)))))))))))))
  refine zl _ _ rfl rfl rfl rfl (fun hc1 => ?_) (fun hc1 => ?_)
  · replace hc1 := of_decide_eq_true hc1
    exfalso; omega
  · replace hc1 := of_decide_eq_false hc1
    refine zO rfl (zD (zz (zw (ze (JD.keep [2, 3] [(2, dZ), (3, dZ)] rfl (zf _ _ rfl rfl rfl (zb rfl (za rfl rfl (zc rfl) (za rfl rfl (zd rfl) (zg rfl (ze (zu rfl ?_))))))))))))
    exact zk Tryz.results40 (.cons (zo rfl) .nil) rfl HSub.rfl' ⟨rfl, rfl⟩

set_option maxHeartbeats 4000000 in
set_option maxRecDepth 100000 in
theorem markedTexts_0   :
    CD Tryz.prog 50 [] [dZ] (isR (dB true)) := by
  refine zH Tryz.func50 rfl (N := 23) rfl rfl (fun C => ?_)
  refine JD.keep [0] [(0, dZ)] rfl (zf _ _ rfl rfl rfl (zb rfl (za rfl rfl (zd rfl) (zg rfl (ze (zf _ _ rfl rfl rfl (zf _ _ rfl rfl rfl (zb rfl (za rfl rfl (zd rfl) (zg rfl (ze (zB _ rfl rfl (zS (fun (g : Unit) => [(0, dZ), (3, dI 0)]) (fun (g : Unit) => []) (fun (g : Unit) => True) (fun (g : Unit) => 0) _ () rfl rfl ⟨sk rfl, sk rfl, trivial⟩ HSub.rfl' trivial ?_)))))))))))))
  rintro _ _
  refine JD.keep [0, 3] [(0, dZ), (3, dI 0)] rfl (JD.norm [] rfl (zf _ _ rfl rfl rfl (zf _ _ rfl rfl rfl (zb rfl (za rfl rfl (zc rfl) (za rfl rfl (zc rfl) (za rfl rfl (zal (n := 0) rfl ⟨_, _, rfl⟩ Tryz.runUnderlying24) (za rfl rfl (z1 rfl rfl rfl) (zg rfl (ze ?_))))))))))
  refine zl _ _ rfl rfl rfl rfl (fun hc1 => ?_) (fun hc1 => ?_)
  · replace hc1 := of_decide_eq_true hc1
    exfalso; omega
  · replace hc1 := of_decide_eq_false hc1
    refine zO rfl (zD (zz (zw (ze (zf _ _ rfl rfl rfl (zb rfl (za rfl rfl (zd rfl) (zg rfl (ze (zu rfl ?_))))))))))
    exact zk Tryz.results50 (.cons (zo rfl) .nil) rfl HSub.rfl' ⟨rfl, rfl⟩

set_option maxHeartbeats 4000000 in
set_option maxRecDepth 100000 in
theorem stillInts_0 (gb : Nat) (c0 c1 c3 c4 c5 c6 c7 c8 c9 c10 c11 c12 c13 c14 c15 c16 c17 c18 c19 : D)  :
    CD Tryz.prog 21 [.bx gb 35 (.agg [c0, c1, dZ, c3, c4, c5, c6, c7, c8, c9, c10, c11, c12, c13, c14, c15, c16, c17, c18, c19])] [dP gb 0] (fun r H' => r = dB true ∧ H' = [.bx gb 35 (.agg [c0, c1, dZ, c3, c4, c5, c6, c7, c8, c9, c10, c11, c12, c13, c14, c15, c16, c17, c18, c19])]) := by
  refine zH Tryz.func21 rfl (N := 29) rfl rfl (fun C => ?_)
  refine JD.keep [0] [(0, dP gb 0)] rfl (zf _ _ rfl rfl rfl (zb rfl (za rfl rfl (zd rfl) (zg rfl (ze (zf _ _ rfl rfl rfl (zf _ _ rfl rfl rfl (zb rfl (za rfl rfl (zd rfl) (zg rfl (ze (zB _ rfl rfl (zS (fun (g : Unit) => [(0, dP gb 0), (3, dI 0)]) (fun (g : Unit) => [.bx gb 35 (.agg [c0, c1, dZ, c3, c4, c5, c6, c7, c8, c9, c10, c11, c12, c13, c14, c15, c16, c17, c18, c19])]) (fun (g : Unit) => True) (fun (g : Unit) => 0) _ () rfl rfl ⟨sk rfl, sk rfl, trivial⟩ HSub.rfl' trivial ?_)))))))))))))
  rintro _ _
  refine JD.keep [0, 3] [(0, dP gb 0), (3, dI 0)] rfl (JD.norm [.bx gb 35 (.agg [c0, c1, dZ, c3, c4, c5, c6, c7, c8, c9, c10, c11, c12, c13, c14, c15, c16, c17, c18, c19])] rfl (zf _ _ rfl rfl rfl (zf _ _ rfl rfl rfl (zb rfl (za rfl rfl (zc rfl) (za rfl rfl (zc rfl) (za rfl rfl (zI rfl) (za rfl rfl (zE rfl zc3 rfl) (za rfl rfl (zL rfl (i := 0) rfl Tryz.isAgg25 rfl) (za rfl rfl (zal (n := 0) rfl ⟨_, _, rfl⟩ Tryz.runUnderlying25) (za rfl rfl (z1 rfl rfl rfl) (zg rfl (ze ?_)))))))))))))
  refine zl _ _ rfl rfl rfl rfl (fun hc1 => ?_) (fun hc1 => ?_)
  · replace hc1 := of_decide_eq_true hc1
    exfalso; omega
  · replace hc1 := of_decide_eq_false hc1
    refine zO rfl (zD (zz (zw (ze (JD.keep [] [] rfl (zf _ _ rfl rfl rfl (zb rfl (za rfl rfl (zd rfl) (zg rfl (ze (zu rfl ?_)))))))))))
    exact zk Tryz.results21 (.cons (zo rfl) .nil) rfl HSub.rfl' ⟨rfl, rfl⟩

set_option maxHeartbeats 4000000 in
set_option maxRecDepth 100000 in
theorem putInts_0 (gb : Nat) (c0 c1 c3 c4 c5 c6 c7 c8 c9 c10 c11 c12 c13 c14 c15 c16 c17 c18 c19 : D)  :
    CD Tryz.prog 33 [.bx gb 35 (.agg [c0, c1, dZ, c3, c4, c5, c6, c7, c8, c9, c10, c11, c12, c13, c14, c15, c16, c17, c18, c19])] [dP gb 0] (fun r H' => r = .tup [] ∧ H' = [.bx gb 35 (.agg [c0, c1, dZ, c3, c4, c5, c6, c7, c8, c9, c10, c11, c12, c13, c14, c15, c16, c17, c18, c19])]) := by
  refine zH Tryz.func33 rfl (N := 43) rfl rfl (fun C => ?_)
  refine JD.keep [0] [(0, dP gb 0)] rfl (zf _ _ rfl rfl rfl (zb rfl (za rfl rfl (zd rfl) (zg rfl (ze (zB _ rfl rfl (zS (fun (g : Unit) => [(0, dP gb 0), (2, dI 0)]) (fun (g : Unit) => [.bx gb 35 (.agg [c0, c1, dZ, c3, c4, c5, c6, c7, c8, c9, c10, c11, c12, c13, c14, c15, c16, c17, c18, c19])]) (fun (g : Unit) => True) (fun (g : Unit) => 0) _ () rfl rfl ⟨sk rfl, sk rfl, trivial⟩ HSub.rfl' trivial ?_)))))))
  rintro _ _
  refine JD.keep [0, 2] [(0, dP gb 0), (2, dI 0)] rfl (JD.norm [.bx gb 35 (.agg [c0, c1, dZ, c3, c4, c5, c6, c7, c8, c9, c10, c11, c12, c13, c14, c15, c16, c17, c18, c19])] rfl (zf _ _ rfl rfl rfl (zf _ _ rfl rfl rfl (zb rfl (za rfl rfl (zc rfl) (za rfl rfl (zc rfl) (za rfl rfl (zI rfl) (za rfl rfl (zE rfl zc3 rfl) (za rfl rfl (zL rfl (i := 0) rfl Tryz.isAgg25 rfl) (za rfl rfl (zal (n := 0) rfl ⟨_, _, rfl⟩ Tryz.runUnderlying25) (za rfl rfl (z1 rfl rfl rfl) (zg rfl (ze ?_)))))))))))))
  refine zl _ _ rfl rfl rfl rfl (fun hc1 => ?_) (fun hc1 => ?_)
  · replace hc1 := of_decide_eq_true hc1
    exfalso; omega
  · replace hc1 := of_decide_eq_false hc1
    refine zO rfl (zD (zz (zw ?_)))
    exact zbC Tryz.results33 .nil rfl HSub.rfl' ⟨rfl, rfl⟩

set_option maxHeartbeats 4000000 in
set_option maxRecDepth 100000 in
theorem growInts_0 (gb : Nat) (c0 c1 c3 c4 c5 c6 c7 c8 c9 c10 c11 c12 c13 c14 c15 c16 c17 c18 c19 : D)  :
    CD Tryz.prog 41 [.bx gb 35 (.agg [c0, c1, dZ, c3, c4, c5, c6, c7, c8, c9, c10, c11, c12, c13, c14, c15, c16, c17, c18, c19])] [dP gb 0] (fun r H' => r = dZ ∧ H' = [.bx gb 35 (.agg [c0, c1, dZ, c3, c4, c5, c6, c7, c8, c9, c10, c11, c12, c13, c14, c15, c16, c17, c18, c19])]) := by
  refine zH Tryz.func41 rfl (N := 43) rfl rfl (fun C => ?_)
  refine JD.keep [0] [(0, dP gb 0)] rfl (zf _ _ rfl rfl rfl (zb rfl (za rfl rfl (zd rfl) (zg rfl (ze (zf _ _ rfl rfl rfl (zb rfl (za rfl rfl (zd rfl) (zg rfl (ze (zf _ _ rfl rfl rfl (zf _ _ rfl rfl rfl (zb rfl (za rfl rfl (zd rfl) (zg rfl (ze (zB _ rfl rfl (zS (fun (g : Unit) => [(0, dP gb 0), (2, dZ), (4, dI 0), (3, dZ)]) (fun (g : Unit) => [.bx gb 35 (.agg [c0, c1, dZ, c3, c4, c5, c6, c7, c8, c9, c10, c11, c12, c13, c14, c15, c16, c17, c18, c19])]) (fun (g : Unit) => True) (fun (g : Unit) => 0) _ () rfl rfl ⟨sk rfl, sk rfl, sk rfl, sk rfl, trivial⟩ HSub.rfl' trivial ?_))))))))))))))))))
  rintro _ _
  refine JD.keep [0, 2, 4, 3] [(0, dP gb 0), (2, dZ), (4, dI 0), (3, dZ)] rfl (JD.norm [.bx gb 35 (.agg [c0, c1, dZ, c3, c4, c5, c6, c7, c8, c9, c10, c11, c12, c13, c14, c15, c16, c17, c18, c19])] rfl (zf _ _ rfl rfl rfl (zf _ _ rfl rfl rfl (zb rfl (za rfl rfl (zc rfl) (za rfl rfl (zc rfl) (za rfl rfl (zI rfl) (za rfl rfl (zE rfl zc3 rfl) (za rfl rfl (zL rfl (i := 0) rfl Tryz.isAgg25 rfl) (za rfl rfl (zal (n := 0) rfl ⟨_, _, rfl⟩ Tryz.runUnderlying25) (za rfl rfl (z1 rfl rfl rfl) (zg rfl (ze ?_)))))))))))))
  refine zl _ _ rfl rfl rfl rfl (fun hc1 => ?_) (fun hc1 => ?_)
  · replace hc1 := of_decide_eq_true hc1
    exfalso; omega
  · replace hc1 := of_decide_eq_false hc1
    refine zO rfl (zD (zz (zw (ze (JD.keep [2, 3] [(2, dZ), (3, dZ)] rfl (zf _ _ rfl rfl rfl (zb rfl (za rfl rfl (zc rfl) (za rfl rfl (zd rfl) (zg rfl (ze (zu rfl ?_))))))))))))
    exact zk Tryz.results41 (.cons (zo rfl) .nil) rfl HSub.rfl' ⟨rfl, rfl⟩

set_option maxHeartbeats 4000000 in
set_option maxRecDepth 100000 in
theorem markedInts_0   :
    CD Tryz.prog 51 [] [dZ] (isR (dB true)) := by
  refine zH Tryz.func51 rfl (N := 23) rfl rfl (fun C => ?_)
  refine JD.keep [0] [(0, dZ)] rfl (zf _ _ rfl rfl rfl (zb rfl (za rfl rfl (zd rfl) (zg rfl (ze (zf _ _ rfl rfl rfl (zf _ _ rfl rfl rfl (zb rfl (za rfl rfl (zd rfl) (zg rfl (ze (zB _ rfl rfl (zS (fun (g : Unit) => [(0, dZ), (3, dI 0)]) (fun (g : Unit) => []) (fun (g : Unit) => True) (fun (g : Unit) => 0) _ () rfl rfl ⟨sk rfl, sk rfl, trivial⟩ HSub.rfl' trivial ?_)))))))))))))
  rintro _ _
  refine JD.keep [0, 3] [(0, dZ), (3, dI 0)] rfl (JD.norm [] rfl (zf _ _ rfl rfl rfl (zf _ _ rfl rfl rfl (zb rfl (za rfl rfl (zc rfl) (za rfl rfl (zc rfl) (za rfl rfl (zal (n := 0) rfl ⟨_, _, rfl⟩ Tryz.runUnderlying25) (za rfl rfl (z1 rfl rfl rfl) (zg rfl (ze ?_))))))))))
  refine zl _ _ rfl rfl rfl rfl (fun hc1 => ?_) (fun hc1 => ?_)
  · replace hc1 := of_decide_eq_true hc1
    exfalso; omega
  · replace hc1 := of_decide_eq_false hc1
    refine zO rfl (zD (zz (zw (ze (zf _ _ rfl rfl rfl (zb rfl (za rfl rfl (zd rfl) (zg rfl (ze (zu rfl ?_))))))))))
    exact zk Tryz.results51 (.cons (zo rfl) .nil) rfl HSub.rfl' ⟨rfl, rfl⟩

set_option maxHeartbeats 4000000 in
set_option maxRecDepth 100000 in
theorem stillRunes_0 (gb : Nat) (c0 c1 c2 c3 c5 c6 c7 c8 c9 c10 c11 c12 c13 c14 c15 c16 c17 c18 c19 : D)  :
    CD Tryz.prog 22 [.bx gb 35 (.agg [c0, c1, c2, c3, dZ, c5, c6, c7, c8, c9, c10, c11, c12, c13, c14, c15, c16, c17, c18, c19])] [dP gb 0] (fun r H' => r = dB true ∧ H' = [.bx gb 35 (.agg [c0, c1, c2, c3, dZ, c5, c6, c7, c8, c9, c10, c11, c12, c13, c14, c15, c16, c17, c18, c19])]) := by
  refine zH Tryz.func22 rfl (N := 29) rfl rfl (fun C => ?_)
  refine JD.keep [0] [(0, dP gb 0)] rfl (zf _ _ rfl rfl rfl (zb rfl (za rfl rfl (zd rfl) (zg rfl (ze (zf _ _ rfl rfl rfl (zf _ _ rfl rfl rfl (zb rfl (za rfl rfl (zd rfl) (zg rfl (ze (zB _ rfl rfl (zS (fun (g : Unit) => [(0, dP gb 0), (3, dI 0)]) (fun (g : Unit) => [.bx gb 35 (.agg [c0, c1, c2, c3, dZ, c5, c6, c7, c8, c9, c10, c11, c12, c13, c14, c15, c16, c17, c18, c19])]) (fun (g : Unit) => True) (fun (g : Unit) => 0) _ () rfl rfl ⟨sk rfl, sk rfl, trivial⟩ HSub.rfl' trivial ?_)))))))))))))
  rintro _ _
  refine JD.keep [0, 3] [(0, dP gb 0), (3, dI 0)] rfl (JD.norm [.bx gb 35 (.agg [c0, c1, c2, c3, dZ, c5, c6, c7, c8, c9, c10, c11, c12, c13, c14, c15, c16, c17, c18, c19])] rfl (zf _ _ rfl rfl rfl (zf _ _ rfl rfl rfl (zb rfl (za rfl rfl (zc rfl) (za rfl rfl (zc rfl) (za rfl rfl (zI rfl) (za rfl rfl (zE rfl fa_35_4 rfl) (za rfl rfl (zL rfl (i := 0) rfl Tryz.isAgg26 rfl) (za rfl rfl (zal (n := 0) rfl ⟨_, _, rfl⟩ Tryz.runUnderlying26) (za rfl rfl (z1 rfl rfl rfl) (zg rfl (ze ?_)))))))))))))
  refine zl _ _ rfl rfl rfl rfl (fun hc1 => ?_) (fun hc1 => ?_)
  · replace hc1 := of_decide_eq_true hc1
    exfalso; omega
  · replace hc1 := of_decide_eq_false hc1
    refine zO rfl (zD (zz (zw (ze (JD.keep [] [] rfl (zf _ _ rfl rfl rfl (zb rfl (za rfl rfl (zd rfl) (zg rfl (ze (zu rfl ?_)))))))))))
    exact zk Tryz.results22 (.cons (zo rfl) .nil) rfl HSub.rfl' ⟨rfl, rfl⟩

set_option maxHeartbeats 4000000 in
set_option maxRecDepth 100000 in
theorem putRunes_0 (gb : Nat) (c0 c1 c2 c3 c5 c6 c7 c8 c9 c10 c11 c12 c13 c14 c15 c16 c17 c18 c19 : D)  :
    CD Tryz.prog 34 [.bx gb 35 (.agg [c0, c1, c2, c3, dZ, c5, c6, c7, c8, c9, c10, c11, c12, c13, c14, c15, c16, c17, c18, c19])] [dP gb 0] (fun r H' => r = .tup [] ∧ H' = [.bx gb 35 (.agg [c0, c1, c2, c3, dZ, c5, c6, c7, c8, c9, c10, c11, c12, c13, c14, c15, c16, c17, c18, c19])]) := by
  refine zH Tryz.func34 rfl (N := 43) rfl rfl (fun C => ?_)
  refine JD.keep [0] [(0, dP gb 0)] rfl (zf _ _ rfl rfl rfl (zb rfl (za rfl rfl (zd rfl) (zg rfl (ze (zB _ rfl rfl (zS (fun (g : Unit) => [(0, dP gb 0), (2, dI 0)]) (fun (g : Unit) => [.bx gb 35 (.agg [c0, c1, c2, c3, dZ, c5, c6, c7, c8, c9, c10, c11, c12, c13, c14, c15, c16, c17, c18, c19])]) (fun (g : Unit) => True) (fun (g : Unit) => 0) _ () rfl rfl ⟨sk rfl, sk rfl, trivial⟩ HSub.rfl' trivial ?_)))))))
  rintro _ _
  refine JD.keep [0, 2] [(0, dP gb 0), (2, dI 0)] rfl (JD.norm [.bx gb 35 (.agg [c0, c1, c2, c3, dZ, c5, c6, c7, c8, c9, c10, c11, c12, c13, c14, c15, c16, c17, c18, c19])] rfl (zf _ _ rfl rfl rfl (zf _ _ rfl rfl rfl (zb rfl (za rfl rfl (zc rfl) (za rfl rfl (zc rfl) (za rfl rfl (zI rfl) (za rfl rfl (zE rfl fa_35_4 rfl) (za rfl rfl (zL rfl (i := 0) rfl Tryz.isAgg26 rfl) (za rfl rfl (zal (n := 0) rfl ⟨_, _, rfl⟩ Tryz.runUnderlying26) (za rfl rfl (z1 rfl rfl rfl) (zg rfl (ze ?_)))))))))))))
  refine zl _ _ rfl rfl rfl rfl (fun hc1 => ?_) (fun hc1 => ?_)
  · replace hc1 := of_decide_eq_true hc1
    exfalso; omega
  · replace hc1 := of_decide_eq_false hc1
    refine zO rfl (zD (zz (zw ?_)))
    exact zbC Tryz.results34 .nil rfl HSub.rfl' ⟨rfl, rfl⟩

set_option maxHeartbeats 4000000 in
set_option maxRecDepth 100000 in
theorem growRunes_0 (gb : Nat) (c0 c1 c2 c3 c5 c6 c7 c8 c9 c10 c11 c12 c13 c14 c15 c16 c17 c18 c19 : D)  :
    CD Tryz.prog 42 [.bx gb 35 (.agg [c0, c1, c2, c3, dZ, c5, c6, c7, c8, c9, c10, c11, c12, c13, c14, c15, c16, c17, c18, c19])] [dP gb 0] (fun r H' => r = dZ ∧ H' = [.bx gb 35 (.agg [c0, c1, c2, c3, dZ, c5, c6, c7, c8, c9, c10, c11, c12, c13, c14, c15, c16, c17, c18, c19])]) := by
  refine zH Tryz.func42 rfl (N := 43) rfl rfl (fun C => ?_)
  refine JD.keep [0] [(0, dP gb 0)] rfl (zf _ _ rfl rfl rfl (zb rfl (za rfl rfl (zd rfl) (zg rfl (ze (zf _ _ rfl rfl rfl (zb rfl (za rfl rfl (zd rfl) (zg rfl (ze (zf _ _ rfl rfl rfl (zf _ _ rfl rfl rfl (zb rfl (za rfl rfl (zd rfl) (zg rfl (ze (zB _ rfl rfl (zS (fun (g : Unit) => [(0, dP gb 0), (2, dZ), (4, dI 0), (3, dZ)]) (fun (g : Unit) => [.bx gb 35 (.agg [c0, c1, c2, c3, dZ, c5, c6, c7, c8, c9, c10, c11, c12, c13, c14, c15, c16, c17, c18, c19])]) (fun (g : Unit) => True) (fun (g : Unit) => 0) _ () rfl rfl ⟨sk rfl, sk rfl, sk rfl, sk rfl, trivial⟩ HSub.rfl' trivial ?_))))))))))))))))))
  rintro _ _
  refine JD.keep [0, 2, 4, 3] [(0, dP gb 0), (2, dZ), (4, dI 0), (3, dZ)] rfl (JD.norm [.bx gb 35 (.agg [c0, c1, c2, c3, dZ, c5, c6, c7, c8, c9, c10, c11, c12, c13, c14, c15, c16, c17, c18, c19])] rfl (zf _ _ rfl rfl rfl (zf _ _ rfl rfl rfl (zb rfl (za rfl rfl (zc rfl) (za rfl rfl (zc rfl) (za rfl rfl (zI rfl) (za rfl rfl (zE rfl fa_35_4 rfl) (za rfl rfl (zL rfl (i := 0) rfl Tryz.isAgg26 rfl) (za rfl rfl (zal (n := 0) rfl ⟨_, _, rfl⟩ Tryz.runUnderlying26) (za rfl rfl (z1 rfl rfl rfl) (zg rfl (ze ?_)))))))))))))
  refine zl _ _ rfl rfl rfl rfl (fun hc1 => ?_) (fun hc1 => ?_)
  · replace hc1 := of_decide_eq_true hc1
    exfalso; omega
  · replace hc1 := of_decide_eq_false hc1
    refine zO rfl (zD (zz (zw (ze (JD.keep [2, 3] [(2, dZ), (3, dZ)] rfl (zf _ _ rfl rfl rfl (zb rfl (za rfl rfl (zc rfl) (za rfl rfl (zd rfl) (zg rfl (ze (zu rfl ?_))))))))))))
    exact zk Tryz.results42 (.cons (zo rfl) .nil) rfl HSub.rfl' ⟨rfl, rfl⟩

set_option maxHeartbeats 4000000 in
set_option maxRecDepth 100000 in
theorem markedRunes_0   :
    CD Tryz.prog 52 [] [dZ] (isR (dB true)) := by
  refine zH Tryz.func52 rfl (N := 23) rfl rfl (fun C => ?_)
  refine JD.keep [0] [(0, dZ)] rfl (zf _ _ rfl rfl rfl (zb rfl (za rfl rfl (zd rfl) (zg rfl (ze (zf _ _ rfl rfl rfl (zf _ _ rfl rfl rfl (zb rfl (za rfl rfl (zd rfl) (zg rfl (ze (zB _ rfl rfl (zS (fun (g : Unit) => [(0, dZ), (3, dI 0)]) (fun (g : Unit) => []) (fun (g : Unit) => True) (fun (g : Unit) => 0) _ () rfl rfl ⟨sk rfl, sk rfl, trivial⟩ HSub.rfl' trivial ?_)))))))))))))
  rintro _ _
  refine JD.keep [0, 3] [(0, dZ), (3, dI 0)] rfl (JD.norm [] rfl (zf _ _ rfl rfl rfl (zf _ _ rfl rfl rfl (zb rfl (za rfl rfl (zc rfl) (za rfl rfl (zc rfl) (za rfl rfl (zal (n := 0) rfl ⟨_, _, rfl⟩ Tryz.runUnderlying26) (za rfl rfl (z1 rfl rfl rfl) (zg rfl (ze ?_))))))))))
  refine zl _ _ rfl rfl rfl rfl (fun hc1 => ?_) (fun hc1 => ?_)
  · replace hc1 := of_decide_eq_true hc1
    exfalso; omega
  · replace hc1 := of_decide_eq_false hc1
    refine zO rfl (zD (zz (zw (ze (zf _ _ rfl rfl rfl (zb rfl (za rfl rfl (zd rfl) (zg rfl (ze (zu rfl ?_))))))))))
    exact zk Tryz.results52 (.cons (zo rfl) .nil) rfl HSub.rfl' ⟨rfl, rfl⟩

set_option maxHeartbeats 4000000 in
set_option maxRecDepth 100000 in
theorem stillLabels_0 (gb : Nat) (c0 c1 c2 c3 c4 c5 c7 c8 c9 c10 c11 c12 c13 c14 c15 c16 c17 c18 c19 : D)  :
    CD Tryz.prog 23 [.bx gb 35 (.agg [c0, c1, c2, c3, c4, c5, dZ, c7, c8, c9, c10, c11, c12, c13, c14, c15, c16, c17, c18, c19])] [dP gb 0] (fun r H' => r = dB true ∧ H' = [.bx gb 35 (.agg [c0, c1, c2, c3, c4, c5, dZ, c7, c8, c9, c10, c11, c12, c13, c14, c15, c16, c17, c18, c19])]) := by
  refine zH Tryz.func23 rfl (N := 29) rfl rfl (fun C => ?_)
  refine JD.keep [0] [(0, dP gb 0)] rfl (zf _ _ rfl rfl rfl (zb rfl (za rfl rfl (zd rfl) (zg rfl (ze (zf _ _ rfl rfl rfl (zf _ _ rfl rfl rfl (zb rfl (za rfl rfl (zd rfl) (zg rfl (ze (zB _ rfl rfl (zS (fun (g : Unit) => [(0, dP gb 0), (3, dI 0)]) (fun (g : Unit) => [.bx gb 35 (.agg [c0, c1, c2, c3, c4, c5, dZ, c7, c8, c9, c10, c11, c12, c13, c14, c15, c16, c17, c18, c19])]) (fun (g : Unit) => True) (fun (g : Unit) => 0) _ () rfl rfl ⟨sk rfl, sk rfl, trivial⟩ HSub.rfl' trivial ?_)))))))))))))
  rintro _ _
  refine JD.keep [0, 3] [(0, dP gb 0), (3, dI 0)] rfl (JD.norm [.bx gb 35 (.agg [c0, c1, c2, c3, c4, c5, dZ, c7, c8, c9, c10, c11, c12, c13, c14, c15, c16, c17, c18, c19])] rfl (zf _ _ rfl rfl rfl (zf _ _ rfl rfl rfl (zb rfl (za rfl rfl (zc rfl) (za rfl rfl (zc rfl) (za rfl rfl (zI rfl) (za rfl rfl (zE rfl fa_35_6 rfl) (za rfl rfl (zL rfl (i := 0) rfl Tryz.isAgg27 rfl) (za rfl rfl (zal (n := 0) rfl ⟨_, _, rfl⟩ Tryz.runUnderlying27) (za rfl rfl (z1 rfl rfl rfl) (zg rfl (ze ?_)))))))))))))
  refine zl _ _ rfl rfl rfl rfl (fun hc1 => ?_) (fun hc1 => ?_)
  · replace hc1 := of_decide_eq_true hc1
    exfalso; omega
  · replace hc1 := of_decide_eq_false hc1
    refine zO rfl (zD (zz (zw (ze (JD.keep [] [] rfl (zf _ _ rfl rfl rfl (zb rfl (za rfl rfl (zd rfl) (zg rfl (ze (zu rfl ?_)))))))))))
    exact zk Tryz.results23 (.cons (zo rfl) .nil) rfl HSub.rfl' ⟨rfl, rfl⟩

set_option maxHeartbeats 4000000 in
set_option maxRecDepth 100000 in
theorem putLabels_0 (gb : Nat) (c0 c1 c2 c3 c4 c5 c7 c8 c9 c10 c11 c12 c13 c14 c15 c16 c17 c18 c19 : D)  :
    CD Tryz.prog 35 [.bx gb 35 (.agg [c0, c1, c2, c3, c4, c5, dZ, c7, c8, c9, c10, c11, c12, c13, c14, c15, c16, c17, c18, c19])] [dP gb 0] (fun r H' => r = .tup [] ∧ H' = [.bx gb 35 (.agg [c0, c1, c2, c3, c4, c5, dZ, c7, c8, c9, c10, c11, c12, c13, c14, c15, c16, c17, c18, c19])]) := by
  refine zH Tryz.func35 rfl (N := 43) rfl rfl (fun C => ?_)
  refine JD.keep [0] [(0, dP gb 0)] rfl (zf _ _ rfl rfl rfl (zb rfl (za rfl rfl (zd rfl) (zg rfl (ze (zB _ rfl rfl (zS (fun (g : Unit) => [(0, dP gb 0), (2, dI 0)]) (fun (g : Unit) => [.bx gb 35 (.agg [c0, c1, c2, c3, c4, c5, dZ, c7, c8, c9, c10, c11, c12, c13, c14, c15, c16, c17, c18, c19])]) (fun (g : Unit) => True) (fun (g : Unit) => 0) _ () rfl rfl ⟨sk rfl, sk rfl, trivial⟩ HSub.rfl' trivial ?_)))))))
  rintro _ _
  refine JD.keep [0, 2] [(0, dP gb 0), (2, dI 0)] rfl (JD.norm [.bx gb 35 (.agg [c0, c1, c2, c3, c4, c5, dZ, c7, c8, c9, c10, c11, c12, c13, c14, c15, c16, c17, c18, c19])] rfl (zf _ _ rfl rfl rfl (zf _ _ rfl rfl rfl (zb rfl (za rfl rfl (zc rfl) (za rfl rfl (zc rfl) (za rfl rfl (zI rfl) (za rfl rfl (zE rfl fa_35_6 rfl) (za rfl rfl (zL rfl (i := 0) rfl Tryz.isAgg27 rfl) (za rfl rfl (zal (n := 0) rfl ⟨_, _, rfl⟩ Tryz.runUnderlying27) (za rfl rfl (z1 rfl rfl rfl) (zg rfl (ze ?_)))))))))))))
  refine zl _ _ rfl rfl rfl rfl (fun hc1 => ?_) (fun hc1 => ?_)
  · replace hc1 := of_decide_eq_true hc1
    exfalso; omega
  · replace hc1 := of_decide_eq_false hc1
    refine zO rfl (zD (zz (zw ?_)))
    exact zbC Tryz.results35 .nil rfl HSub.rfl' ⟨rfl, rfl⟩

set_option maxHeartbeats 4000000 in
set_option maxRecDepth 100000 in
theorem growLabels_0 (gb : Nat) (c0 c1 c2 c3 c4 c5 c7 c8 c9 c10 c11 c12 c13 c14 c15 c16 c17 c18 c19 : D)  :
    CD Tryz.prog 43 [.bx gb 35 (.agg [c0, c1, c2, c3, c4, c5, dZ, c7, c8, c9, c10, c11, c12, c13, c14, c15, c16, c17, c18, c19])] [dP gb 0] (fun r H' => r = dZ ∧ H' = [.bx gb 35 (.agg [c0, c1, c2, c3, c4, c5, dZ, c7, c8, c9, c10, c11, c12, c13, c14, c15, c16, c17, c18, c19])]) := by
  refine zH Tryz.func43 rfl (N := 43) rfl rfl (fun C => ?_)
  refine JD.keep [0] [(0, dP gb 0)] rfl (zf _ _ rfl rfl rfl (zb rfl (za rfl rfl (zd rfl) (zg rfl (ze (zf _ _ rfl rfl rfl (zb rfl (za rfl rfl (zd rfl) (zg rfl (ze (zf _ _ rfl rfl rfl (zf _ _ rfl rfl rfl (zb rfl (za rfl rfl (zd rfl) (zg rfl (ze (zB _ rfl rfl (zS (fun (g : Unit) => [(0, dP gb 0), (2, dZ), (4, dI 0), (3, dZ)]) (fun (g : Unit) => [.bx gb 35 (.agg [c0, c1, c2, c3, c4, c5, dZ, c7, c8, c9, c10, c11, c12, c13, c14, c15, c16, c17, c18, c19])]) (fun (g : Unit) => True) (fun (g : Unit) => 0) _ () rfl rfl ⟨sk rfl, sk rfl, sk rfl, sk rfl, trivial⟩ HSub.rfl' trivial ?_))))))))))))))))))
  rintro _ _
  refine JD.keep [0, 2, 4, 3] [(0, dP gb 0), (2, dZ), (4, dI 0), (3, dZ)] rfl (JD.norm [.bx gb 35 (.agg [c0, c1, c2, c3, c4, c5, dZ, c7, c8, c9, c10, c11, c12, c13, c14, c15, c16, c17, c18, c19])] rfl (zf _ _ rfl rfl rfl (zf _ _ rfl rfl rfl (zb rfl (za rfl rfl (zc rfl) (za rfl rfl (zc rfl) (za rfl rfl (zI rfl) (za rfl rfl (zE rfl fa_35_6 rfl) (za rfl rfl (zL rfl (i := 0) rfl Tryz.isAgg27 rfl) (za rfl rfl (zal (n := 0) rfl ⟨_, _, rfl⟩ Tryz.runUnderlying27) (za rfl rfl (z1 rfl rfl rfl) (zg rfl (ze ?_)))))))))))))
  refine zl _ _ rfl rfl rfl rfl (fun hc1 => ?_) (fun hc1 => ?_)
  · replace hc1 := of_decide_eq_true hc1
    exfalso; omega
  · replace hc1 := of_decide_eq_false hc1
    refine zO rfl (zD (zz (zw (ze (JD.keep [2, 3] [(2, dZ), (3, dZ)] rfl (zf _ _ rfl rfl rfl (zb rfl (za rfl rfl (zc rfl) (za rfl rfl (zd rfl) (zg rfl (ze (zu rfl ?_))))))))))))
    exact zk Tryz.results43 (.cons (zo rfl) .nil) rfl HSub.rfl' ⟨rfl, rfl⟩

set_option maxHeartbeats 4000000 in
set_option maxRecDepth 100000 in
theorem markedLabels_0   :
    CD Tryz.prog 53 [] [dZ] (isR (dB true)) := by
  refine zH Tryz.func53 rfl (N := 23) rfl rfl (fun C => ?_)
  refine JD.keep [0] [(0, dZ)] rfl (zf _ _ rfl rfl rfl (zb rfl (za rfl rfl (zd rfl) (zg rfl (ze (zf _ _ rfl rfl rfl (zf _ _ rfl rfl rfl (zb rfl (za rfl rfl (zd rfl) (zg rfl (ze (zB _ rfl rfl (zS (fun (g : Unit) => [(0, dZ), (3, dI 0)]) (fun (g : Unit) => []) (fun (g : Unit) => True) (fun (g : Unit) => 0) _ () rfl rfl ⟨sk rfl, sk rfl, trivial⟩ HSub.rfl' trivial ?_)))))))))))))
  rintro _ _
  refine JD.keep [0, 3] [(0, dZ), (3, dI 0)] rfl (JD.norm [] rfl (zf _ _ rfl rfl rfl (zf _ _ rfl rfl rfl (zb rfl (za rfl rfl (zc rfl) (za rfl rfl (zc rfl) (za rfl rfl (zal (n := 0) rfl ⟨_, _, rfl⟩ Tryz.runUnderlying27) (za rfl rfl (z1 rfl rfl rfl) (zg rfl (ze ?_))))))))))
  refine zl _ _ rfl rfl rfl rfl (fun hc1 => ?_) (fun hc1 => ?_)
  · replace hc1 := of_decide_eq_true hc1
    exfalso; omega
  · replace hc1 := of_decide_eq_false hc1
    refine zO rfl (zD (zz (zw (ze (zf _ _ rfl rfl rfl (zb rfl (za rfl rfl (zd rfl) (zg rfl (ze (zu rfl ?_))))))))))
    exact zk Tryz.results53 (.cons (zo rfl) .nil) rfl HSub.rfl' ⟨rfl, rfl⟩

set_option maxHeartbeats 4000000 in
set_option maxRecDepth 100000 in
theorem stillPoints_0 (gb : Nat) (c0 c1 c2 c3 c4 c5 c6 c7 c9 c10 c11 c12 c13 c14 c15 c16 c17 c18 c19 : D)  :
    CD Tryz.prog 24 [.bx gb 35 (.agg [c0, c1, c2, c3, c4, c5, c6, c7, dZ, c9, c10, c11, c12, c13, c14, c15, c16, c17, c18, c19])] [dP gb 0] (fun r H' => r = dB true ∧ H' = [.bx gb 35 (.agg [c0, c1, c2, c3, c4, c5, c6, c7, dZ, c9, c10, c11, c12, c13, c14, c15, c16, c17, c18, c19])]) := by
  refine zH Tryz.func24 rfl (N := 29) rfl rfl (fun C => ?_)
  refine JD.keep [0] [(0, dP gb 0)] rfl (zf _ _ rfl rfl rfl (zb rfl (za rfl rfl (zd rfl) (zg rfl (ze (zf _ _ rfl rfl rfl (zf _ _ rfl rfl rfl (zb rfl (za rfl rfl (zd rfl) (zg rfl (ze (zB _ rfl rfl (zS (fun (g : Unit) => [(0, dP gb 0), (3, dI 0)]) (fun (g : Unit) => [.bx gb 35 (.agg [c0, c1, c2, c3, c4, c5, c6, c7, dZ, c9, c10, c11, c12, c13, c14, c15, c16, c17, c18, c19])]) (fun (g : Unit) => True) (fun (g : Unit) => 0) _ () rfl rfl ⟨sk rfl, sk rfl, trivial⟩ HSub.rfl' trivial ?_)))))))))))))
  rintro _ _
  refine JD.keep [0, 3] [(0, dP gb 0), (3, dI 0)] rfl (JD.norm [.bx gb 35 (.agg [c0, c1, c2, c3, c4, c5, c6, c7, dZ, c9, c10, c11, c12, c13, c14, c15, c16, c17, c18, c19])] rfl (zf _ _ rfl rfl rfl (zf _ _ rfl rfl rfl (zb rfl (za rfl rfl (zc rfl) (za rfl rfl (zc rfl) (za rfl rfl (zI rfl) (za rfl rfl (zE rfl fa_35_8 rfl) (za rfl rfl (zL rfl (i := 0) rfl Tryz.isAgg28 rfl) (za rfl rfl (zal (n := 0) rfl ⟨_, _, rfl⟩ Tryz.runUnderlying28) (za rfl rfl (z1 rfl rfl rfl) (zg rfl (ze ?_)))))))))))))
  refine zl _ _ rfl rfl rfl rfl (fun hc1 => ?_) (fun hc1 => ?_)
  · replace hc1 := of_decide_eq_true hc1
    exfalso; omega
  · replace hc1 := of_decide_eq_false hc1
    refine zO rfl (zD (zz (zw (ze (JD.keep [] [] rfl (zf _ _ rfl rfl rfl (zb rfl (za rfl rfl (zd rfl) (zg rfl (ze (zu rfl ?_)))))))))))
    exact zk Tryz.results24 (.cons (zo rfl) .nil) rfl HSub.rfl' ⟨rfl, rfl⟩

set_option maxHeartbeats 4000000 in
set_option maxRecDepth 100000 in
theorem putPoints_0 (gb : Nat) (c0 c1 c2 c3 c4 c5 c6 c7 c9 c10 c11 c12 c13 c14 c15 c16 c17 c18 c19 : D)  :
    CD Tryz.prog 36 [.bx gb 35 (.agg [c0, c1, c2, c3, c4, c5, c6, c7, dZ, c9, c10, c11, c12, c13, c14, c15, c16, c17, c18, c19])] [dP gb 0] (fun r H' => r = .tup [] ∧ H' = [.bx gb 35 (.agg [c0, c1, c2, c3, c4, c5, c6, c7, dZ, c9, c10, c11, c12, c13, c14, c15, c16, c17, c18, c19])]) := by
  refine zH Tryz.func36 rfl (N := 43) rfl rfl (fun C => ?_)
  refine JD.keep [0] [(0, dP gb 0)] rfl (zf _ _ rfl rfl rfl (zb rfl (za rfl rfl (zd rfl) (zg rfl (ze (zB _ rfl rfl (zS (fun (g : Unit) => [(0, dP gb 0), (2, dI 0)]) (fun (g : Unit) => [.bx gb 35 (.agg [c0, c1, c2, c3, c4, c5, c6, c7, dZ, c9, c10, c11, c12, c13, c14, c15, c16, c17, c18, c19])]) (fun (g : Unit) => True) (fun (g : Unit) => 0) _ () rfl rfl ⟨sk rfl, sk rfl, trivial⟩ HSub.rfl' trivial ?_)))))))
  rintro _ _
  refine JD.keep [0, 2] [(0, dP gb 0), (2, dI 0)] rfl (JD.norm [.bx gb 35 (.agg [c0, c1, c2, c3, c4, c5, c6, c7, dZ, c9, c10, c11, c12, c13, c14, c15, c16, c17, c18, c19])] rfl (zf _ _ rfl rfl rfl (zf _ _ rfl rfl rfl (zb rfl (za rfl rfl (zc rfl) (za rfl rfl (zc rfl) (za rfl rfl (zI rfl) (za rfl rfl (zE rfl fa_35_8 rfl) (za rfl rfl (zL rfl (i := 0) rfl Tryz.isAgg28 rfl) (za rfl rfl (zal (n := 0) rfl ⟨_, _, rfl⟩ Tryz.runUnderlying28) (za rfl rfl (z1 rfl rfl rfl) (zg rfl (ze ?_)))))))))))))
  refine zl _ _ rfl rfl rfl rfl (fun hc1 => ?_) (fun hc1 => ?_)
  · replace hc1 := of_decide_eq_true hc1
    exfalso; omega
  · replace hc1 := of_decide_eq_false hc1
    refine zO rfl (zD (zz (zw ?_)))
    exact zbC Tryz.results36 .nil rfl HSub.rfl' ⟨rfl, rfl⟩

set_option maxHeartbeats 4000000 in
set_option maxRecDepth 100000 in
theorem growPoints_0 (gb : Nat) (c0 c1 c2 c3 c4 c5 c6 c7 c9 c10 c11 c12 c13 c14 c15 c16 c17 c18 c19 : D)  :
    CD Tryz.prog 44 [.bx gb 35 (.agg [c0, c1, c2, c3, c4, c5, c6, c7, dZ, c9, c10, c11, c12, c13, c14, c15, c16, c17, c18, c19])] [dP gb 0] (fun r H' => r = dZ ∧ H' = [.bx gb 35 (.agg [c0, c1, c2, c3, c4, c5, c6, c7, dZ, c9, c10, c11, c12, c13, c14, c15, c16, c17, c18, c19])]) := by
  refine zH Tryz.func44 rfl (N := 43) rfl rfl (fun C => ?_)
  refine JD.keep [0] [(0, dP gb 0)] rfl (zf _ _ rfl rfl rfl (zb rfl (za rfl rfl (zd rfl) (zg rfl (ze (zf _ _ rfl rfl rfl (zb rfl (za rfl rfl (zd rfl) (zg rfl (ze (zf _ _ rfl rfl rfl (zf _ _ rfl rfl rfl (zb rfl (za rfl rfl (zd rfl) (zg rfl (ze (zB _ rfl rfl (zS (fun (g : Unit) => [(0, dP gb 0), (2, dZ), (4, dI 0), (3, dZ)]) (fun (g : Unit) => [.bx gb 35 (.agg [c0, c1, c2, c3, c4, c5, c6, c7, dZ, c9, c10, c11, c12, c13, c14, c15, c16, c17, c18, c19])]) (fun (g : Unit) => True) (fun (g : Unit) => 0) _ () rfl rfl ⟨sk rfl, sk rfl, sk rfl, sk rfl, trivial⟩ HSub.rfl' trivial ?_))))))))))))))))))
  rintro _ _
  refine JD.keep [0, 2, 4, 3] [(0, dP gb 0), (2, dZ), (4, dI 0), (3, dZ)] rfl (JD.norm [.bx gb 35 (.agg [c0, c1, c2, c3, c4, c5, c6, c7, dZ, c9, c10, c11, c12, c13, c14, c15, c16, c17, c18, c19])] rfl (zf _ _ rfl rfl rfl (zf _ _ rfl rfl rfl (zb rfl (za rfl rfl (zc rfl) (za rfl rfl (zc rfl) (za rfl rfl (zI rfl) (za rfl rfl (zE rfl fa_35_8 rfl) (za rfl rfl (zL rfl (i := 0) rfl Tryz.isAgg28 rfl) (za rfl rfl (zal (n := 0) rfl ⟨_, _, rfl⟩ Tryz.runUnderlying28) (za rfl rfl (z1 rfl rfl rfl) (zg rfl (ze ?_)))))))))))))
  refine zl _ _ rfl rfl rfl rfl (fun hc1 => ?_) (fun hc1 => ?_)
  · replace hc1 := of_decide_eq_true hc1
    exfalso; omega
  · replace hc1 := of_decide_eq_false hc1
    refine zO rfl (zD (zz (zw (ze (JD.keep [2, 3] [(2, dZ), (3, dZ)] rfl (zf _ _ rfl rfl rfl (zb rfl (za rfl rfl (zc rfl) (za rfl rfl (zd rfl) (zg rfl (ze (zu rfl ?_))))))))))))
    exact zk Tryz.results44 (.cons (zo rfl) .nil) rfl HSub.rfl' ⟨rfl, rfl⟩

set_option maxHeartbeats 4000000 in
set_option maxRecDepth 100000 in
theorem markedPoints_0   :
    CD Tryz.prog 54 [] [dZ] (isR (dB true)) := by
  refine zH Tryz.func54 rfl (N := 23) rfl rfl (fun C => ?_)
  refine JD.keep [0] [(0, dZ)] rfl (zf _ _ rfl rfl rfl (zb rfl (za rfl rfl (zd rfl) (zg rfl (ze (zf _ _ rfl rfl rfl (zf _ _ rfl rfl rfl (zb rfl (za rfl rfl (zd rfl) (zg rfl (ze (zB _ rfl rfl (zS (fun (g : Unit) => [(0, dZ), (3, dI 0)]) (fun (g : Unit) => []) (fun (g : Unit) => True) (fun (g : Unit) => 0) _ () rfl rfl ⟨sk rfl, sk rfl, trivial⟩ HSub.rfl' trivial ?_)))))))))))))
  rintro _ _
  refine JD.keep [0, 3] [(0, dZ), (3, dI 0)] rfl (JD.norm [] rfl (zf _ _ rfl rfl rfl (zf _ _ rfl rfl rfl (zb rfl (za rfl rfl (zc rfl) (za rfl rfl (zc rfl) (za rfl rfl (zal (n := 0) rfl ⟨_, _, rfl⟩ Tryz.runUnderlying28) (za rfl rfl (z1 rfl rfl rfl) (zg rfl (ze ?_))))))))))
  refine zl _ _ rfl rfl rfl rfl (fun hc1 => ?_) (fun hc1 => ?_)
  · replace hc1 := of_decide_eq_true hc1
    exfalso; omega
  · replace hc1 := of_decide_eq_false hc1
    refine zO rfl (zD (zz (zw (ze (zf _ _ rfl rfl rfl (zb rfl (za rfl rfl (zd rfl) (zg rfl (ze (zu rfl ?_))))))))))
    exact zk Tryz.results54 (.cons (zo rfl) .nil) rfl HSub.rfl' ⟨rfl, rfl⟩

set_option maxHeartbeats 4000000 in
set_option maxRecDepth 100000 in
theorem stillCursors_0 (gb : Nat) (c0 c1 c2 c3 c4 c5 c6 c7 c8 c9 c10 c11 c13 c14 c15 c16 c17 c18 c19 : D)  :
    CD Tryz.prog 26 [.bx gb 35 (.agg [c0, c1, c2, c3, c4, c5, c6, c7, c8, c9, c10, c11, dZ, c13, c14, c15, c16, c17, c18, c19])] [dP gb 0] (fun r H' => r = dB true ∧ H' = [.bx gb 35 (.agg [c0, c1, c2, c3, c4, c5, c6, c7, c8, c9, c10, c11, dZ, c13, c14, c15, c16, c17, c18, c19])]) := by
  refine zH Tryz.func26 rfl (N := 29) rfl rfl (fun C => ?_)
  refine JD.keep [0] [(0, dP gb 0)] rfl (zf _ _ rfl rfl rfl (zb rfl (za rfl rfl (zd rfl) (zg rfl (ze (zf _ _ rfl rfl rfl (zf _ _ rfl rfl rfl (zb rfl (za rfl rfl (zd rfl) (zg rfl (ze (zB _ rfl rfl (zS (fun (g : Unit) => [(0, dP gb 0), (3, dI 0)]) (fun (g : Unit) => [.bx gb 35 (.agg [c0, c1, c2, c3, c4, c5, c6, c7, c8, c9, c10, c11, dZ, c13, c14, c15, c16, c17, c18, c19])]) (fun (g : Unit) => True) (fun (g : Unit) => 0) _ () rfl rfl ⟨sk rfl, sk rfl, trivial⟩ HSub.rfl' trivial ?_)))))))))))))
  rintro _ _
  refine JD.keep [0, 3] [(0, dP gb 0), (3, dI 0)] rfl (JD.norm [.bx gb 35 (.agg [c0, c1, c2, c3, c4, c5, c6, c7, c8, c9, c10, c11, dZ, c13, c14, c15, c16, c17, c18, c19])] rfl (zf _ _ rfl rfl rfl (zf _ _ rfl rfl rfl (zb rfl (za rfl rfl (zc rfl) (za rfl rfl (zc rfl) (za rfl rfl (zI rfl) (za rfl rfl (zE rfl fa_35_12 rfl) (za rfl rfl (zL rfl (i := 0) rfl Tryz.isAgg30 rfl) (za rfl rfl (zal (n := 0) rfl ⟨_, _, rfl⟩ Tryz.runUnderlying30) (za rfl rfl (z1 rfl rfl rfl) (zg rfl (ze ?_)))))))))))))
  refine zl _ _ rfl rfl rfl rfl (fun hc1 => ?_) (fun hc1 => ?_)
  · replace hc1 := of_decide_eq_true hc1
    exfalso; omega
  · replace hc1 := of_decide_eq_false hc1
    refine zO rfl (zD (zz (zw (ze (JD.keep [] [] rfl (zf _ _ rfl rfl rfl (zb rfl (za rfl rfl (zd rfl) (zg rfl (ze (zu rfl ?_)))))))))))
    exact zk Tryz.results26 (.cons (zo rfl) .nil) rfl HSub.rfl' ⟨rfl, rfl⟩

set_option maxHeartbeats 4000000 in
set_option maxRecDepth 100000 in
theorem putCursors_0 (gb : Nat) (c0 c1 c2 c3 c4 c5 c6 c7 c8 c9 c10 c11 c13 c14 c15 c16 c17 c18 c19 : D)  :
    CD Tryz.prog 38 [.bx gb 35 (.agg [c0, c1, c2, c3, c4, c5, c6, c7, c8, c9, c10, c11, dZ, c13, c14, c15, c16, c17, c18, c19])] [dP gb 0] (fun r H' => r = .tup [] ∧ H' = [.bx gb 35 (.agg [c0, c1, c2, c3, c4, c5, c6, c7, c8, c9, c10, c11, dZ, c13, c14, c15, c16, c17, c18, c19])]) := by
  refine zH Tryz.func38 rfl (N := 43) rfl rfl (fun C => ?_)
  refine JD.keep [0] [(0, dP gb 0)] rfl (zf _ _ rfl rfl rfl (zb rfl (za rfl rfl (zd rfl) (zg rfl (ze (zB _ rfl rfl (zS (fun (g : Unit) => [(0, dP gb 0), (2, dI 0)]) (fun (g : Unit) => [.bx gb 35 (.agg [c0, c1, c2, c3, c4, c5, c6, c7, c8, c9, c10, c11, dZ, c13, c14, c15, c16, c17, c18, c19])]) (fun (g : Unit) => True) (fun (g : Unit) => 0) _ () rfl rfl ⟨sk rfl, sk rfl, trivial⟩ HSub.rfl' trivial ?_)))))))
  rintro _ _
  refine JD.keep [0, 2] [(0, dP gb 0), (2, dI 0)] rfl (JD.norm [.bx gb 35 (.agg [c0, c1, c2, c3, c4, c5, c6, c7, c8, c9, c10, c11, dZ, c13, c14, c15, c16, c17, c18, c19])] rfl (zf _ _ rfl rfl rfl (zf _ _ rfl rfl rfl (zb rfl (za rfl rfl (zc rfl) (za rfl rfl (zc rfl) (za rfl rfl (zI rfl) (za rfl rfl (zE rfl fa_35_12 rfl) (za rfl rfl (zL rfl (i := 0) rfl Tryz.isAgg30 rfl) (za rfl rfl (zal (n := 0) rfl ⟨_, _, rfl⟩ Tryz.runUnderlying30) (za rfl rfl (z1 rfl rfl rfl) (zg rfl (ze ?_)))))))))))))
  refine zl _ _ rfl rfl rfl rfl (fun hc1 => ?_) (fun hc1 => ?_)
  · replace hc1 := of_decide_eq_true hc1
    exfalso; omega
  · replace hc1 := of_decide_eq_false hc1
    refine zO rfl (zD (zz (zw ?_)))
    exact zbC Tryz.results38 .nil rfl HSub.rfl' ⟨rfl, rfl⟩

set_option maxHeartbeats 4000000 in
set_option maxRecDepth 100000 in
theorem growCursors_0 (gb : Nat) (c0 c1 c2 c3 c4 c5 c6 c7 c8 c9 c10 c11 c13 c14 c15 c16 c17 c18 c19 : D)  :
    CD Tryz.prog 46 [.bx gb 35 (.agg [c0, c1, c2, c3, c4, c5, c6, c7, c8, c9, c10, c11, dZ, c13, c14, c15, c16, c17, c18, c19])] [dP gb 0] (fun r H' => r = dZ ∧ H' = [.bx gb 35 (.agg [c0, c1, c2, c3, c4, c5, c6, c7, c8, c9, c10, c11, dZ, c13, c14, c15, c16, c17, c18, c19])]) := by
  refine zH Tryz.func46 rfl (N := 43) rfl rfl (fun C => ?_)
  refine JD.keep [0] [(0, dP gb 0)] rfl (zf _ _ rfl rfl rfl (zb rfl (za rfl rfl (zd rfl) (zg rfl (ze (zf _ _ rfl rfl rfl (zb rfl (za rfl rfl (zd rfl) (zg rfl (ze (zf _ _ rfl rfl rfl (zf _ _ rfl rfl rfl (zb rfl (za rfl rfl (zd rfl) (zg rfl (ze (zB _ rfl rfl (zS (fun (g : Unit) => [(0, dP gb 0), (2, dZ), (4, dI 0), (3, dZ)]) (fun (g : Unit) => [.bx gb 35 (.agg [c0, c1, c2, c3, c4, c5, c6, c7, c8, c9, c10, c11, dZ, c13, c14, c15, c16, c17, c18, c19])]) (fun (g : Unit) => True) (fun (g : Unit) => 0) _ () rfl rfl ⟨sk rfl, sk rfl, sk rfl, sk rfl, trivial⟩ HSub.rfl' trivial ?_))))))))))))))))))
  rintro _ _
  refine JD.keep [0, 2, 4, 3] [(0, dP gb 0), (2, dZ), (4, dI 0), (3, dZ)] rfl (JD.norm [.bx gb 35 (.agg [c0, c1, c2, c3, c4, c5, c6, c7, c8, c9, c10, c11, dZ, c13, c14, c15, c16, c17, c18, c19])] rfl (zf _ _ rfl rfl rfl (zf _ _ rfl rfl rfl (zb rfl (za rfl rfl (zc rfl) (za rfl rfl (zc rfl) (za rfl rfl (zI rfl) (za rfl rfl (zE rfl fa_35_12 rfl) (za rfl rfl (zL rfl (i := 0) rfl Tryz.isAgg30 rfl) (za rfl rfl (zal (n := 0) rfl ⟨_, _, rfl⟩ Tryz.runUnderlying30) (za rfl rfl (z1 rfl rfl rfl) (zg rfl (ze ?_)))))))))))))
  refine zl _ _ rfl rfl rfl rfl (fun hc1 => ?_) (fun hc1 => ?_)
  · replace hc1 := of_decide_eq_true hc1
    exfalso; omega
  · replace hc1 := of_decide_eq_false hc1
    refine zO rfl (zD (zz (zw (ze (JD.keep [2, 3] [(2, dZ), (3, dZ)] rfl (zf _ _ rfl rfl rfl (zb rfl (za rfl rfl (zc rfl) (za rfl rfl (zd rfl) (zg rfl (ze (zu rfl ?_))))))))))))
    exact zk Tryz.results46 (.cons (zo rfl) .nil) rfl HSub.rfl' ⟨rfl, rfl⟩

set_option maxHeartbeats 4000000 in
set_option maxRecDepth 100000 in
theorem markedCursors_0   :
    CD Tryz.prog 56 [] [dZ] (isR (dB true)) := by
  refine zH Tryz.func56 rfl (N := 23) rfl rfl (fun C => ?_)
  refine JD.keep [0] [(0, dZ)] rfl (zf _ _ rfl rfl rfl (zb rfl (za rfl rfl (zd rfl) (zg rfl (ze (zf _ _ rfl rfl rfl (zf _ _ rfl rfl rfl (zb rfl (za rfl rfl (zd rfl) (zg rfl (ze (zB _ rfl rfl (zS (fun (g : Unit) => [(0, dZ), (3, dI 0)]) (fun (g : Unit) => []) (fun (g : Unit) => True) (fun (g : Unit) => 0) _ () rfl rfl ⟨sk rfl, sk rfl, trivial⟩ HSub.rfl' trivial ?_)))))))))))))
  rintro _ _
  refine JD.keep [0, 3] [(0, dZ), (3, dI 0)] rfl (JD.norm [] rfl (zf _ _ rfl rfl rfl (zf _ _ rfl rfl rfl (zb rfl (za rfl rfl (zc rfl) (za rfl rfl (zc rfl) (za rfl rfl (zal (n := 0) rfl ⟨_, _, rfl⟩ Tryz.runUnderlying30) (za rfl rfl (z1 rfl rfl rfl) (zg rfl (ze ?_))))))))))
  refine zl _ _ rfl rfl rfl rfl (fun hc1 => ?_) (fun hc1 => ?_)
  · replace hc1 := of_decide_eq_true hc1
    exfalso; omega
  · replace hc1 := of_decide_eq_false hc1
    refine zO rfl (zD (zz (zw (ze (zf _ _ rfl rfl rfl (zb rfl (za rfl rfl (zd rfl) (zg rfl (ze (zu rfl ?_))))))))))
    exact zk Tryz.results56 (.cons (zo rfl) .nil) rfl HSub.rfl' ⟨rfl, rfl⟩

set_option maxHeartbeats 4000000 in
set_option maxRecDepth 100000 in
theorem stillNotes_0 (gb : Nat) (c0 c1 c2 c3 c4 c5 c6 c7 c8 c9 c10 c11 c12 c13 c15 c16 c17 c18 c19 : D)  :
    CD Tryz.prog 27 [.bx gb 35 (.agg [c0, c1, c2, c3, c4, c5, c6, c7, c8, c9, c10, c11, c12, c13, dZ, c15, c16, c17, c18, c19])] [dP gb 0] (fun r H' => r = dB true ∧ H' = [.bx gb 35 (.agg [c0, c1, c2, c3, c4, c5, c6, c7, c8, c9, c10, c11, c12, c13, dZ, c15, c16, c17, c18, c19])]) := by
  refine zH Tryz.func27 rfl (N := 29) rfl rfl (fun C => ?_)
  refine JD.keep [0] [(0, dP gb 0)] rfl (zf _ _ rfl rfl rfl (zb rfl (za rfl rfl (zd rfl) (zg rfl (ze (zf _ _ rfl rfl rfl (zf _ _ rfl rfl rfl (zb rfl (za rfl rfl (zd rfl) (zg rfl (ze (zB _ rfl rfl (zS (fun (g : Unit) => [(0, dP gb 0), (3, dI 0)]) (fun (g : Unit) => [.bx gb 35 (.agg [c0, c1, c2, c3, c4, c5, c6, c7, c8, c9, c10, c11, c12, c13, dZ, c15, c16, c17, c18, c19])]) (fun (g : Unit) => True) (fun (g : Unit) => 0) _ () rfl rfl ⟨sk rfl, sk rfl, trivial⟩ HSub.rfl' trivial ?_)))))))))))))
  rintro _ _
  refine JD.keep [0, 3] [(0, dP gb 0), (3, dI 0)] rfl (JD.norm [.bx gb 35 (.agg [c0, c1, c2, c3, c4, c5, c6, c7, c8, c9, c10, c11, c12, c13, dZ, c15, c16, c17, c18, c19])] rfl (zf _ _ rfl rfl rfl (zf _ _ rfl rfl rfl (zb rfl (za rfl rfl (zc rfl) (za rfl rfl (zc rfl) (za rfl rfl (zI rfl) (za rfl rfl (zE rfl fa_35_14 rfl) (za rfl rfl (zL rfl (i := 0) rfl Tryz.isAgg31 rfl) (za rfl rfl (zal (n := 0) rfl ⟨_, _, rfl⟩ Tryz.runUnderlying31) (za rfl rfl (z1 rfl rfl rfl) (zg rfl (ze ?_)))))))))))))
  refine zl _ _ rfl rfl rfl rfl (fun hc1 => ?_) (fun hc1 => ?_)
  · replace hc1 := of_decide_eq_true hc1
    exfalso; omega
  · replace hc1 := of_decide_eq_false hc1
    refine zO rfl (zD (zz (zw (ze (JD.keep [] [] rfl (zf _ _ rfl rfl rfl (zb rfl (za rfl rfl (zd rfl) (zg rfl (ze (zu rfl ?_)))))))))))
    exact zk Tryz.results27 (.cons (zo rfl) .nil) rfl HSub.rfl' ⟨rfl, rfl⟩

set_option maxHeartbeats 4000000 in
set_option maxRecDepth 100000 in
theorem putNotes_0 (gb : Nat) (c0 c1 c2 c3 c4 c5 c6 c7 c8 c9 c10 c11 c12 c13 c15 c16 c17 c18 c19 : D)  :
    CD Tryz.prog 39 [.bx gb 35 (.agg [c0, c1, c2, c3, c4, c5, c6, c7, c8, c9, c10, c11, c12, c13, dZ, c15, c16, c17, c18, c19])] [dP gb 0] (fun r H' => r = .tup [] ∧ H' = [.bx gb 35 (.agg [c0, c1, c2, c3, c4, c5, c6, c7, c8, c9, c10, c11, c12, c13, dZ, c15, c16, c17, c18, c19])]) := by
  refine zH Tryz.func39 rfl (N := 43) rfl rfl (fun C => ?_)
  refine JD.keep [0] [(0, dP gb 0)] rfl (zf _ _ rfl rfl rfl (zb rfl (za rfl rfl (zd rfl) (zg rfl (ze (zB _ rfl rfl (zS (fun (g : Unit) => [(0, dP gb 0), (2, dI 0)]) (fun (g : Unit) => [.bx gb 35 (.agg [c0, c1, c2, c3, c4, c5, c6, c7, c8, c9, c10, c11, c12, c13, dZ, c15, c16, c17, c18, c19])]) (fun (g : Unit) => True) (fun (g : Unit) => 0) _ () rfl rfl ⟨sk rfl, sk rfl, trivial⟩ HSub.rfl' trivial ?_)))))))
  rintro _ _
  refine JD.keep [0, 2] [(0, dP gb 0), (2, dI 0)] rfl (JD.norm [.bx gb 35 (.agg [c0, c1, c2, c3, c4, c5, c6, c7, c8, c9, c10, c11, c12, c13, dZ, c15, c16, c17, c18, c19])] rfl (zf _ _ rfl rfl rfl (zf _ _ rfl rfl rfl (zb rfl (za rfl rfl (zc rfl) (za rfl rfl (zc rfl) (za rfl rfl (zI rfl) (za rfl rfl (zE rfl fa_35_14 rfl) (za rfl rfl (zL rfl (i := 0) rfl Tryz.isAgg31 rfl) (za rfl rfl (zal (n := 0) rfl ⟨_, _, rfl⟩ Tryz.runUnderlying31) (za rfl rfl (z1 rfl rfl rfl) (zg rfl (ze ?_)))))))))))))
  refine zl _ _ rfl rfl rfl rfl (fun hc1 => ?_) (fun hc1 => ?_)
  · replace hc1 := of_decide_eq_true hc1
    exfalso; omega
  · replace hc1 := of_decide_eq_false hc1
    refine zO rfl (zD (zz (zw ?_)))
    exact zbC Tryz.results39 .nil rfl HSub.rfl' ⟨rfl, rfl⟩

set_option maxHeartbeats 4000000 in
set_option maxRecDepth 100000 in
theorem growNotes_0 (gb : Nat) (c0 c1 c2 c3 c4 c5 c6 c7 c8 c9 c10 c11 c12 c13 c15 c16 c17 c18 c19 : D)  :
    CD Tryz.prog 47 [.bx gb 35 (.agg [c0, c1, c2, c3, c4, c5, c6, c7, c8, c9, c10, c11, c12, c13, dZ, c15, c16, c17, c18, c19])] [dP gb 0] (fun r H' => r = dZ ∧ H' = [.bx gb 35 (.agg [c0, c1, c2, c3, c4, c5, c6, c7, c8, c9, c10, c11, c12, c13, dZ, c15, c16, c17, c18, c19])]) := by
  refine zH Tryz.func47 rfl (N := 43) rfl rfl (fun C => ?_)
  refine JD.keep [0] [(0, dP gb 0)] rfl (zf _ _ rfl rfl rfl (zb rfl (za rfl rfl (zd rfl) (zg rfl (ze (zf _ _ rfl rfl rfl (zb rfl (za rfl rfl (zd rfl) (zg rfl (ze (zf _ _ rfl rfl rfl (zf _ _ rfl rfl rfl (zb rfl (za rfl rfl (zd rfl) (zg rfl (ze (zB _ rfl rfl (zS (fun (g : Unit) => [(0, dP gb 0), (2, dZ), (4, dI 0), (3, dZ)]) (fun (g : Unit) => [.bx gb 35 (.agg [c0, c1, c2, c3, c4, c5, c6, c7, c8, c9, c10, c11, c12, c13, dZ, c15, c16, c17, c18, c19])]) (fun (g : Unit) => True) (fun (g : Unit) => 0) _ () rfl rfl ⟨sk rfl, sk rfl, sk rfl, sk rfl, trivial⟩ HSub.rfl' trivial ?_))))))))))))))))))
  rintro _ _
  refine JD.keep [0, 2, 4, 3] [(0, dP gb 0), (2, dZ), (4, dI 0), (3, dZ)] rfl (JD.norm [.bx gb 35 (.agg [c0, c1, c2, c3, c4, c5, c6, c7, c8, c9, c10, c11, c12, c13, dZ, c15, c16, c17, c18, c19])] rfl (zf _ _ rfl rfl rfl (zf _ _ rfl rfl rfl (zb rfl (za rfl rfl (zc rfl) (za rfl rfl (zc rfl) (za rfl rfl (zI rfl) (za rfl rfl (zE rfl fa_35_14 rfl) (za rfl rfl (zL rfl (i := 0) rfl Tryz.isAgg31 rfl) (za rfl rfl (zal (n := 0) rfl ⟨_, _, rfl⟩ Tryz.runUnderlying31) (za rfl rfl (z1 rfl rfl rfl) (zg rfl (ze ?_)))))))))))))
  refine zl _ _ rfl rfl rfl rfl (fun hc1 => ?_) (fun hc1 => ?_)
  · replace hc1 := of_decide_eq_true hc1
    exfalso; omega
  · replace hc1 := of_decide_eq_false hc1
    refine zO rfl (zD (zz (zw (ze (JD.keep [2, 3] [(2, dZ), (3, dZ)] rfl (zf _ _ rfl rfl rfl (zb rfl (za rfl rfl (zc rfl) (za rfl rfl (zd rfl) (zg rfl (ze (zu rfl ?_))))))))))))
    exact zk Tryz.results47 (.cons (zo rfl) .nil) rfl HSub.rfl' ⟨rfl, rfl⟩

set_option maxHeartbeats 4000000 in
set_option maxRecDepth 100000 in
theorem markedNotes_0   :
    CD Tryz.prog 57 [] [dZ] (isR (dB true)) := by
  refine zH Tryz.func57 rfl (N := 23) rfl rfl (fun C => ?_)
  refine JD.keep [0] [(0, dZ)] rfl (zf _ _ rfl rfl rfl (zb rfl (za rfl rfl (zd rfl) (zg rfl (ze (zf _ _ rfl rfl rfl (zf _ _ rfl rfl rfl (zb rfl (za rfl rfl (zd rfl) (zg rfl (ze (zB _ rfl rfl (zS (fun (g : Unit) => [(0, dZ), (3, dI 0)]) (fun (g : Unit) => []) (fun (g : Unit) => True) (fun (g : Unit) => 0) _ () rfl rfl ⟨sk rfl, sk rfl, trivial⟩ HSub.rfl' trivial ?_)))))))))))))
  rintro _ _
  refine JD.keep [0, 3] [(0, dZ), (3, dI 0)] rfl (JD.norm [] rfl (zf _ _ rfl rfl rfl (zf _ _ rfl rfl rfl (zb rfl (za rfl rfl (zc rfl) (za rfl rfl (zc rfl) (za rfl rfl (zal (n := 0) rfl ⟨_, _, rfl⟩ Tryz.runUnderlying31) (za rfl rfl (z1 rfl rfl rfl) (zg rfl (ze ?_))))))))))
  refine zl _ _ rfl rfl rfl rfl (fun hc1 => ?_) (fun hc1 => ?_)
  · replace hc1 := of_decide_eq_true hc1
    exfalso; omega
  · replace hc1 := of_decide_eq_false hc1
    refine zO rfl (zD (zz (zw (ze (zf _ _ rfl rfl rfl (zb rfl (za rfl rfl (zd rfl) (zg rfl (ze (zu rfl ?_))))))))))
    exact zk Tryz.results57 (.cons (zo rfl) .nil) rfl HSub.rfl' ⟨rfl, rfl⟩

set_option maxHeartbeats 4000000 in
set_option maxRecDepth 100000 in
theorem stillRows_0 (gb : Nat) (c0 c1 c2 c3 c4 c5 c6 c7 c8 c9 c10 c11 c12 c13 c14 c15 c17 c18 c19 : D)  :
    CD Tryz.prog 28 [.bx gb 35 (.agg [c0, c1, c2, c3, c4, c5, c6, c7, c8, c9, c10, c11, c12, c13, c14, c15, dZ, c17, c18, c19])] [dP gb 0] (fun r H' => r = dB true ∧ H' = [.bx gb 35 (.agg [c0, c1, c2, c3, c4, c5, c6, c7, c8, c9, c10, c11, c12, c13, c14, c15, dZ, c17, c18, c19])]) := by
  refine zH Tryz.func28 rfl (N := 29) rfl rfl (fun C => ?_)
  refine JD.keep [0] [(0, dP gb 0)] rfl (zf _ _ rfl rfl rfl (zb rfl (za rfl rfl (zd rfl) (zg rfl (ze (zf _ _ rfl rfl rfl (zf _ _ rfl rfl rfl (zb rfl (za rfl rfl (zd rfl) (zg rfl (ze (zB _ rfl rfl (zS (fun (g : Unit) => [(0, dP gb 0), (3, dI 0)]) (fun (g : Unit) => [.bx gb 35 (.agg [c0, c1, c2, c3, c4, c5, c6, c7, c8, c9, c10, c11, c12, c13, c14, c15, dZ, c17, c18, c19])]) (fun (g : Unit) => True) (fun (g : Unit) => 0) _ () rfl rfl ⟨sk rfl, sk rfl, trivial⟩ HSub.rfl' trivial ?_)))))))))))))
  rintro _ _
  refine JD.keep [0, 3] [(0, dP gb 0), (3, dI 0)] rfl (JD.norm [.bx gb 35 (.agg [c0, c1, c2, c3, c4, c5, c6, c7, c8, c9, c10, c11, c12, c13, c14, c15, dZ, c17, c18, c19])] rfl (zf _ _ rfl rfl rfl (zf _ _ rfl rfl rfl (zb rfl (za rfl rfl (zc rfl) (za rfl rfl (zc rfl) (za rfl rfl (zI rfl) (za rfl rfl (zE rfl zcz rfl) (za rfl rfl (zL rfl (i := 0) rfl Tryz.isAgg32 rfl) (za rfl rfl (zal (n := 0) rfl ⟨_, _, rfl⟩ Tryz.runUnderlying32) (za rfl rfl (z1 rfl rfl rfl) (zg rfl (ze ?_)))))))))))))
  refine zl _ _ rfl rfl rfl rfl (fun hc1 => ?_) (fun hc1 => ?_)
  · replace hc1 := of_decide_eq_true hc1
    exfalso; omega
  · replace hc1 := of_decide_eq_false hc1
    refine zO rfl (zD (zz (zw (ze (JD.keep [] [] rfl (zf _ _ rfl rfl rfl (zb rfl (za rfl rfl (zd rfl) (zg rfl (ze (zu rfl ?_)))))))))))
    exact zk Tryz.results28 (.cons (zo rfl) .nil) rfl HSub.rfl' ⟨rfl, rfl⟩

set_option maxHeartbeats 4000000 in
set_option maxRecDepth 100000 in
theorem putRows_0 (gb : Nat) (c0 c1 c2 c3 c4 c5 c6 c7 c8 c9 c10 c11 c12 c13 c14 c15 c17 c18 c19 : D)  :
    CD Tryz.prog 30 [.bx gb 35 (.agg [c0, c1, c2, c3, c4, c5, c6, c7, c8, c9, c10, c11, c12, c13, c14, c15, dZ, c17, c18, c19])] [dP gb 0] (fun r H' => r = .tup [] ∧ H' = [.bx gb 35 (.agg [c0, c1, c2, c3, c4, c5, c6, c7, c8, c9, c10, c11, c12, c13, c14, c15, dZ, c17, c18, c19])]) := by
  refine zH Tryz.func30 rfl (N := 43) rfl rfl (fun C => ?_)
  refine JD.keep [0] [(0, dP gb 0)] rfl (zf _ _ rfl rfl rfl (zb rfl (za rfl rfl (zd rfl) (zg rfl (ze (zB _ rfl rfl (zS (fun (g : Unit) => [(0, dP gb 0), (2, dI 0)]) (fun (g : Unit) => [.bx gb 35 (.agg [c0, c1, c2, c3, c4, c5, c6, c7, c8, c9, c10, c11, c12, c13, c14, c15, dZ, c17, c18, c19])]) (fun (g : Unit) => True) (fun (g : Unit) => 0) _ () rfl rfl ⟨sk rfl, sk rfl, trivial⟩ HSub.rfl' trivial ?_)))))))
  rintro _ _
  refine JD.keep [0, 2] [(0, dP gb 0), (2, dI 0)] rfl (JD.norm [.bx gb 35 (.agg [c0, c1, c2, c3, c4, c5, c6, c7, c8, c9, c10, c11, c12, c13, c14, c15, dZ, c17, c18, c19])] rfl (zf _ _ rfl rfl rfl (zf _ _ rfl rfl rfl (zb rfl (za rfl rfl (zc rfl) (za rfl rfl (zc rfl) (za rfl rfl (zI rfl) (za rfl rfl (zE rfl zcz rfl) (za rfl rfl (zL rfl (i := 0) rfl Tryz.isAgg32 rfl) (za rfl rfl (zal (n := 0) rfl ⟨_, _, rfl⟩ Tryz.runUnderlying32) (za rfl rfl (z1 rfl rfl rfl) (zg rfl (ze ?_)))))))))))))
  refine zl _ _ rfl rfl rfl rfl (fun hc1 => ?_) (fun hc1 => ?_)
  · replace hc1 := of_decide_eq_true hc1
    exfalso; omega
  · replace hc1 := of_decide_eq_false hc1
    refine zO rfl (zD (zz (zw ?_)))
    exact zbC Tryz.results30 .nil rfl HSub.rfl' ⟨rfl, rfl⟩

set_option maxHeartbeats 4000000 in
set_option maxRecDepth 100000 in
theorem growRows_0 (gb : Nat) (c0 c1 c2 c3 c4 c5 c6 c7 c8 c9 c10 c11 c12 c13 c14 c15 c17 c18 c19 : D)  :
    CD Tryz.prog 48 [.bx gb 35 (.agg [c0, c1, c2, c3, c4, c5, c6, c7, c8, c9, c10, c11, c12, c13, c14, c15, dZ, c17, c18, c19])] [dP gb 0] (fun r H' => r = dZ ∧ H' = [.bx gb 35 (.agg [c0, c1, c2, c3, c4, c5, c6, c7, c8, c9, c10, c11, c12, c13, c14, c15, dZ, c17, c18, c19])]) := by
  refine zH Tryz.func48 rfl (N := 43) rfl rfl (fun C => ?_)
  refine JD.keep [0] [(0, dP gb 0)] rfl (zf _ _ rfl rfl rfl (zb rfl (za rfl rfl (zd rfl) (zg rfl (ze (zf _ _ rfl rfl rfl (zb rfl (za rfl rfl (zd rfl) (zg rfl (ze (zf _ _ rfl rfl rfl (zf _ _ rfl rfl rfl (zb rfl (za rfl rfl (zd rfl) (zg rfl (ze (zB _ rfl rfl (zS (fun (g : Unit) => [(0, dP gb 0), (2, dZ), (4, dI 0), (3, dZ)]) (fun (g : Unit) => [.bx gb 35 (.agg [c0, c1, c2, c3, c4, c5, c6, c7, c8, c9, c10, c11, c12, c13, c14, c15, dZ, c17, c18, c19])]) (fun (g : Unit) => True) (fun (g : Unit) => 0) _ () rfl rfl ⟨sk rfl, sk rfl, sk rfl, sk rfl, trivial⟩ HSub.rfl' trivial ?_))))))))))))))))))
  rintro _ _
  refine JD.keep [0, 2, 4, 3] [(0, dP gb 0), (2, dZ), (4, dI 0), (3, dZ)] rfl (JD.norm [.bx gb 35 (.agg [c0, c1, c2, c3, c4, c5, c6, c7, c8, c9, c10, c11, c12, c13, c14, c15, dZ, c17, c18, c19])] rfl (zf _ _ rfl rfl rfl (zf _ _ rfl rfl rfl (zb rfl (za rfl rfl (zc rfl) (za rfl rfl (zc rfl) (za rfl rfl (zI rfl) (za rfl rfl (zE rfl zcz rfl) (za rfl rfl (zL rfl (i := 0) rfl Tryz.isAgg32 rfl) (za rfl rfl (zal (n := 0) rfl ⟨_, _, rfl⟩ Tryz.runUnderlying32) (za rfl rfl (z1 rfl rfl rfl) (zg rfl (ze ?_)))))))))))))
  refine zl _ _ rfl rfl rfl rfl (fun hc1 => ?_) (fun hc1 => ?_)
  · replace hc1 := of_decide_eq_true hc1
    exfalso; omega
  · replace hc1 := of_decide_eq_false hc1
    refine zO rfl (zD (zz (zw (ze (JD.keep [2, 3] [(2, dZ), (3, dZ)] rfl (zf _ _ rfl rfl rfl (zb rfl (za rfl rfl (zc rfl) (za rfl rfl (zd rfl) (zg rfl (ze (zu rfl ?_))))))))))))
    exact zk Tryz.results48 (.cons (zo rfl) .nil) rfl HSub.rfl' ⟨rfl, rfl⟩

set_option maxHeartbeats 4000000 in
set_option maxRecDepth 100000 in
theorem markedRows_0   :
    CD Tryz.prog 58 [] [dZ] (isR (dB true)) := by
  refine zH Tryz.func58 rfl (N := 23) rfl rfl (fun C => ?_)
  refine JD.keep [0] [(0, dZ)] rfl (zf _ _ rfl rfl rfl (zb rfl (za rfl rfl (zd rfl) (zg rfl (ze (zf _ _ rfl rfl rfl (zf _ _ rfl rfl rfl (zb rfl (za rfl rfl (zd rfl) (zg rfl (ze (zB _ rfl rfl (zS (fun (g : Unit) => [(0, dZ), (3, dI 0)]) (fun (g : Unit) => []) (fun (g : Unit) => True) (fun (g : Unit) => 0) _ () rfl rfl ⟨sk rfl, sk rfl, trivial⟩ HSub.rfl' trivial ?_)))))))))))))
  rintro _ _
  refine JD.keep [0, 3] [(0, dZ), (3, dI 0)] rfl (JD.norm [] rfl (zf _ _ rfl rfl rfl (zf _ _ rfl rfl rfl (zb rfl (za rfl rfl (zc rfl) (za rfl rfl (zc rfl) (za rfl rfl (zal (n := 0) rfl ⟨_, _, rfl⟩ Tryz.runUnderlying32) (za rfl rfl (z1 rfl rfl rfl) (zg rfl (ze ?_))))))))))
  refine zl _ _ rfl rfl rfl rfl (fun hc1 => ?_) (fun hc1 => ?_)
  · replace hc1 := of_decide_eq_true hc1
    exfalso; omega
  · replace hc1 := of_decide_eq_false hc1
    refine zO rfl (zD (zz (zw (ze (zf _ _ rfl rfl rfl (zb rfl (za rfl rfl (zd rfl) (zg rfl (ze (zu rfl ?_))))))))))
    exact zk Tryz.results58 (.cons (zo rfl) .nil) rfl HSub.rfl' ⟨rfl, rfl⟩

set_option maxHeartbeats 4000000 in
set_option maxRecDepth 100000 in
theorem stillSeries_0 (gb : Nat) (c0 c1 c2 c3 c4 c5 c6 c7 c8 c9 c10 c11 c12 c13 c14 c15 c16 c17 c19 : D)  :
    CD Tryz.prog 29 [.bx gb 35 (.agg [c0, c1, c2, c3, c4, c5, c6, c7, c8, c9, c10, c11, c12, c13, c14, c15, c16, c17, dZ, c19])] [dP gb 0] (fun r H' => r = dB true ∧ H' = [.bx gb 35 (.agg [c0, c1, c2, c3, c4, c5, c6, c7, c8, c9, c10, c11, c12, c13, c14, c15, c16, c17, dZ, c19])]) := by
  refine zH Tryz.func29 rfl (N := 29) rfl rfl (fun C => ?_)
  refine JD.keep [0] [(0, dP gb 0)] rfl (zf _ _ rfl rfl rfl (zb rfl (za rfl rfl (zd rfl) (zg rfl (ze (zf _ _ rfl rfl rfl (zf _ _ rfl rfl rfl (zb rfl (za rfl rfl (zd rfl) (zg rfl (ze (zB _ rfl rfl (zS (fun (g : Unit) => [(0, dP gb 0), (3, dI 0)]) (fun (g : Unit) => [.bx gb 35 (.agg [c0, c1, c2, c3, c4, c5, c6, c7, c8, c9, c10, c11, c12, c13, c14, c15, c16, c17, dZ, c19])]) (fun (g : Unit) => True) (fun (g : Unit) => 0) _ () rfl rfl ⟨sk rfl, sk rfl, trivial⟩ HSub.rfl' trivial ?_)))))))))))))
  rintro _ _
  refine JD.keep [0, 3] [(0, dP gb 0), (3, dI 0)] rfl (JD.norm [.bx gb 35 (.agg [c0, c1, c2, c3, c4, c5, c6, c7, c8, c9, c10, c11, c12, c13, c14, c15, c16, c17, dZ, c19])] rfl (zf _ _ rfl rfl rfl (zf _ _ rfl rfl rfl (zb rfl (za rfl rfl (zc rfl) (za rfl rfl (zc rfl) (za rfl rfl (zI rfl) (za rfl rfl (zE rfl fa_35_18 rfl) (za rfl rfl (zL rfl (i := 0) rfl Tryz.isAgg33 rfl) (za rfl rfl (zal (n := 0) rfl ⟨_, _, rfl⟩ Tryz.runUnderlying33) (za rfl rfl (z1 rfl rfl rfl) (zg rfl (ze ?_)))))))))))))
  refine zl _ _ rfl rfl rfl rfl (fun hc1 => ?_) (fun hc1 => ?_)
  · replace hc1 := of_decide_eq_true hc1
    exfalso; omega
  · replace hc1 := of_decide_eq_false hc1
    refine zO rfl (zD (zz (zw (ze (JD.keep [] [] rfl (zf _ _ rfl rfl rfl (zb rfl (za rfl rfl (zd rfl) (zg rfl (ze (zu rfl ?_)))))))))))
    exact zk Tryz.results29 (.cons (zo rfl) .nil) rfl HSub.rfl' ⟨rfl, rfl⟩

set_option maxHeartbeats 4000000 in
set_option maxRecDepth 100000 in
theorem putSeries_0 (gb : Nat) (c0 c1 c2 c3 c4 c5 c6 c7 c8 c9 c10 c11 c12 c13 c14 c15 c16 c17 c19 : D)  :
    CD Tryz.prog 31 [.bx gb 35 (.agg [c0, c1, c2, c3, c4, c5, c6, c7, c8, c9, c10, c11, c12, c13, c14, c15, c16, c17, dZ, c19])] [dP gb 0] (fun r H' => r = .tup [] ∧ H' = [.bx gb 35 (.agg [c0, c1, c2, c3, c4, c5, c6, c7, c8, c9, c10, c11, c12, c13, c14, c15, c16, c17, dZ, c19])]) := by
  refine zH Tryz.func31 rfl (N := 43) rfl rfl (fun C => ?_)
  refine JD.keep [0] [(0, dP gb 0)] rfl (zf _ _ rfl rfl rfl (zb rfl (za rfl rfl (zd rfl) (zg rfl (ze (zB _ rfl rfl (zS (fun (g : Unit) => [(0, dP gb 0), (2, dI 0)]) (fun (g : Unit) => [.bx gb 35 (.agg [c0, c1, c2, c3, c4, c5, c6, c7, c8, c9, c10, c11, c12, c13, c14, c15, c16, c17, dZ, c19])]) (fun (g : Unit) => True) (fun (g : Unit) => 0) _ () rfl rfl ⟨sk rfl, sk rfl, trivial⟩ HSub.rfl' trivial ?_)))))))
  rintro _ _
  refine JD.keep [0, 2] [(0, dP gb 0), (2, dI 0)] rfl (JD.norm [.bx gb 35 (.agg [c0, c1, c2, c3, c4, c5, c6, c7, c8, c9, c10, c11, c12, c13, c14, c15, c16, c17, dZ, c19])] rfl (zf _ _ rfl rfl rfl (zf _ _ rfl rfl rfl (zb rfl (za rfl rfl (zc rfl) (za rfl rfl (zc rfl) (za rfl rfl (zI rfl) (za rfl rfl (zE rfl fa_35_18 rfl) (za rfl rfl (zL rfl (i := 0) rfl Tryz.isAgg33 rfl) (za rfl rfl (zal (n := 0) rfl ⟨_, _, rfl⟩ Tryz.runUnderlying33) (za rfl rfl (z1 rfl rfl rfl) (zg rfl (ze ?_)))))))))))))
  refine zl _ _ rfl rfl rfl rfl (fun hc1 => ?_) (fun hc1 => ?_)
  · replace hc1 := of_decide_eq_true hc1
    exfalso; omega
  · replace hc1 := of_decide_eq_false hc1
    refine zO rfl (zD (zz (zw ?_)))
    exact zbC Tryz.results31 .nil rfl HSub.rfl' ⟨rfl, rfl⟩

set_option maxHeartbeats 4000000 in
set_option maxRecDepth 100000 in
theorem growSeries_0 (gb : Nat) (c0 c1 c2 c3 c4 c5 c6 c7 c8 c9 c10 c11 c12 c13 c14 c15 c16 c17 c19 : D)  :
    CD Tryz.prog 49 [.bx gb 35 (.agg [c0, c1, c2, c3, c4, c5, c6, c7, c8, c9, c10, c11, c12, c13, c14, c15, c16, c17, dZ, c19])] [dP gb 0] (fun r H' => r = dZ ∧ H' = [.bx gb 35 (.agg [c0, c1, c2, c3, c4, c5, c6, c7, c8, c9, c10, c11, c12, c13, c14, c15, c16, c17, dZ, c19])]) := by
  refine zH Tryz.func49 rfl (N := 43) rfl rfl (fun C => ?_)
  refine JD.keep [0] [(0, dP gb 0)] rfl (zf _ _ rfl rfl rfl (zb rfl (za rfl rfl (zd rfl) (zg rfl (ze (zf _ _ rfl rfl rfl (zb rfl (za rfl rfl (zd rfl) (zg rfl (ze (zf _ _ rfl rfl rfl (zf _ _ rfl rfl rfl (zb rfl (za rfl rfl (zd rfl) (zg rfl (ze (zB _ rfl rfl (zS (fun (g : Unit) => [(0, dP gb 0), (2, dZ), (4, dI 0), (3, dZ)]) (fun (g : Unit) => [.bx gb 35 (.agg [c0, c1, c2, c3, c4, c5, c6, c7, c8, c9, c10, c11, c12, c13, c14, c15, c16, c17, dZ, c19])]) (fun (g : Unit) => True) (fun (g : Unit) => 0) _ () rfl rfl ⟨sk rfl, sk rfl, sk rfl, sk rfl, trivial⟩ HSub.rfl' trivial ?_))))))))))))))))))
  rintro _ _
  refine JD.keep [0, 2, 4, 3] [(0, dP gb 0), (2, dZ), (4, dI 0), (3, dZ)] rfl (JD.norm [.bx gb 35 (.agg [c0, c1, c2, c3, c4, c5, c6, c7, c8, c9, c10, c11, c12, c13, c14, c15, c16, c17, dZ, c19])] rfl (zf _ _ rfl rfl rfl (zf _ _ rfl rfl rfl (zb rfl (za rfl rfl (zc rfl) (za rfl rfl (zc rfl) (za rfl rfl (zI rfl) (za rfl rfl (zE rfl fa_35_18 rfl) (za rfl rfl (zL rfl (i := 0) rfl Tryz.isAgg33 rfl) (za rfl rfl (zal (n := 0) rfl ⟨_, _, rfl⟩ Tryz.runUnderlying33) (za rfl rfl (z1 rfl rfl rfl) (zg rfl (ze ?_)))))))))))))
  refine zl _ _ rfl rfl rfl rfl (fun hc1 => ?_) (fun hc1 => ?_)
  · replace hc1 := of_decide_eq_true hc1
    exfalso; omega
  · replace hc1 := of_decide_eq_false hc1
    refine zO rfl (zD (zz (zw (ze (JD.keep [2, 3] [(2, dZ), (3, dZ)] rfl (zf _ _ rfl rfl rfl (zb rfl (za rfl rfl (zc rfl) (za rfl rfl (zd rfl) (zg rfl (ze (zu rfl ?_))))))))))))
    exact zk Tryz.results49 (.cons (zo rfl) .nil) rfl HSub.rfl' ⟨rfl, rfl⟩

set_option maxHeartbeats 4000000 in
set_option maxRecDepth 100000 in
theorem markedSeries_0   :
    CD Tryz.prog 59 [] [dZ] (isR (dB true)) := by
  refine zH Tryz.func59 rfl (N := 23) rfl rfl (fun C => ?_)
  refine JD.keep [0] [(0, dZ)] rfl (zf _ _ rfl rfl rfl (zb rfl (za rfl rfl (zd rfl) (zg rfl (ze (zf _ _ rfl rfl rfl (zf _ _ rfl rfl rfl (zb rfl (za rfl rfl (zd rfl) (zg rfl (ze (zB _ rfl rfl (zS (fun (g : Unit) => [(0, dZ), (3, dI 0)]) (fun (g : Unit) => []) (fun (g : Unit) => True) (fun (g : Unit) => 0) _ () rfl rfl ⟨sk rfl, sk rfl, trivial⟩ HSub.rfl' trivial ?_)))))))))))))
  rintro _ _
  refine JD.keep [0, 3] [(0, dZ), (3, dI 0)] rfl (JD.norm [] rfl (zf _ _ rfl rfl rfl (zf _ _ rfl rfl rfl (zb rfl (za rfl rfl (zc rfl) (za rfl rfl (zc rfl) (za rfl rfl (zal (n := 0) rfl ⟨_, _, rfl⟩ Tryz.runUnderlying33) (za rfl rfl (z1 rfl rfl rfl) (zg rfl (ze ?_))))))))))
  refine zl _ _ rfl rfl rfl rfl (fun hc1 => ?_) (fun hc1 => ?_)
  · replace hc1 := of_decide_eq_true hc1
    exfalso; omega
  · replace hc1 := of_decide_eq_false hc1
    refine zO rfl (zD (zz (zw (ze (zf _ _ rfl rfl rfl (zb rfl (za rfl rfl (zd rfl) (zg rfl (ze (zu rfl ?_))))))))))
    exact zk Tryz.results59 (.cons (zo rfl) .nil) rfl HSub.rfl' ⟨rfl, rfl⟩

set_option maxHeartbeats 4000000 in
set_option maxRecDepth 100000 in
theorem Apart_c (gb : Nat) (vTb vTw : Value) (KT : List (Kp TokD)) (WT : List (List TokD)) (hKT : KT.length ≤ 250) (hBT : ∀ x ∈ KT, x.l.length ≤ 1000000) (hWT : WT = KT.map (·.l)) :
    CD Tryz.prog 11 ([.bx gb 35 (zA vTb vTw), .sl vTb 1 36 (KT.map Kp.d), .sl vTw 1 36 (WT.map (D.ls 3 TokD.d))] ++ (KT.map (Kp.h 3 45 TokD.d))) [dP gb 0] (isR (dB true)) := by
  refine zH Tryz.func11 rfl (N := 191) rfl rfl (fun C => ?_)
  refine JD.keep [0] [(0, dP gb 0)] rfl (zf _ _ rfl rfl rfl (zb rfl (za rfl rfl (zd rfl) (zg rfl (ze (zf _ _ rfl rfl rfl (zf _ _ rfl rfl rfl (zb rfl (za rfl rfl (zc rfl) (zj rfl rfl (zx [.bx gb 35 (zA vTb vTw)] ([.sl vTb 1 36 (KT.map Kp.d), .sl vTw 1 36 (WT.map (D.ls 3 TokD.d))] ++ (KT.map (Kp.h 3 45 TokD.d))) [] rfl rfl (.cons ArgC.id .nil) zp Tryz.call20 (stillTexts_0 gb (dZ) (dZ) (dZ) (dZ) (dZ) (dZ) (dZ) (dZ) (dZ) (.ov vTb) (.ov vTw) (dZ) (dZ) (dZ) (dZ) (dZ) (dZ) (dZ) (dZ)) (.inl rfl)) ?_))))))))))
  rintro _ _ ⟨_, ⟨rfl, rfl⟩, rfl⟩
  refine OpsD.norm ([.bx gb 35 (zA vTb vTw), .sl vTb 1 36 (KT.map Kp.d), .sl vTw 1 36 (WT.map (D.ls 3 TokD.d))] ++ (KT.map (Kp.h 3 45 TokD.d))) rfl (za rfl rfl (zbr (q := true) rfl) (zg rfl (ze (zah _ rfl rfl rfl (zy rfl (ze (zf _ _ rfl rfl rfl (zf _ _ rfl rfl rfl (zb rfl (za rfl rfl (zc rfl) ?_))))))))))
  refine zj rfl rfl (zx [.bx gb 35 (zA vTb vTw)] ([.sl vTb 1 36 (KT.map Kp.d), .sl vTw 1 36 (WT.map (D.ls 3 TokD.d))] ++ (KT.map (Kp.h 3 45 TokD.d))) [] rfl rfl (.cons ArgC.id .nil) zp Tryz.call21 (stillInts_0 gb (dZ) (dZ) (dZ) (dZ) (dZ) (dZ) (dZ) (dZ) (dZ) (.ov vTb) (.ov vTw) (dZ) (dZ) (dZ) (dZ) (dZ) (dZ) (dZ) (dZ)) (.inl rfl)) ?_
  rintro _ _ ⟨_, ⟨rfl, rfl⟩, rfl⟩
  refine OpsD.norm ([.bx gb 35 (zA vTb vTw), .sl vTb 1 36 (KT.map Kp.d), .sl vTw 1 36 (WT.map (D.ls 3 TokD.d))] ++ (KT.map (Kp.h 3 45 TokD.d))) rfl (za rfl rfl (zbr (q := true) rfl) (zg rfl (ze (zah _ rfl rfl rfl (zy rfl (ze (zf _ _ rfl rfl rfl (zf _ _ rfl rfl rfl (zb rfl (za rfl rfl (zc rfl) ?_))))))))))
  refine zj rfl rfl (zx [.bx gb 35 (zA vTb vTw)] ([.sl vTb 1 36 (KT.map Kp.d), .sl vTw 1 36 (WT.map (D.ls 3 TokD.d))] ++ (KT.map (Kp.h 3 45 TokD.d))) [] rfl rfl (.cons ArgC.id .nil) zp Tryz.call22 (stillRunes_0 gb (dZ) (dZ) (dZ) (dZ) (dZ) (dZ) (dZ) (dZ) (dZ) (.ov vTb) (.ov vTw) (dZ) (dZ) (dZ) (dZ) (dZ) (dZ) (dZ) (dZ)) (.inl rfl)) ?_
  rintro _ _ ⟨_, ⟨rfl, rfl⟩, rfl⟩
  refine OpsD.norm ([.bx gb 35 (zA vTb vTw), .sl vTb 1 36 (KT.map Kp.d), .sl vTw 1 36 (WT.map (D.ls 3 TokD.d))] ++ (KT.map (Kp.h 3 45 TokD.d))) rfl (za rfl rfl (zbr (q := true) rfl) (zg rfl (ze (zah _ rfl rfl rfl (zy rfl (ze (JD.keep [0, 2] [(0, dP gb 0), (2, dB false)] rfl (zf _ _ rfl rfl rfl (zf _ _ rfl rfl rfl (zb rfl (za rfl rfl (zc rfl) ?_)))))))))))
  refine zj rfl rfl (zx [.bx gb 35 (zA vTb vTw)] ([.sl vTb 1 36 (KT.map Kp.d), .sl vTw 1 36 (WT.map (D.ls 3 TokD.d))] ++ (KT.map (Kp.h 3 45 TokD.d))) [] rfl rfl (.cons ArgC.id .nil) zp Tryz.call23 (stillLabels_0 gb (dZ) (dZ) (dZ) (dZ) (dZ) (dZ) (dZ) (dZ) (dZ) (.ov vTb) (.ov vTw) (dZ) (dZ) (dZ) (dZ) (dZ) (dZ) (dZ) (dZ)) (.inl rfl)) ?_
  rintro _ _ ⟨_, ⟨rfl, rfl⟩, rfl⟩
  refine OpsD.norm ([.bx gb 35 (zA vTb vTw), .sl vTb 1 36 (KT.map Kp.d), .sl vTw 1 36 (WT.map (D.ls 3 TokD.d))] ++ (KT.map (Kp.h 3 45 TokD.d))) rfl (za rfl rfl (zbr (q := true) rfl) (zg rfl (ze (zah _ rfl rfl rfl (zy rfl (ze (zf _ _ rfl rfl rfl (zf _ _ rfl rfl rfl (zb rfl (za rfl rfl (zc rfl) ?_))))))))))
  refine zj rfl rfl (zx [.bx gb 35 (zA vTb vTw)] ([.sl vTb 1 36 (KT.map Kp.d), .sl vTw 1 36 (WT.map (D.ls 3 TokD.d))] ++ (KT.map (Kp.h 3 45 TokD.d))) [] rfl rfl (.cons ArgC.id .nil) zp Tryz.call24 (stillPoints_0 gb (dZ) (dZ) (dZ) (dZ) (dZ) (dZ) (dZ) (dZ) (dZ) (.ov vTb) (.ov vTw) (dZ) (dZ) (dZ) (dZ) (dZ) (dZ) (dZ) (dZ)) (.inl rfl)) ?_
  rintro _ _ ⟨_, ⟨rfl, rfl⟩, rfl⟩
  refine OpsD.norm ([.bx gb 35 (zA vTb vTw), .sl vTb 1 36 (KT.map Kp.d), .sl vTw 1 36 (WT.map (D.ls 3 TokD.d))] ++ (KT.map (Kp.h 3 45 TokD.d))) rfl (za rfl rfl (zbr (q := true) rfl) (zg rfl (ze (zah _ rfl rfl rfl (zy rfl (ze (zf _ _ rfl rfl rfl (zf _ _ rfl rfl rfl (zb rfl (za rfl rfl (zc rfl) ?_))))))))))
  refine OpsD.subH (HSub.perm (zbB (A := [.bx gb 35 (zA vTb vTw), .sl vTb 1 36 (KT.map Kp.d), .sl vTw 1 36 (WT.map (D.ls 3 TokD.d))]) (B := []) (T := KT.map (Kp.h 3 45 TokD.d)))) ?_
  refine zj rfl rfl (zx ([.bx gb 35 (zA vTb vTw), .sl vTb 1 36 (KT.map Kp.d), .sl vTw 1 36 (WT.map (D.ls 3 TokD.d))] ++ (KT.map (Kp.h 3 45 TokD.d))) [] [] rfl rfl (.cons ArgC.id .nil) zp Tryz.call25 (stillTokens_c gb vTb vTw (dZ) (dZ) (dZ) (dZ) (dZ) (dZ) (dZ) (dZ) (dZ) (dZ) (dZ) (dZ) (dZ) (dZ) (dZ) (dZ) (dZ) (dZ) KT WT (by omega) hWT) (.inl rfl)) ?_
  rintro _ _ ⟨_, ⟨rfl, rfl⟩, rfl⟩
  refine OpsD.subH (HSub.perm (zbB (A := [.bx gb 35 (zA vTb vTw), .sl vTb 1 36 (KT.map Kp.d), .sl vTw 1 36 (WT.map (D.ls 3 TokD.d))]) (B := []) (T := KT.map (Kp.h 3 45 TokD.d))).symm) (OpsD.norm ([.bx gb 35 (zA vTb vTw), .sl vTb 1 36 (KT.map Kp.d), .sl vTw 1 36 (WT.map (D.ls 3 TokD.d))] ++ (KT.map (Kp.h 3 45 TokD.d))) rfl (za rfl rfl (zbr (q := true) rfl) (zg rfl (ze (zah _ rfl rfl rfl (zy rfl (ze (JD.keep [0, 2] [(0, dP gb 0), (2, dB false)] rfl ?_))))))))
  refine zf _ _ rfl rfl rfl (zf _ _ rfl rfl rfl (zb rfl (za rfl rfl (zc rfl) (zj rfl rfl (zx [.bx gb 35 (zA vTb vTw)] ([.sl vTb 1 36 (KT.map Kp.d), .sl vTw 1 36 (WT.map (D.ls 3 TokD.d))] ++ (KT.map (Kp.h 3 45 TokD.d))) [] rfl rfl (.cons ArgC.id .nil) zp Tryz.call26 (stillCursors_0 gb (dZ) (dZ) (dZ) (dZ) (dZ) (dZ) (dZ) (dZ) (dZ) (dZ) (.ov vTb) (.ov vTw) (dZ) (dZ) (dZ) (dZ) (dZ) (dZ) (dZ)) (.inl rfl)) ?_))))
  rintro _ _ ⟨_, ⟨rfl, rfl⟩, rfl⟩
  refine OpsD.norm ([.bx gb 35 (zA vTb vTw), .sl vTb 1 36 (KT.map Kp.d), .sl vTw 1 36 (WT.map (D.ls 3 TokD.d))] ++ (KT.map (Kp.h 3 45 TokD.d))) rfl (za rfl rfl (zbr (q := true) rfl) (zg rfl (ze (zah _ rfl rfl rfl (zy rfl (ze (zf _ _ rfl rfl rfl (zf _ _ rfl rfl rfl (zb rfl (za rfl rfl (zc rfl) ?_))))))))))
  refine zj rfl rfl (zx [.bx gb 35 (zA vTb vTw)] ([.sl vTb 1 36 (KT.map Kp.d), .sl vTw 1 36 (WT.map (D.ls 3 TokD.d))] ++ (KT.map (Kp.h 3 45 TokD.d))) [] rfl rfl (.cons ArgC.id .nil) zp Tryz.call27 (stillNotes_0 gb (dZ) (dZ) (dZ) (dZ) (dZ) (dZ) (dZ) (dZ) (dZ) (dZ) (.ov vTb) (.ov vTw) (dZ) (dZ) (dZ) (dZ) (dZ) (dZ) (dZ)) (.inl rfl)) ?_
  rintro _ _ ⟨_, ⟨rfl, rfl⟩, rfl⟩
  refine OpsD.norm ([.bx gb 35 (zA vTb vTw), .sl vTb 1 36 (KT.map Kp.d), .sl vTw 1 36 (WT.map (D.ls 3 TokD.d))] ++ (KT.map (Kp.h 3 45 TokD.d))) rfl (za rfl rfl (zbr (q := true) rfl) (zg rfl (ze (zah _ rfl rfl rfl (zy rfl (ze (zf _ _ rfl rfl rfl (zf _ _ rfl rfl rfl (zb rfl (za rfl rfl (zc rfl) ?_))))))))))
  refine zj rfl rfl (zx [.bx gb 35 (zA vTb vTw)] ([.sl vTb 1 36 (KT.map Kp.d), .sl vTw 1 36 (WT.map (D.ls 3 TokD.d))] ++ (KT.map (Kp.h 3 45 TokD.d))) [] rfl rfl (.cons ArgC.id .nil) zp Tryz.call28 (stillRows_0 gb (dZ) (dZ) (dZ) (dZ) (dZ) (dZ) (dZ) (dZ) (dZ) (dZ) (.ov vTb) (.ov vTw) (dZ) (dZ) (dZ) (dZ) (dZ) (dZ) (dZ)) (.inl rfl)) ?_
  rintro _ _ ⟨_, ⟨rfl, rfl⟩, rfl⟩
  refine OpsD.norm ([.bx gb 35 (zA vTb vTw), .sl vTb 1 36 (KT.map Kp.d), .sl vTw 1 36 (WT.map (D.ls 3 TokD.d))] ++ (KT.map (Kp.h 3 45 TokD.d))) rfl (za rfl rfl (zbr (q := true) rfl) (zg rfl (ze (zah _ rfl rfl rfl (zy rfl (ze (JD.keep [0, 2] [(0, dP gb 0), (2, dB false)] rfl (zf _ _ rfl rfl rfl (zf _ _ rfl rfl rfl (zb rfl (za rfl rfl (zc rfl) ?_)))))))))))
  refine zj rfl rfl (zx [.bx gb 35 (zA vTb vTw)] ([.sl vTb 1 36 (KT.map Kp.d), .sl vTw 1 36 (WT.map (D.ls 3 TokD.d))] ++ (KT.map (Kp.h 3 45 TokD.d))) [] rfl rfl (.cons ArgC.id .nil) zp Tryz.call29 (stillSeries_0 gb (dZ) (dZ) (dZ) (dZ) (dZ) (dZ) (dZ) (dZ) (dZ) (dZ) (.ov vTb) (.ov vTw) (dZ) (dZ) (dZ) (dZ) (dZ) (dZ) (dZ)) (.inl rfl)) ?_
  rintro _ _ ⟨_, ⟨rfl, rfl⟩, rfl⟩
  refine OpsD.norm ([.bx gb 35 (zA vTb vTw), .sl vTb 1 36 (KT.map Kp.d), .sl vTw 1 36 (WT.map (D.ls 3 TokD.d))] ++ (KT.map (Kp.h 3 45 TokD.d))) rfl (za rfl rfl (zbr (q := true) rfl) (zg rfl (ze (zah _ rfl rfl rfl (zy rfl (ze (zf _ _ rfl rfl rfl (zb rfl (za rfl rfl (zc rfl) ?_)))))))))
  refine zj rfl rfl (zx [.bx gb 35 (zA vTb vTw)] ([.sl vTb 1 36 (KT.map Kp.d), .sl vTw 1 36 (WT.map (D.ls 3 TokD.d))] ++ (KT.map (Kp.h 3 45 TokD.d))) [] rfl rfl (.cons ArgC.id .nil) zp Tryz.call30 (putRows_0 gb (dZ) (dZ) (dZ) (dZ) (dZ) (dZ) (dZ) (dZ) (dZ) (dZ) (.ov vTb) (.ov vTw) (dZ) (dZ) (dZ) (dZ) (dZ) (dZ) (dZ)) (.inl rfl)) ?_
  rintro _ _ ⟨_, ⟨rfl, rfl⟩, rfl⟩
  refine OpsD.norm ([.bx gb 35 (zA vTb vTw), .sl vTb 1 36 (KT.map Kp.d), .sl vTw 1 36 (WT.map (D.ls 3 TokD.d))] ++ (KT.map (Kp.h 3 45 TokD.d))) rfl (zg rfl (ze (zf _ _ rfl rfl rfl (zb rfl (za rfl rfl (zc rfl) ?_)))))
  refine zj rfl rfl (zx [.bx gb 35 (zA vTb vTw)] ([.sl vTb 1 36 (KT.map Kp.d), .sl vTw 1 36 (WT.map (D.ls 3 TokD.d))] ++ (KT.map (Kp.h 3 45 TokD.d))) [] rfl rfl (.cons ArgC.id .nil) zp Tryz.call31 (putSeries_0 gb (dZ) (dZ) (dZ) (dZ) (dZ) (dZ) (dZ) (dZ) (dZ) (dZ) (.ov vTb) (.ov vTw) (dZ) (dZ) (dZ) (dZ) (dZ) (dZ) (dZ)) (.inl rfl)) ?_
  rintro _ _ ⟨_, ⟨rfl, rfl⟩, rfl⟩
  refine OpsD.norm ([.bx gb 35 (zA vTb vTw), .sl vTb 1 36 (KT.map Kp.d), .sl vTw 1 36 (WT.map (D.ls 3 TokD.d))] ++ (KT.map (Kp.h 3 45 TokD.d))) rfl (zg rfl (ze (zf _ _ rfl rfl rfl (zb rfl (za rfl rfl (zc rfl) ?_)))))
  refine zj rfl rfl (zx [.bx gb 35 (zA vTb vTw)] ([.sl vTb 1 36 (KT.map Kp.d), .sl vTw 1 36 (WT.map (D.ls 3 TokD.d))] ++ (KT.map (Kp.h 3 45 TokD.d))) [] rfl rfl (.cons ArgC.id .nil) zp Tryz.call32 (putTexts_0 gb (dZ) (dZ) (dZ) (dZ) (dZ) (dZ) (dZ) (dZ) (dZ) (.ov vTb) (.ov vTw) (dZ) (dZ) (dZ) (dZ) (dZ) (dZ) (dZ) (dZ)) (.inl rfl)) ?_
  rintro _ _ ⟨_, ⟨rfl, rfl⟩, rfl⟩
  refine OpsD.norm ([.bx gb 35 (zA vTb vTw), .sl vTb 1 36 (KT.map Kp.d), .sl vTw 1 36 (WT.map (D.ls 3 TokD.d))] ++ (KT.map (Kp.h 3 45 TokD.d))) rfl (zg rfl (ze (JD.keep [0, 2] [(0, dP gb 0), (2, dB false)] rfl (zf _ _ rfl rfl rfl (zb rfl (za rfl rfl (zc rfl) ?_))))))
  refine zj rfl rfl (zx [.bx gb 35 (zA vTb vTw)] ([.sl vTb 1 36 (KT.map Kp.d), .sl vTw 1 36 (WT.map (D.ls 3 TokD.d))] ++ (KT.map (Kp.h 3 45 TokD.d))) [] rfl rfl (.cons ArgC.id .nil) zp Tryz.call33 (putInts_0 gb (dZ) (dZ) (dZ) (dZ) (dZ) (dZ) (dZ) (dZ) (dZ) (.ov vTb) (.ov vTw) (dZ) (dZ) (dZ) (dZ) (dZ) (dZ) (dZ) (dZ)) (.inl rfl)) ?_
  rintro _ _ ⟨_, ⟨rfl, rfl⟩, rfl⟩
  refine OpsD.norm ([.bx gb 35 (zA vTb vTw), .sl vTb 1 36 (KT.map Kp.d), .sl vTw 1 36 (WT.map (D.ls 3 TokD.d))] ++ (KT.map (Kp.h 3 45 TokD.d))) rfl (zg rfl (ze (zf _ _ rfl rfl rfl (zb rfl (za rfl rfl (zc rfl) ?_)))))
  refine zj rfl rfl (zx [.bx gb 35 (zA vTb vTw)] ([.sl vTb 1 36 (KT.map Kp.d), .sl vTw 1 36 (WT.map (D.ls 3 TokD.d))] ++ (KT.map (Kp.h 3 45 TokD.d))) [] rfl rfl (.cons ArgC.id .nil) zp Tryz.call34 (putRunes_0 gb (dZ) (dZ) (dZ) (dZ) (dZ) (dZ) (dZ) (dZ) (dZ) (.ov vTb) (.ov vTw) (dZ) (dZ) (dZ) (dZ) (dZ) (dZ) (dZ) (dZ)) (.inl rfl)) ?_
  rintro _ _ ⟨_, ⟨rfl, rfl⟩, rfl⟩
  refine OpsD.norm ([.bx gb 35 (zA vTb vTw), .sl vTb 1 36 (KT.map Kp.d), .sl vTw 1 36 (WT.map (D.ls 3 TokD.d))] ++ (KT.map (Kp.h 3 45 TokD.d))) rfl (zg rfl (ze (zf _ _ rfl rfl rfl (zb rfl (za rfl rfl (zc rfl) ?_)))))
  refine zj rfl rfl (zx [.bx gb 35 (zA vTb vTw)] ([.sl vTb 1 36 (KT.map Kp.d), .sl vTw 1 36 (WT.map (D.ls 3 TokD.d))] ++ (KT.map (Kp.h 3 45 TokD.d))) [] rfl rfl (.cons ArgC.id .nil) zp Tryz.call35 (putLabels_0 gb (dZ) (dZ) (dZ) (dZ) (dZ) (dZ) (dZ) (dZ) (dZ) (.ov vTb) (.ov vTw) (dZ) (dZ) (dZ) (dZ) (dZ) (dZ) (dZ) (dZ)) (.inl rfl)) ?_
  rintro _ _ ⟨_, ⟨rfl, rfl⟩, rfl⟩
  refine OpsD.norm ([.bx gb 35 (zA vTb vTw), .sl vTb 1 36 (KT.map Kp.d), .sl vTw 1 36 (WT.map (D.ls 3 TokD.d))] ++ (KT.map (Kp.h 3 45 TokD.d))) rfl (zg rfl (ze (zf _ _ rfl rfl rfl (zb rfl (za rfl rfl (zc rfl) ?_)))))
  refine zj rfl rfl (zx [.bx gb 35 (zA vTb vTw)] ([.sl vTb 1 36 (KT.map Kp.d), .sl vTw 1 36 (WT.map (D.ls 3 TokD.d))] ++ (KT.map (Kp.h 3 45 TokD.d))) [] rfl rfl (.cons ArgC.id .nil) zp Tryz.call36 (putPoints_0 gb (dZ) (dZ) (dZ) (dZ) (dZ) (dZ) (dZ) (dZ) (dZ) (.ov vTb) (.ov vTw) (dZ) (dZ) (dZ) (dZ) (dZ) (dZ) (dZ) (dZ)) (.inl rfl)) ?_
  rintro _ _ ⟨_, ⟨rfl, rfl⟩, rfl⟩
  refine OpsD.norm ([.bx gb 35 (zA vTb vTw), .sl vTb 1 36 (KT.map Kp.d), .sl vTw 1 36 (WT.map (D.ls 3 TokD.d))] ++ (KT.map (Kp.h 3 45 TokD.d))) rfl (zg rfl (ze (zf _ _ rfl rfl rfl (zb rfl (za rfl rfl (zc rfl) ?_)))))
  refine OpsD.subH (HSub.perm (zbB (A := [.bx gb 35 (zA vTb vTw), .sl vTb 1 36 (KT.map Kp.d)]) (B := [.sl vTw 1 36 (WT.map (D.ls 3 TokD.d))]) (T := KT.map (Kp.h 3 45 TokD.d)))) ?_
  refine zj rfl rfl (zx ([.bx gb 35 (zA vTb vTw), .sl vTb 1 36 (KT.map Kp.d)] ++ (KT.map (Kp.h 3 45 TokD.d))) [.sl vTw 1 36 (WT.map (D.ls 3 TokD.d))] [] rfl rfl (.cons ArgC.id .nil) zp Tryz.call37 (putTokens_c gb vTb vTw (dZ) (dZ) (dZ) (dZ) (dZ) (dZ) (dZ) (dZ) (dZ) (dZ) (dZ) (dZ) (dZ) (dZ) (dZ) (dZ) (dZ) (dZ) KT (by omega) hBT) (.inl rfl)) ?_
  rintro _ _ ⟨_, ⟨rfl, rfl⟩, rfl⟩
  refine OpsD.subH (HSub.perm (zbB (A := [.bx gb 35 (zA vTb vTw), .sl vTb 1 36 (KT.map Kp.d)]) (B := [.sl vTw 1 36 (WT.map (D.ls 3 TokD.d))]) (T := (putK gT KT).map (Kp.h 3 45 TokD.d))).symm) (OpsD.norm ([.bx gb 35 (zA vTb vTw), .sl vTb 1 36 (KT.map Kp.d), .sl vTw 1 36 (WT.map (D.ls 3 TokD.d))] ++ ((putK gT KT).map (Kp.h 3 45 TokD.d))) rfl (zg rfl (ze (JD.keep [0, 2] [(0, dP gb 0), (2, dB false)] rfl ?_))))
  refine zf _ _ rfl rfl rfl (zb rfl (za rfl rfl (zc rfl) (zj rfl rfl (zx [.bx gb 35 (zA vTb vTw)] ([.sl vTb 1 36 (KT.map Kp.d), .sl vTw 1 36 (WT.map (D.ls 3 TokD.d))] ++ ((putK gT KT).map (Kp.h 3 45 TokD.d))) [] rfl rfl (.cons ArgC.id .nil) zp Tryz.call38 (putCursors_0 gb (dZ) (dZ) (dZ) (dZ) (dZ) (dZ) (dZ) (dZ) (dZ) (dZ) (.ov vTb) (.ov vTw) (dZ) (dZ) (dZ) (dZ) (dZ) (dZ) (dZ)) (.inl rfl)) ?_)))
  rintro _ _ ⟨_, ⟨rfl, rfl⟩, rfl⟩
  refine OpsD.norm ([.bx gb 35 (zA vTb vTw), .sl vTb 1 36 (KT.map Kp.d), .sl vTw 1 36 (WT.map (D.ls 3 TokD.d))] ++ ((putK gT KT).map (Kp.h 3 45 TokD.d))) rfl (zg rfl (ze (zf _ _ rfl rfl rfl (zb rfl (za rfl rfl (zc rfl) ?_)))))
  refine zj rfl rfl (zx [.bx gb 35 (zA vTb vTw)] ([.sl vTb 1 36 (KT.map Kp.d), .sl vTw 1 36 (WT.map (D.ls 3 TokD.d))] ++ ((putK gT KT).map (Kp.h 3 45 TokD.d))) [] rfl rfl (.cons ArgC.id .nil) zp Tryz.call39 (putNotes_0 gb (dZ) (dZ) (dZ) (dZ) (dZ) (dZ) (dZ) (dZ) (dZ) (dZ) (.ov vTb) (.ov vTw) (dZ) (dZ) (dZ) (dZ) (dZ) (dZ) (dZ)) (.inl rfl)) ?_
  rintro _ _ ⟨_, ⟨rfl, rfl⟩, rfl⟩
  refine OpsD.norm ([.bx gb 35 (zA vTb vTw), .sl vTb 1 36 (KT.map Kp.d), .sl vTw 1 36 (WT.map (D.ls 3 TokD.d))] ++ ((putK gT KT).map (Kp.h 3 45 TokD.d))) rfl (zg rfl (ze (zf _ _ rfl rfl rfl (zb rfl (za rfl rfl (zc rfl) ?_)))))
  refine zj rfl rfl (zx [.bx gb 35 (zA vTb vTw)] ([.sl vTb 1 36 (KT.map Kp.d), .sl vTw 1 36 (WT.map (D.ls 3 TokD.d))] ++ ((putK gT KT).map (Kp.h 3 45 TokD.d))) [] rfl rfl (.cons ArgC.id .nil) zp Tryz.call40 (growTexts_0 gb (dZ) (dZ) (dZ) (dZ) (dZ) (dZ) (dZ) (dZ) (dZ) (.ov vTb) (.ov vTw) (dZ) (dZ) (dZ) (dZ) (dZ) (dZ) (dZ) (dZ)) (.inl rfl)) ?_
  rintro _ _ ⟨_, ⟨rfl, rfl⟩, rfl⟩
  refine OpsD.norm ([.bx gb 35 (zA vTb vTw), .sl vTb 1 36 (KT.map Kp.d), .sl vTw 1 36 (WT.map (D.ls 3 TokD.d))] ++ ((putK gT KT).map (Kp.h 3 45 TokD.d))) rfl (za rfl rfl (zd rfl) (zg rfl (ze (zf _ _ rfl rfl rfl (zb rfl (za rfl rfl (zc rfl) ?_))))))
  refine zj rfl rfl (zx [.bx gb 35 (zA vTb vTw)] ([.sl vTb 1 36 (KT.map Kp.d), .sl vTw 1 36 (WT.map (D.ls 3 TokD.d))] ++ ((putK gT KT).map (Kp.h 3 45 TokD.d))) [] rfl rfl (.cons ArgC.id .nil) zp Tryz.call41 (growInts_0 gb (dZ) (dZ) (dZ) (dZ) (dZ) (dZ) (dZ) (dZ) (dZ) (.ov vTb) (.ov vTw) (dZ) (dZ) (dZ) (dZ) (dZ) (dZ) (dZ) (dZ)) (.inl rfl)) ?_
  rintro _ _ ⟨_, ⟨rfl, rfl⟩, rfl⟩
  refine OpsD.norm ([.bx gb 35 (zA vTb vTw), .sl vTb 1 36 (KT.map Kp.d), .sl vTw 1 36 (WT.map (D.ls 3 TokD.d))] ++ ((putK gT KT).map (Kp.h 3 45 TokD.d))) rfl (za rfl rfl (zd rfl) (zg rfl (ze (zf _ _ rfl rfl rfl (zb rfl (za rfl rfl (zc rfl) ?_))))))
  refine zj rfl rfl (zx [.bx gb 35 (zA vTb vTw)] ([.sl vTb 1 36 (KT.map Kp.d), .sl vTw 1 36 (WT.map (D.ls 3 TokD.d))] ++ ((putK gT KT).map (Kp.h 3 45 TokD.d))) [] rfl rfl (.cons ArgC.id .nil) zp Tryz.call42 (growRunes_0 gb (dZ) (dZ) (dZ) (dZ) (dZ) (dZ) (dZ) (dZ) (dZ) (.ov vTb) (.ov vTw) (dZ) (dZ) (dZ) (dZ) (dZ) (dZ) (dZ) (dZ)) (.inl rfl)) ?_
  rintro _ _ ⟨_, ⟨rfl, rfl⟩, rfl⟩
  refine OpsD.norm ([.bx gb 35 (zA vTb vTw), .sl vTb 1 36 (KT.map Kp.d), .sl vTw 1 36 (WT.map (D.ls 3 TokD.d))] ++ ((putK gT KT).map (Kp.h 3 45 TokD.d))) rfl (za rfl rfl (zd rfl) (zg rfl (ze (JD.keep [0, 2, 3, 4, 5] [(0, dP gb 0), (2, dB false), (3, dZ), (4, dZ), (5, dZ)] rfl (zf _ _ rfl rfl rfl (zb rfl (za rfl rfl (zc rfl) ?_)))))))
  refine zj rfl rfl (zx [.bx gb 35 (zA vTb vTw)] ([.sl vTb 1 36 (KT.map Kp.d), .sl vTw 1 36 (WT.map (D.ls 3 TokD.d))] ++ ((putK gT KT).map (Kp.h 3 45 TokD.d))) [] rfl rfl (.cons ArgC.id .nil) zp Tryz.call43 (growLabels_0 gb (dZ) (dZ) (dZ) (dZ) (dZ) (dZ) (dZ) (dZ) (dZ) (.ov vTb) (.ov vTw) (dZ) (dZ) (dZ) (dZ) (dZ) (dZ) (dZ) (dZ)) (.inl rfl)) ?_
  rintro _ _ ⟨_, ⟨rfl, rfl⟩, rfl⟩
  refine OpsD.norm ([.bx gb 35 (zA vTb vTw), .sl vTb 1 36 (KT.map Kp.d), .sl vTw 1 36 (WT.map (D.ls 3 TokD.d))] ++ ((putK gT KT).map (Kp.h 3 45 TokD.d))) rfl (za rfl rfl (zd rfl) (zg rfl (ze (zf _ _ rfl rfl rfl (zb rfl (za rfl rfl (zc rfl) ?_))))))
  refine zj rfl rfl (zx [.bx gb 35 (zA vTb vTw)] ([.sl vTb 1 36 (KT.map Kp.d), .sl vTw 1 36 (WT.map (D.ls 3 TokD.d))] ++ ((putK gT KT).map (Kp.h 3 45 TokD.d))) [] rfl rfl (.cons ArgC.id .nil) zp Tryz.call44 (growPoints_0 gb (dZ) (dZ) (dZ) (dZ) (dZ) (dZ) (dZ) (dZ) (dZ) (.ov vTb) (.ov vTw) (dZ) (dZ) (dZ) (dZ) (dZ) (dZ) (dZ) (dZ)) (.inl rfl)) ?_
  rintro _ _ ⟨_, ⟨rfl, rfl⟩, rfl⟩
  refine OpsD.norm ([.bx gb 35 (zA vTb vTw), .sl vTb 1 36 (KT.map Kp.d), .sl vTw 1 36 (WT.map (D.ls 3 TokD.d))] ++ ((putK gT KT).map (Kp.h 3 45 TokD.d))) rfl (za rfl rfl (zd rfl) (zg rfl (ze (zf _ _ rfl rfl rfl (zb rfl (za rfl rfl (zc rfl) ?_))))))
  refine OpsD.norm ([.bx gb 35 (zA vTb vTw), .sl vTb 1 36 ((putK gT KT).map Kp.d), .sl vTw 1 36 (WT.map (D.ls 3 TokD.d))] ++ ((putK gT KT).map (Kp.h 3 45 TokD.d))) (by rw [putK_d]) (OpsD.subH (HSub.perm (zbB (A := [.bx gb 35 (zA vTb vTw), .sl vTb 1 36 ((putK gT KT).map Kp.d)]) (B := [.sl vTw 1 36 (WT.map (D.ls 3 TokD.d))]) (T := (putK gT KT).map (Kp.h 3 45 TokD.d)))) ?_)
  refine zj rfl rfl (zx ([.bx gb 35 (zA vTb vTw), .sl vTb 1 36 ((putK gT KT).map Kp.d)] ++ ((putK gT KT).map (Kp.h 3 45 TokD.d))) [.sl vTw 1 36 (WT.map (D.ls 3 TokD.d))] [] rfl rfl (.cons ArgC.id .nil) zp Tryz.call45 (growTokens_c gb vTb vTw (dZ) (dZ) (dZ) (dZ) (dZ) (dZ) (dZ) (dZ) (dZ) (dZ) (dZ) (dZ) (dZ) (dZ) (dZ) (dZ) (dZ) (dZ) (putK gT KT) (by rw [putK_len]; omega) (putK_light hBT) putK_marked) (.inl rfl)) ?_
  rintro _ _ ⟨_, ⟨goT, GT, rfl, rfl, hGT⟩, rfl⟩
  refine OpsD.subH (HSub.perm (zbB (A := [.bx gb 35 (zA vTb vTw), .sl vTb 1 36 (GT.map K2.d0), .sl goT 1 36 (GT.map K2.d1)]) (B := [.sl vTw 1 36 (WT.map (D.ls 3 TokD.d))]) (T := GT.map (K2.h 3 45 TokD.d))).symm) (OpsD.norm ([.bx gb 35 (zA vTb vTw), .sl vTb 1 36 (GT.map K2.d0), .sl goT 1 36 (GT.map K2.d1), .sl vTw 1 36 (WT.map (D.ls 3 TokD.d))] ++ (GT.map (K2.h 3 45 TokD.d))) rfl (za rfl rfl (zd rfl) (zg rfl (ze ?_))))
  refine zf _ _ rfl rfl rfl (zb rfl (za rfl rfl (zc rfl) ?_))
  refine zj rfl rfl (zx [.bx gb 35 (zA vTb vTw)] ([.sl vTb 1 36 (GT.map K2.d0), .sl goT 1 36 (GT.map K2.d1), .sl vTw 1 36 (WT.map (D.ls 3 TokD.d))] ++ (GT.map (K2.h 3 45 TokD.d))) [] rfl rfl (.cons ArgC.id .nil) zp Tryz.call46 (growCursors_0 gb (dZ) (dZ) (dZ) (dZ) (dZ) (dZ) (dZ) (dZ) (dZ) (dZ) (.ov vTb) (.ov vTw) (dZ) (dZ) (dZ) (dZ) (dZ) (dZ) (dZ)) (.inl rfl)) ?_
  rintro _ _ ⟨_, ⟨rfl, rfl⟩, rfl⟩
  refine OpsD.norm ([.bx gb 35 (zA vTb vTw), .sl vTb 1 36 (GT.map K2.d0), .sl goT 1 36 (GT.map K2.d1), .sl vTw 1 36 (WT.map (D.ls 3 TokD.d))] ++ (GT.map (K2.h 3 45 TokD.d))) rfl (za rfl rfl (zd rfl) (zg rfl (ze (zf _ _ rfl rfl rfl (zb rfl (za rfl rfl (zc rfl) ?_))))))
  refine zj rfl rfl (zx [.bx gb 35 (zA vTb vTw)] ([.sl vTb 1 36 (GT.map K2.d0), .sl goT 1 36 (GT.map K2.d1), .sl vTw 1 36 (WT.map (D.ls 3 TokD.d))] ++ (GT.map (K2.h 3 45 TokD.d))) [] rfl rfl (.cons ArgC.id .nil) zp Tryz.call47 (growNotes_0 gb (dZ) (dZ) (dZ) (dZ) (dZ) (dZ) (dZ) (dZ) (dZ) (dZ) (.ov vTb) (.ov vTw) (dZ) (dZ) (dZ) (dZ) (dZ) (dZ) (dZ)) (.inl rfl)) ?_
  rintro _ _ ⟨_, ⟨rfl, rfl⟩, rfl⟩
  refine OpsD.norm ([.bx gb 35 (zA vTb vTw), .sl vTb 1 36 (GT.map K2.d0), .sl goT 1 36 (GT.map K2.d1), .sl vTw 1 36 (WT.map (D.ls 3 TokD.d))] ++ (GT.map (K2.h 3 45 TokD.d))) rfl (za rfl rfl (zd rfl) (zg rfl (ze (JD.keep [0, 2, 3, 4, 5, 6, 7, 8, 9, 10] [(0, dP gb 0), (2, dB false), (3, dZ), (4, dZ), (5, dZ), (6, dZ), (7, dZ), (8, .ov goT), (9, dZ), (10, dZ)] rfl (zf _ _ rfl rfl rfl (zb rfl (za rfl rfl (zc rfl) ?_)))))))
  refine zj rfl rfl (zx [.bx gb 35 (zA vTb vTw)] ([.sl vTb 1 36 (GT.map K2.d0), .sl goT 1 36 (GT.map K2.d1), .sl vTw 1 36 (WT.map (D.ls 3 TokD.d))] ++ (GT.map (K2.h 3 45 TokD.d))) [] rfl rfl (.cons ArgC.id .nil) zp Tryz.call48 (growRows_0 gb (dZ) (dZ) (dZ) (dZ) (dZ) (dZ) (dZ) (dZ) (dZ) (dZ) (.ov vTb) (.ov vTw) (dZ) (dZ) (dZ) (dZ) (dZ) (dZ) (dZ)) (.inl rfl)) ?_
  rintro _ _ ⟨_, ⟨rfl, rfl⟩, rfl⟩
  refine OpsD.norm ([.bx gb 35 (zA vTb vTw), .sl vTb 1 36 (GT.map K2.d0), .sl goT 1 36 (GT.map K2.d1), .sl vTw 1 36 (WT.map (D.ls 3 TokD.d))] ++ (GT.map (K2.h 3 45 TokD.d))) rfl (za rfl rfl (zd rfl) (zg rfl (ze (zf _ _ rfl rfl rfl (zb rfl (za rfl rfl (zc rfl) ?_))))))
  refine zj rfl rfl (zx [.bx gb 35 (zA vTb vTw)] ([.sl vTb 1 36 (GT.map K2.d0), .sl goT 1 36 (GT.map K2.d1), .sl vTw 1 36 (WT.map (D.ls 3 TokD.d))] ++ (GT.map (K2.h 3 45 TokD.d))) [] rfl rfl (.cons ArgC.id .nil) zp Tryz.call49 (growSeries_0 gb (dZ) (dZ) (dZ) (dZ) (dZ) (dZ) (dZ) (dZ) (dZ) (dZ) (.ov vTb) (.ov vTw) (dZ) (dZ) (dZ) (dZ) (dZ) (dZ) (dZ)) (.inl rfl)) ?_
  rintro _ _ ⟨_, ⟨rfl, rfl⟩, rfl⟩
  refine OpsD.norm ([.bx gb 35 (zA vTb vTw), .sl vTb 1 36 (GT.map K2.d0), .sl goT 1 36 (GT.map K2.d1), .sl vTw 1 36 (WT.map (D.ls 3 TokD.d))] ++ (GT.map (K2.h 3 45 TokD.d))) rfl (za rfl rfl (zd rfl) (zg rfl (ze (zf _ _ rfl rfl rfl (zb rfl (za rfl rfl (zc rfl) ?_))))))
  refine zj rfl rfl (zx [] ([.bx gb 35 (zA vTb vTw), .sl vTb 1 36 (GT.map K2.d0), .sl goT 1 36 (GT.map K2.d1), .sl vTw 1 36 (WT.map (D.ls 3 TokD.d))] ++ (GT.map (K2.h 3 45 TokD.d))) [] rfl rfl (.cons ArgC.id .nil) zp Tryz.call50 (markedTexts_0) (.inl rfl)) ?_
  rintro _ _ ⟨_, ⟨rfl, rfl⟩, rfl⟩
  refine OpsD.norm ([.bx gb 35 (zA vTb vTw), .sl vTb 1 36 (GT.map K2.d0), .sl goT 1 36 (GT.map K2.d1), .sl vTw 1 36 (WT.map (D.ls 3 TokD.d))] ++ (GT.map (K2.h 3 45 TokD.d))) rfl (za rfl rfl (zc rfl) (zh rfl rfl rfl rfl rfl (zc rfl) (zh rfl rfl rfl rfl rfl (zI rfl) (zh rfl rfl rfl rfl rfl (zE rfl fa_35_0 rfl) (zh rfl rfl rfl rfl rfl (zL rfl (i := 0) rfl Tryz.isAgg24 rfl) ?_)))))
  refine zat rfl rfl rfl rfl rfl (zx [] ([.bx gb 35 (zA vTb vTw), .sl vTb 1 36 (GT.map K2.d0), .sl goT 1 36 (GT.map K2.d1), .sl vTw 1 36 (WT.map (D.ls 3 TokD.d))] ++ (GT.map (K2.h 3 45 TokD.d))) [] rfl rfl (.cons ArgC.id .nil) zp Tryz.call50 (markedTexts_0) (.inl rfl)) ?_
  rintro _ _ ⟨_, ⟨rfl, rfl⟩, rfl⟩
  refine OpsD.norm ([.bx gb 35 (zA vTb vTw), .sl vTb 1 36 (GT.map K2.d0), .sl goT 1 36 (GT.map K2.d1), .sl vTw 1 36 (WT.map (D.ls 3 TokD.d))] ++ (GT.map (K2.h 3 45 TokD.d))) rfl (za rfl rfl (zr rfl rfl) (za rfl rfl (zc rfl) (zh rfl rfl rfl rfl rfl (zc rfl) (zat rfl rfl rfl rfl rfl (zx [] ([.bx gb 35 (zA vTb vTw), .sl vTb 1 36 (GT.map K2.d0), .sl goT 1 36 (GT.map K2.d1), .sl vTw 1 36 (WT.map (D.ls 3 TokD.d))] ++ (GT.map (K2.h 3 45 TokD.d))) [] rfl rfl (.cons ArgC.id .nil) zp Tryz.call51 (markedInts_0) (.inl rfl)) ?_))))
  rintro _ _ ⟨_, ⟨rfl, rfl⟩, rfl⟩
  refine OpsD.norm ([.bx gb 35 (zA vTb vTw), .sl vTb 1 36 (GT.map K2.d0), .sl goT 1 36 (GT.map K2.d1), .sl vTw 1 36 (WT.map (D.ls 3 TokD.d))] ++ (GT.map (K2.h 3 45 TokD.d))) rfl (za rfl rfl (zr rfl rfl) (za rfl rfl (zc rfl) (zh rfl rfl rfl rfl rfl (zc rfl) (zh rfl rfl rfl rfl rfl (zI rfl) (zh rfl rfl rfl rfl rfl (zE rfl zc3 rfl) (zh rfl rfl rfl rfl rfl (zL rfl (i := 0) rfl Tryz.isAgg25 rfl) ?_))))))
  refine zat rfl rfl rfl rfl rfl (zx [] ([.bx gb 35 (zA vTb vTw), .sl vTb 1 36 (GT.map K2.d0), .sl goT 1 36 (GT.map K2.d1), .sl vTw 1 36 (WT.map (D.ls 3 TokD.d))] ++ (GT.map (K2.h 3 45 TokD.d))) [] rfl rfl (.cons ArgC.id .nil) zp Tryz.call51 (markedInts_0) (.inl rfl)) ?_
  rintro _ _ ⟨_, ⟨rfl, rfl⟩, rfl⟩
  refine OpsD.norm ([.bx gb 35 (zA vTb vTw), .sl vTb 1 36 (GT.map K2.d0), .sl goT 1 36 (GT.map K2.d1), .sl vTw 1 36 (WT.map (D.ls 3 TokD.d))] ++ (GT.map (K2.h 3 45 TokD.d))) rfl (za rfl rfl (zr rfl rfl) (za rfl rfl (zc rfl) (zh rfl rfl rfl rfl rfl (zc rfl) (zat rfl rfl rfl rfl rfl (zx [] ([.bx gb 35 (zA vTb vTw), .sl vTb 1 36 (GT.map K2.d0), .sl goT 1 36 (GT.map K2.d1), .sl vTw 1 36 (WT.map (D.ls 3 TokD.d))] ++ (GT.map (K2.h 3 45 TokD.d))) [] rfl rfl (.cons ArgC.id .nil) zp Tryz.call52 (markedRunes_0) (.inl rfl)) ?_))))
  rintro _ _ ⟨_, ⟨rfl, rfl⟩, rfl⟩
  refine OpsD.norm ([.bx gb 35 (zA vTb vTw), .sl vTb 1 36 (GT.map K2.d0), .sl goT 1 36 (GT.map K2.d1), .sl vTw 1 36 (WT.map (D.ls 3 TokD.d))] ++ (GT.map (K2.h 3 45 TokD.d))) rfl (za rfl rfl (zr rfl rfl) (za rfl rfl (zc rfl) (zh rfl rfl rfl rfl rfl (zc rfl) (zh rfl rfl rfl rfl rfl (zI rfl) (zh rfl rfl rfl rfl rfl (zE rfl fa_35_4 rfl) (zh rfl rfl rfl rfl rfl (zL rfl (i := 0) rfl Tryz.isAgg26 rfl) ?_))))))
  refine zat rfl rfl rfl rfl rfl (zx [] ([.bx gb 35 (zA vTb vTw), .sl vTb 1 36 (GT.map K2.d0), .sl goT 1 36 (GT.map K2.d1), .sl vTw 1 36 (WT.map (D.ls 3 TokD.d))] ++ (GT.map (K2.h 3 45 TokD.d))) [] rfl rfl (.cons ArgC.id .nil) zp Tryz.call52 (markedRunes_0) (.inl rfl)) ?_
  rintro _ _ ⟨_, ⟨rfl, rfl⟩, rfl⟩
  refine OpsD.norm ([.bx gb 35 (zA vTb vTw), .sl vTb 1 36 (GT.map K2.d0), .sl goT 1 36 (GT.map K2.d1), .sl vTw 1 36 (WT.map (D.ls 3 TokD.d))] ++ (GT.map (K2.h 3 45 TokD.d))) rfl (za rfl rfl (zr rfl rfl) (za rfl rfl (zc rfl) (zh rfl rfl rfl rfl rfl (zc rfl) (zat rfl rfl rfl rfl rfl (zx [] ([.bx gb 35 (zA vTb vTw), .sl vTb 1 36 (GT.map K2.d0), .sl goT 1 36 (GT.map K2.d1), .sl vTw 1 36 (WT.map (D.ls 3 TokD.d))] ++ (GT.map (K2.h 3 45 TokD.d))) [] rfl rfl (.cons ArgC.id .nil) zp Tryz.call53 (markedLabels_0) (.inl rfl)) ?_))))
  rintro _ _ ⟨_, ⟨rfl, rfl⟩, rfl⟩
  refine OpsD.norm ([.bx gb 35 (zA vTb vTw), .sl vTb 1 36 (GT.map K2.d0), .sl goT 1 36 (GT.map K2.d1), .sl vTw 1 36 (WT.map (D.ls 3 TokD.d))] ++ (GT.map (K2.h 3 45 TokD.d))) rfl (za rfl rfl (zr rfl rfl) (za rfl rfl (zc rfl) (zh rfl rfl rfl rfl rfl (zc rfl) (zh rfl rfl rfl rfl rfl (zI rfl) (zh rfl rfl rfl rfl rfl (zE rfl fa_35_6 rfl) (zh rfl rfl rfl rfl rfl (zL rfl (i := 0) rfl Tryz.isAgg27 rfl) ?_))))))
  refine zat rfl rfl rfl rfl rfl (zx [] ([.bx gb 35 (zA vTb vTw), .sl vTb 1 36 (GT.map K2.d0), .sl goT 1 36 (GT.map K2.d1), .sl vTw 1 36 (WT.map (D.ls 3 TokD.d))] ++ (GT.map (K2.h 3 45 TokD.d))) [] rfl rfl (.cons ArgC.id .nil) zp Tryz.call53 (markedLabels_0) (.inl rfl)) ?_
  rintro _ _ ⟨_, ⟨rfl, rfl⟩, rfl⟩
  refine OpsD.norm ([.bx gb 35 (zA vTb vTw), .sl vTb 1 36 (GT.map K2.d0), .sl goT 1 36 (GT.map K2.d1), .sl vTw 1 36 (WT.map (D.ls 3 TokD.d))] ++ (GT.map (K2.h 3 45 TokD.d))) rfl (za rfl rfl (zr rfl rfl) (za rfl rfl (zc rfl) (zh rfl rfl rfl rfl rfl (zc rfl) (zat rfl rfl rfl rfl rfl (zx [] ([.bx gb 35 (zA vTb vTw), .sl vTb 1 36 (GT.map K2.d0), .sl goT 1 36 (GT.map K2.d1), .sl vTw 1 36 (WT.map (D.ls 3 TokD.d))] ++ (GT.map (K2.h 3 45 TokD.d))) [] rfl rfl (.cons ArgC.id .nil) zp Tryz.call54 (markedPoints_0) (.inl rfl)) ?_))))
  rintro _ _ ⟨_, ⟨rfl, rfl⟩, rfl⟩
  refine OpsD.norm ([.bx gb 35 (zA vTb vTw), .sl vTb 1 36 (GT.map K2.d0), .sl goT 1 36 (GT.map K2.d1), .sl vTw 1 36 (WT.map (D.ls 3 TokD.d))] ++ (GT.map (K2.h 3 45 TokD.d))) rfl (za rfl rfl (zr rfl rfl) (za rfl rfl (zc rfl) (zh rfl rfl rfl rfl rfl (zc rfl) (zh rfl rfl rfl rfl rfl (zI rfl) (zh rfl rfl rfl rfl rfl (zE rfl fa_35_8 rfl) (zh rfl rfl rfl rfl rfl (zL rfl (i := 0) rfl Tryz.isAgg28 rfl) ?_))))))
  refine zat rfl rfl rfl rfl rfl (zx [] ([.bx gb 35 (zA vTb vTw), .sl vTb 1 36 (GT.map K2.d0), .sl goT 1 36 (GT.map K2.d1), .sl vTw 1 36 (WT.map (D.ls 3 TokD.d))] ++ (GT.map (K2.h 3 45 TokD.d))) [] rfl rfl (.cons ArgC.id .nil) zp Tryz.call54 (markedPoints_0) (.inl rfl)) ?_
  rintro _ _ ⟨_, ⟨rfl, rfl⟩, rfl⟩
  refine OpsD.norm ([.bx gb 35 (zA vTb vTw), .sl vTb 1 36 (GT.map K2.d0), .sl goT 1 36 (GT.map K2.d1), .sl vTw 1 36 (WT.map (D.ls 3 TokD.d))] ++ (GT.map (K2.h 3 45 TokD.d))) rfl (za rfl rfl (zr rfl rfl) (za rfl rfl (zc rfl) (zh rfl rfl rfl rfl rfl (zc rfl) (OpsD.subH (HSub.perm (zm (i := 2) rfl)) (OpsD.norm ([.sl goT 1 36 (GT.map K2.d1), .bx gb 35 (zA vTb vTw), .sl vTb 1 36 (GT.map K2.d0), .sl vTw 1 36 (WT.map (D.ls 3 TokD.d))] ++ (GT.map (K2.h 3 45 TokD.d))) rfl ?_)))))
  refine OpsD.subH (HSub.perm (zbB (A := [.sl goT 1 36 (GT.map K2.d1)]) (B := [.bx gb 35 (zA vTb vTw), .sl vTb 1 36 (GT.map K2.d0), .sl vTw 1 36 (WT.map (D.ls 3 TokD.d))]) (T := GT.map (K2.h 3 45 TokD.d)))) (zat rfl rfl rfl rfl rfl (zx ([.sl goT 1 36 (GT.map K2.d1)] ++ (GT.map (K2.h 3 45 TokD.d))) [.bx gb 35 (zA vTb vTw), .sl vTb 1 36 (GT.map K2.d0), .sl vTw 1 36 (WT.map (D.ls 3 TokD.d))] [] rfl rfl (.cons ArgC.id .nil) zp Tryz.call55 (markedTokensN_c goT GT (by have e := hGT.len; rw [putK_len] at e; omega) hGT.at_) (.inl rfl)) ?_)
  rintro _ _ ⟨_, ⟨rfl, rfl⟩, rfl⟩
  refine OpsD.subH (HSub.perm (zbB (A := [.sl goT 1 36 (GT.map K2.d1)]) (B := [.bx gb 35 (zA vTb vTw), .sl vTb 1 36 (GT.map K2.d0), .sl vTw 1 36 (WT.map (D.ls 3 TokD.d))]) (T := GT.map (K2.h 3 45 TokD.d))).symm) (OpsD.norm ([.sl goT 1 36 (GT.map K2.d1), .bx gb 35 (zA vTb vTw), .sl vTb 1 36 (GT.map K2.d0), .sl vTw 1 36 (WT.map (D.ls 3 TokD.d))] ++ (GT.map (K2.h 3 45 TokD.d))) rfl (za rfl rfl (zr rfl rfl) (za rfl rfl (zc rfl) (zh rfl rfl rfl rfl rfl (zc rfl) (zh rfl rfl rfl rfl rfl (zI rfl) (zh rfl rfl rfl rfl rfl (zE rfl za6 rfl) ?_))))))
  refine zh rfl rfl rfl rfl rfl (zL rfl (i := 1) rfl Tryz.isAgg29 rfl) (OpsD.subH (HSub.perm (zm (i := 2) rfl)) (OpsD.norm ([.sl vTb 1 36 (GT.map K2.d0), .sl goT 1 36 (GT.map K2.d1), .bx gb 35 (zA vTb vTw), .sl vTw 1 36 (WT.map (D.ls 3 TokD.d))] ++ (GT.map (K2.h 3 45 TokD.d))) rfl (OpsD.subH (HSub.perm (zbB (A := [.sl vTb 1 36 (GT.map K2.d0)]) (B := [.sl goT 1 36 (GT.map K2.d1), .bx gb 35 (zA vTb vTw), .sl vTw 1 36 (WT.map (D.ls 3 TokD.d))]) (T := GT.map (K2.h 3 45 TokD.d)))) ?_)))
  refine zat rfl rfl rfl rfl rfl (zx ([.sl vTb 1 36 (GT.map K2.d0)] ++ (GT.map (K2.h 3 45 TokD.d))) [.sl goT 1 36 (GT.map K2.d1), .bx gb 35 (zA vTb vTw), .sl vTw 1 36 (WT.map (D.ls 3 TokD.d))] [] rfl rfl (.cons ArgC.id .nil) zp Tryz.call55 (markedTokensW_c vTb GT (by have e := hGT.len; rw [putK_len] at e; omega) hGT.at_) (.inl rfl)) ?_
  rintro _ _ ⟨_, ⟨rfl, rfl⟩, rfl⟩
  refine OpsD.subH (HSub.perm (zbB (A := [.sl vTb 1 36 (GT.map K2.d0)]) (B := [.sl goT 1 36 (GT.map K2.d1), .bx gb 35 (zA vTb vTw), .sl vTw 1 36 (WT.map (D.ls 3 TokD.d))]) (T := GT.map (K2.h 3 45 TokD.d))).symm) (OpsD.norm ([.sl vTb 1 36 (GT.map K2.d0), .sl goT 1 36 (GT.map K2.d1), .bx gb 35 (zA vTb vTw), .sl vTw 1 36 (WT.map (D.ls 3 TokD.d))] ++ (GT.map (K2.h 3 45 TokD.d))) rfl (za rfl rfl (zr rfl rfl) (za rfl rfl (zc rfl) (zh rfl rfl rfl rfl rfl (zc rfl) ?_))))
  refine zat rfl rfl rfl rfl rfl (zx [] ([.sl vTb 1 36 (GT.map K2.d0), .sl goT 1 36 (GT.map K2.d1), .bx gb 35 (zA vTb vTw), .sl vTw 1 36 (WT.map (D.ls 3 TokD.d))] ++ (GT.map (K2.h 3 45 TokD.d))) [] rfl rfl (.cons ArgC.id .nil) zp Tryz.call56 (markedCursors_0) (.inl rfl)) ?_
  rintro _ _ ⟨_, ⟨rfl, rfl⟩, rfl⟩
  refine OpsD.norm ([.sl vTb 1 36 (GT.map K2.d0), .sl goT 1 36 (GT.map K2.d1), .bx gb 35 (zA vTb vTw), .sl vTw 1 36 (WT.map (D.ls 3 TokD.d))] ++ (GT.map (K2.h 3 45 TokD.d))) rfl (za rfl rfl (zr rfl rfl) (za rfl rfl (zc rfl) (zh rfl rfl rfl rfl rfl (zc rfl) (zh rfl rfl rfl rfl rfl (zI rfl) (zh rfl rfl rfl rfl rfl (zE rfl fa_35_12 rfl) (zh rfl rfl rfl rfl rfl (zL rfl (i := 2) rfl Tryz.isAgg30 rfl) ?_))))))
  refine zat rfl rfl rfl rfl rfl (zx [] ([.sl vTb 1 36 (GT.map K2.d0), .sl goT 1 36 (GT.map K2.d1), .bx gb 35 (zA vTb vTw), .sl vTw 1 36 (WT.map (D.ls 3 TokD.d))] ++ (GT.map (K2.h 3 45 TokD.d))) [] rfl rfl (.cons ArgC.id .nil) zp Tryz.call56 (markedCursors_0) (.inl rfl)) ?_
  rintro _ _ ⟨_, ⟨rfl, rfl⟩, rfl⟩
  refine OpsD.norm ([.sl vTb 1 36 (GT.map K2.d0), .sl goT 1 36 (GT.map K2.d1), .bx gb 35 (zA vTb vTw), .sl vTw 1 36 (WT.map (D.ls 3 TokD.d))] ++ (GT.map (K2.h 3 45 TokD.d))) rfl (za rfl rfl (zr rfl rfl) (za rfl rfl (zc rfl) (zh rfl rfl rfl rfl rfl (zc rfl) (zat rfl rfl rfl rfl rfl (zx [] ([.sl vTb 1 36 (GT.map K2.d0), .sl goT 1 36 (GT.map K2.d1), .bx gb 35 (zA vTb vTw), .sl vTw 1 36 (WT.map (D.ls 3 TokD.d))] ++ (GT.map (K2.h 3 45 TokD.d))) [] rfl rfl (.cons ArgC.id .nil) zp Tryz.call57 (markedNotes_0) (.inl rfl)) ?_))))
  rintro _ _ ⟨_, ⟨rfl, rfl⟩, rfl⟩
  refine OpsD.norm ([.sl vTb 1 36 (GT.map K2.d0), .sl goT 1 36 (GT.map K2.d1), .bx gb 35 (zA vTb vTw), .sl vTw 1 36 (WT.map (D.ls 3 TokD.d))] ++ (GT.map (K2.h 3 45 TokD.d))) rfl (za rfl rfl (zr rfl rfl) (za rfl rfl (zc rfl) (zh rfl rfl rfl rfl rfl (zc rfl) (zh rfl rfl rfl rfl rfl (zI rfl) (zh rfl rfl rfl rfl rfl (zE rfl fa_35_14 rfl) (zh rfl rfl rfl rfl rfl (zL rfl (i := 2) rfl Tryz.isAgg31 rfl) ?_))))))
  refine zat rfl rfl rfl rfl rfl (zx [] ([.sl vTb 1 36 (GT.map K2.d0), .sl goT 1 36 (GT.map K2.d1), .bx gb 35 (zA vTb vTw), .sl vTw 1 36 (WT.map (D.ls 3 TokD.d))] ++ (GT.map (K2.h 3 45 TokD.d))) [] rfl rfl (.cons ArgC.id .nil) zp Tryz.call57 (markedNotes_0) (.inl rfl)) ?_
  rintro _ _ ⟨_, ⟨rfl, rfl⟩, rfl⟩
  refine OpsD.norm ([.sl vTb 1 36 (GT.map K2.d0), .sl goT 1 36 (GT.map K2.d1), .bx gb 35 (zA vTb vTw), .sl vTw 1 36 (WT.map (D.ls 3 TokD.d))] ++ (GT.map (K2.h 3 45 TokD.d))) rfl (za rfl rfl (zr rfl rfl) (za rfl rfl (zc rfl) (zh rfl rfl rfl rfl rfl (zc rfl) (zat rfl rfl rfl rfl rfl (zx [] ([.sl vTb 1 36 (GT.map K2.d0), .sl goT 1 36 (GT.map K2.d1), .bx gb 35 (zA vTb vTw), .sl vTw 1 36 (WT.map (D.ls 3 TokD.d))] ++ (GT.map (K2.h 3 45 TokD.d))) [] rfl rfl (.cons ArgC.id .nil) zp Tryz.call58 (markedRows_0) (.inl rfl)) ?_))))
  rintro _ _ ⟨_, ⟨rfl, rfl⟩, rfl⟩
  refine OpsD.norm ([.sl vTb 1 36 (GT.map K2.d0), .sl goT 1 36 (GT.map K2.d1), .bx gb 35 (zA vTb vTw), .sl vTw 1 36 (WT.map (D.ls 3 TokD.d))] ++ (GT.map (K2.h 3 45 TokD.d))) rfl (za rfl rfl (zr rfl rfl) (za rfl rfl (zc rfl) (zh rfl rfl rfl rfl rfl (zc rfl) (zh rfl rfl rfl rfl rfl (zI rfl) (zh rfl rfl rfl rfl rfl (zE rfl zcz rfl) (zh rfl rfl rfl rfl rfl (zL rfl (i := 2) rfl Tryz.isAgg32 rfl) ?_))))))
  refine zat rfl rfl rfl rfl rfl (zx [] ([.sl vTb 1 36 (GT.map K2.d0), .sl goT 1 36 (GT.map K2.d1), .bx gb 35 (zA vTb vTw), .sl vTw 1 36 (WT.map (D.ls 3 TokD.d))] ++ (GT.map (K2.h 3 45 TokD.d))) [] rfl rfl (.cons ArgC.id .nil) zp Tryz.call58 (markedRows_0) (.inl rfl)) ?_
  rintro _ _ ⟨_, ⟨rfl, rfl⟩, rfl⟩
  refine OpsD.norm ([.sl vTb 1 36 (GT.map K2.d0), .sl goT 1 36 (GT.map K2.d1), .bx gb 35 (zA vTb vTw), .sl vTw 1 36 (WT.map (D.ls 3 TokD.d))] ++ (GT.map (K2.h 3 45 TokD.d))) rfl (za rfl rfl (zr rfl rfl) (za rfl rfl (zc rfl) (zh rfl rfl rfl rfl rfl (zc rfl) (zat rfl rfl rfl rfl rfl (zx [] ([.sl vTb 1 36 (GT.map K2.d0), .sl goT 1 36 (GT.map K2.d1), .bx gb 35 (zA vTb vTw), .sl vTw 1 36 (WT.map (D.ls 3 TokD.d))] ++ (GT.map (K2.h 3 45 TokD.d))) [] rfl rfl (.cons ArgC.id .nil) zp Tryz.call59 (markedSeries_0) (.inl rfl)) ?_))))
  rintro _ _ ⟨_, ⟨rfl, rfl⟩, rfl⟩
  refine OpsD.norm ([.sl vTb 1 36 (GT.map K2.d0), .sl goT 1 36 (GT.map K2.d1), .bx gb 35 (zA vTb vTw), .sl vTw 1 36 (WT.map (D.ls 3 TokD.d))] ++ (GT.map (K2.h 3 45 TokD.d))) rfl (za rfl rfl (zr rfl rfl) (za rfl rfl (zc rfl) (zh rfl rfl rfl rfl rfl (zc rfl) (zh rfl rfl rfl rfl rfl (zI rfl) (zh rfl rfl rfl rfl rfl (zE rfl fa_35_18 rfl) (zh rfl rfl rfl rfl rfl (zL rfl (i := 2) rfl Tryz.isAgg33 rfl) ?_))))))
  refine zat rfl rfl rfl rfl rfl (zx [] ([.sl vTb 1 36 (GT.map K2.d0), .sl goT 1 36 (GT.map K2.d1), .bx gb 35 (zA vTb vTw), .sl vTw 1 36 (WT.map (D.ls 3 TokD.d))] ++ (GT.map (K2.h 3 45 TokD.d))) [] rfl rfl (.cons ArgC.id .nil) zp Tryz.call59 (markedSeries_0) (.inl rfl)) ?_
  rintro _ _ ⟨_, ⟨rfl, rfl⟩, rfl⟩
  refine OpsD.norm ([.sl vTb 1 36 (GT.map K2.d0), .sl goT 1 36 (GT.map K2.d1), .bx gb 35 (zA vTb vTw), .sl vTw 1 36 (WT.map (D.ls 3 TokD.d))] ++ (GT.map (K2.h 3 45 TokD.d))) rfl (za rfl rfl (zr rfl rfl) (za rfl rfl (zd rfl) (zg rfl (ze (JD.keep [2] [(2, dB true)] rfl (zu rfl ?_))))))
  exact zk Tryz.results11 (.cons (zo rfl) .nil) rfl HSub.none ⟨rfl, rfl⟩
end Lp
