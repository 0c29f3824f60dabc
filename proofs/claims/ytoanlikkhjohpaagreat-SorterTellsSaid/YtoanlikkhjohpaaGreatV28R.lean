/- Walks, printed by a program of mine. -/
import Derived.Test.YtoanlikkhjohpaaGreatV27
set_option linter.unusedSimpArgs false
set_option linter.unusedVariables false
namespace Lp
open Go Go.RowKit Go.Proofs
abbrev zz (a16 a17 : Value) : D := .agg [dZ, dZ, dZ, dZ, dZ, dZ, dZ, dZ, dZ, dZ, dZ, dZ, dZ, dZ, dZ, dZ, .ov a16, .ov a17, dZ, dZ]

namespace HdYtoanlikkhjohpaaGreatV28R
theorem fa_38_0 (b o : Nat) : ∀ w, (Instr.fieldAt 38 (.pointer (some ⟨b, o, none⟩)) 0).run Tryz.prog w = .ok (.pointer (some ⟨b, o + 0, none⟩)) w := fun _ => by kernel_rfl
theorem fa_38_10 (b o : Nat) : ∀ w, (Instr.fieldAt 38 (.pointer (some ⟨b, o, none⟩)) 10).run Tryz.prog w = .ok (.pointer (some ⟨b, o + 10, none⟩)) w := fun _ => by kernel_rfl
theorem fa_38_12 (b o : Nat) : ∀ w, (Instr.fieldAt 38 (.pointer (some ⟨b, o, none⟩)) 12).run Tryz.prog w = .ok (.pointer (some ⟨b, o + 12, none⟩)) w := fun _ => by kernel_rfl
theorem fa_38_14 (b o : Nat) : ∀ w, (Instr.fieldAt 38 (.pointer (some ⟨b, o, none⟩)) 14).run Tryz.prog w = .ok (.pointer (some ⟨b, o + 14, none⟩)) w := fun _ => by kernel_rfl
theorem zbg (b o : Nat) : ∀ w, (Instr.fieldAt 38 (.pointer (some ⟨b, o, none⟩)) 16).run Tryz.prog w = .ok (.pointer (some ⟨b, o + 16, none⟩)) w := fun _ => by kernel_rfl
theorem fa_38_18 (b o : Nat) : ∀ w, (Instr.fieldAt 38 (.pointer (some ⟨b, o, none⟩)) 18).run Tryz.prog w = .ok (.pointer (some ⟨b, o + 18, none⟩)) w := fun _ => by kernel_rfl
theorem zc9 (b o : Nat) : ∀ w, (Instr.fieldAt 38 (.pointer (some ⟨b, o, none⟩)) 2).run Tryz.prog w = .ok (.pointer (some ⟨b, o + 2, none⟩)) w := fun _ => by kernel_rfl
theorem fa_38_4 (b o : Nat) : ∀ w, (Instr.fieldAt 38 (.pointer (some ⟨b, o, none⟩)) 4).run Tryz.prog w = .ok (.pointer (some ⟨b, o + 4, none⟩)) w := fun _ => by kernel_rfl
theorem fa_38_6 (b o : Nat) : ∀ w, (Instr.fieldAt 38 (.pointer (some ⟨b, o, none⟩)) 6).run Tryz.prog w = .ok (.pointer (some ⟨b, o + 6, none⟩)) w := fun _ => by kernel_rfl
theorem fa_38_8 (b o : Nat) : ∀ w, (Instr.fieldAt 38 (.pointer (some ⟨b, o, none⟩)) 8).run Tryz.prog w = .ok (.pointer (some ⟨b, o + 8, none⟩)) w := fun _ => by kernel_rfl
end HdYtoanlikkhjohpaaGreatV28R
open HdYtoanlikkhjohpaaGreatV28R

set_option maxHeartbeats 4000000 in
set_option maxRecDepth 100000 in
theorem stillTexts_0 (gb : Nat) (c1 c2 c3 c4 c5 c6 c7 c8 c9 c10 c11 c12 c13 c14 c15 c16 c17 c18 c19 : D)  :
    CD Tryz.prog 49 [.bx gb 38 (.agg [dZ, c1, c2, c3, c4, c5, c6, c7, c8, c9, c10, c11, c12, c13, c14, c15, c16, c17, c18, c19])] [dP gb 0] (fun r H' => r = dB true ∧ H' = [.bx gb 38 (.agg [dZ, c1, c2, c3, c4, c5, c6, c7, c8, c9, c10, c11, c12, c13, c14, c15, c16, c17, c18, c19])]) := by
  refine zA Tryz.func49 rfl (N := 29) rfl rfl (fun C => ?_)
  refine JD.keep [0] [(0, dP gb 0)] rfl (zd _ _ rfl rfl rfl (zb rfl (za rfl rfl (zg rfl) (zf rfl (ze (zd _ _ rfl rfl rfl (zd _ _ rfl rfl rfl (zb rfl (za rfl rfl (zg rfl) (zf rfl (ze (zu _ rfl rfl (zM (fun (g : Unit) => [(0, dP gb 0), (3, dI 0)]) (fun (g : Unit) => [.bx gb 38 (.agg [dZ, c1, c2, c3, c4, c5, c6, c7, c8, c9, c10, c11, c12, c13, c14, c15, c16, c17, c18, c19])]) (fun (g : Unit) => True) (fun (g : Unit) => 0) _ () rfl rfl ⟨sk rfl, sk rfl, trivial⟩ HSub.rfl' trivial ?_)))))))))))))
  rintro _ _
  refine JD.keep [0, 3] [(0, dP gb 0), (3, dI 0)] rfl (JD.norm [.bx gb 38 (.agg [dZ, c1, c2, c3, c4, c5, c6, c7, c8, c9, c10, c11, c12, c13, c14, c15, c16, c17, c18, c19])] rfl (zd _ _ rfl rfl rfl (zd _ _ rfl rfl rfl (zb rfl (za rfl rfl (zc rfl) (za rfl rfl (zc rfl) (za rfl rfl (zs rfl) (za rfl rfl (zh rfl fa_38_0 rfl) (za rfl rfl (zm rfl (i := 0) rfl Tryz.isAgg27 rfl) (za rfl rfl (zam (n := 0) rfl ⟨_, _, rfl⟩ Tryz.runUnderlying27) (za rfl rfl (zU rfl rfl rfl) (zf rfl (ze ?_)))))))))))))
  refine zy _ _ rfl rfl rfl rfl (fun hc1 => ?_) (fun hc1 => ?_)
  · replace hc1 := of_decide_eq_true hc1
    exfalso; omega
  · replace hc1 := of_decide_eq_false hc1
    refine zN rfl (zw (zt (zq (ze (JD.keep [] [] rfl (zd _ _ rfl rfl rfl (zb rfl (za rfl rfl (zg rfl) (zf rfl (ze (zH rfl ?_)))))))))))
    exact zG Tryz.results49 (.cons (zI rfl) .nil) rfl HSub.rfl' ⟨rfl, rfl⟩

set_option maxHeartbeats 4000000 in
set_option maxRecDepth 100000 in
theorem putTexts_0 (gb : Nat) (c1 c2 c3 c4 c5 c6 c7 c8 c9 c10 c11 c12 c13 c14 c15 c16 c17 c18 c19 : D)  :
    CD Tryz.prog 61 [.bx gb 38 (.agg [dZ, c1, c2, c3, c4, c5, c6, c7, c8, c9, c10, c11, c12, c13, c14, c15, c16, c17, c18, c19])] [dP gb 0] (fun r H' => r = .tup [] ∧ H' = [.bx gb 38 (.agg [dZ, c1, c2, c3, c4, c5, c6, c7, c8, c9, c10, c11, c12, c13, c14, c15, c16, c17, c18, c19])]) := by
  refine zA Tryz.func61 rfl (N := 43) rfl rfl (fun C => ?_)
  refine JD.keep [0] [(0, dP gb 0)] rfl (zd _ _ rfl rfl rfl (zb rfl (za rfl rfl (zg rfl) (zf rfl (ze (zu _ rfl rfl (zM (fun (g : Unit) => [(0, dP gb 0), (2, dI 0)]) (fun (g : Unit) => [.bx gb 38 (.agg [dZ, c1, c2, c3, c4, c5, c6, c7, c8, c9, c10, c11, c12, c13, c14, c15, c16, c17, c18, c19])]) (fun (g : Unit) => True) (fun (g : Unit) => 0) _ () rfl rfl ⟨sk rfl, sk rfl, trivial⟩ HSub.rfl' trivial ?_)))))))
  rintro _ _
  refine JD.keep [0, 2] [(0, dP gb 0), (2, dI 0)] rfl (JD.norm [.bx gb 38 (.agg [dZ, c1, c2, c3, c4, c5, c6, c7, c8, c9, c10, c11, c12, c13, c14, c15, c16, c17, c18, c19])] rfl (zd _ _ rfl rfl rfl (zd _ _ rfl rfl rfl (zb rfl (za rfl rfl (zc rfl) (za rfl rfl (zc rfl) (za rfl rfl (zs rfl) (za rfl rfl (zh rfl fa_38_0 rfl) (za rfl rfl (zm rfl (i := 0) rfl Tryz.isAgg27 rfl) (za rfl rfl (zam (n := 0) rfl ⟨_, _, rfl⟩ Tryz.runUnderlying27) (za rfl rfl (zU rfl rfl rfl) (zf rfl (ze ?_)))))))))))))
  refine zy _ _ rfl rfl rfl rfl (fun hc1 => ?_) (fun hc1 => ?_)
  · replace hc1 := of_decide_eq_true hc1
    exfalso; omega
  · replace hc1 := of_decide_eq_false hc1
    refine zN rfl (zw (zt (zq ?_)))
    exact zaO Tryz.results61 .nil rfl HSub.rfl' ⟨rfl, rfl⟩

set_option maxHeartbeats 4000000 in
set_option maxRecDepth 100000 in
theorem growTexts_0 (gb : Nat) (c1 c2 c3 c4 c5 c6 c7 c8 c9 c10 c11 c12 c13 c14 c15 c16 c17 c18 c19 : D)  :
    CD Tryz.prog 69 [.bx gb 38 (.agg [dZ, c1, c2, c3, c4, c5, c6, c7, c8, c9, c10, c11, c12, c13, c14, c15, c16, c17, c18, c19])] [dP gb 0] (fun r H' => r = dZ ∧ H' = [.bx gb 38 (.agg [dZ, c1, c2, c3, c4, c5, c6, c7, c8, c9, c10, c11, c12, c13, c14, c15, c16, c17, c18, c19])]) := by
  refine zA Tryz.func69 rfl (N := 43) rfl rfl (fun C => ?_)
  refine JD.keep [0] [(0, dP gb 0)] rfl (zd _ _ rfl rfl rfl (zb rfl (za rfl rfl (zg rfl) (zf rfl (ze (zd _ _ rfl rfl rfl (zb rfl (za rfl rfl (zg rfl) (zf rfl (ze (zd _ _ rfl rfl rfl (zd _ _ rfl rfl rfl (zb rfl (za rfl rfl (zg rfl) (zf rfl (ze (zu _ rfl rfl (zM (fun (g : Unit) => [(0, dP gb 0), (2, dZ), (4, dI 0), (3, dZ)]) (fun (g : Unit) => [.bx gb 38 (.agg [dZ, c1, c2, c3, c4, c5, c6, c7, c8, c9, c10, c11, c12, c13, c14, c15, c16, c17, c18, c19])]) (fun (g : Unit) => True) (fun (g : Unit) => 0) _ () rfl rfl ⟨sk rfl, sk rfl, sk rfl, sk rfl, trivial⟩ HSub.rfl' trivial ?_))))))))))))))))))
  rintro _ _
  refine JD.keep [0, 2, 4, 3] [(0, dP gb 0), (2, dZ), (4, dI 0), (3, dZ)] rfl (JD.norm [.bx gb 38 (.agg [dZ, c1, c2, c3, c4, c5, c6, c7, c8, c9, c10, c11, c12, c13, c14, c15, c16, c17, c18, c19])] rfl (zd _ _ rfl rfl rfl (zd _ _ rfl rfl rfl (zb rfl (za rfl rfl (zc rfl) (za rfl rfl (zc rfl) (za rfl rfl (zs rfl) (za rfl rfl (zh rfl fa_38_0 rfl) (za rfl rfl (zm rfl (i := 0) rfl Tryz.isAgg27 rfl) (za rfl rfl (zam (n := 0) rfl ⟨_, _, rfl⟩ Tryz.runUnderlying27) (za rfl rfl (zU rfl rfl rfl) (zf rfl (ze ?_)))))))))))))
  refine zy _ _ rfl rfl rfl rfl (fun hc1 => ?_) (fun hc1 => ?_)
  · replace hc1 := of_decide_eq_true hc1
    exfalso; omega
  · replace hc1 := of_decide_eq_false hc1
    refine zN rfl (zw (zt (zq (ze (JD.keep [2, 3] [(2, dZ), (3, dZ)] rfl (zd _ _ rfl rfl rfl (zb rfl (za rfl rfl (zc rfl) (za rfl rfl (zg rfl) (zf rfl (ze (zH rfl ?_))))))))))))
    exact zG Tryz.results69 (.cons (zI rfl) .nil) rfl HSub.rfl' ⟨rfl, rfl⟩

set_option maxHeartbeats 4000000 in
set_option maxRecDepth 100000 in
theorem markedTexts_0   :
    CD Tryz.prog 79 [] [dZ] (isR (dB true)) := by
  refine zA Tryz.func79 rfl (N := 23) rfl rfl (fun C => ?_)
  refine JD.keep [0] [(0, dZ)] rfl (zd _ _ rfl rfl rfl (zb rfl (za rfl rfl (zg rfl) (zf rfl (ze (zd _ _ rfl rfl rfl (zd _ _ rfl rfl rfl (zb rfl (za rfl rfl (zg rfl) (zf rfl (ze (zu _ rfl rfl (zM (fun (g : Unit) => [(0, dZ), (3, dI 0)]) (fun (g : Unit) => []) (fun (g : Unit) => True) (fun (g : Unit) => 0) _ () rfl rfl ⟨sk rfl, sk rfl, trivial⟩ HSub.rfl' trivial ?_)))))))))))))
  rintro _ _
  refine JD.keep [0, 3] [(0, dZ), (3, dI 0)] rfl (JD.norm [] rfl (zd _ _ rfl rfl rfl (zd _ _ rfl rfl rfl (zb rfl (za rfl rfl (zc rfl) (za rfl rfl (zc rfl) (za rfl rfl (zam (n := 0) rfl ⟨_, _, rfl⟩ Tryz.runUnderlying27) (za rfl rfl (zU rfl rfl rfl) (zf rfl (ze ?_))))))))))
  refine zy _ _ rfl rfl rfl rfl (fun hc1 => ?_) (fun hc1 => ?_)
  · replace hc1 := of_decide_eq_true hc1
    exfalso; omega
  · replace hc1 := of_decide_eq_false hc1
    refine zN rfl (zw (zt (zq (ze (zd _ _ rfl rfl rfl (zb rfl (za rfl rfl (zg rfl) (zf rfl (ze (zH rfl ?_))))))))))
    exact zG Tryz.results79 (.cons (zI rfl) .nil) rfl HSub.rfl' ⟨rfl, rfl⟩

set_option maxHeartbeats 4000000 in
set_option maxRecDepth 100000 in
theorem stillInts_0 (gb : Nat) (c0 c1 c3 c4 c5 c6 c7 c8 c9 c10 c11 c12 c13 c14 c15 c16 c17 c18 c19 : D)  :
    CD Tryz.prog 50 [.bx gb 38 (.agg [c0, c1, dZ, c3, c4, c5, c6, c7, c8, c9, c10, c11, c12, c13, c14, c15, c16, c17, c18, c19])] [dP gb 0] (fun r H' => r = dB true ∧ H' = [.bx gb 38 (.agg [c0, c1, dZ, c3, c4, c5, c6, c7, c8, c9, c10, c11, c12, c13, c14, c15, c16, c17, c18, c19])]) := by
  refine zA Tryz.func50 rfl (N := 29) rfl rfl (fun C => ?_)
  refine JD.keep [0] [(0, dP gb 0)] rfl (zd _ _ rfl rfl rfl (zb rfl (za rfl rfl (zg rfl) (zf rfl (ze (zd _ _ rfl rfl rfl (zd _ _ rfl rfl rfl (zb rfl (za rfl rfl (zg rfl) (zf rfl (ze (zu _ rfl rfl (zM (fun (g : Unit) => [(0, dP gb 0), (3, dI 0)]) (fun (g : Unit) => [.bx gb 38 (.agg [c0, c1, dZ, c3, c4, c5, c6, c7, c8, c9, c10, c11, c12, c13, c14, c15, c16, c17, c18, c19])]) (fun (g : Unit) => True) (fun (g : Unit) => 0) _ () rfl rfl ⟨sk rfl, sk rfl, trivial⟩ HSub.rfl' trivial ?_)))))))))))))
  rintro _ _
  refine JD.keep [0, 3] [(0, dP gb 0), (3, dI 0)] rfl (JD.norm [.bx gb 38 (.agg [c0, c1, dZ, c3, c4, c5, c6, c7, c8, c9, c10, c11, c12, c13, c14, c15, c16, c17, c18, c19])] rfl (zd _ _ rfl rfl rfl (zd _ _ rfl rfl rfl (zb rfl (za rfl rfl (zc rfl) (za rfl rfl (zc rfl) (za rfl rfl (zs rfl) (za rfl rfl (zh rfl zc9 rfl) (za rfl rfl (zm rfl (i := 0) rfl Tryz.isAgg28 rfl) (za rfl rfl (zam (n := 0) rfl ⟨_, _, rfl⟩ Tryz.runUnderlying28) (za rfl rfl (zU rfl rfl rfl) (zf rfl (ze ?_)))))))))))))
  refine zy _ _ rfl rfl rfl rfl (fun hc1 => ?_) (fun hc1 => ?_)
  · replace hc1 := of_decide_eq_true hc1
    exfalso; omega
  · replace hc1 := of_decide_eq_false hc1
    refine zN rfl (zw (zt (zq (ze (JD.keep [] [] rfl (zd _ _ rfl rfl rfl (zb rfl (za rfl rfl (zg rfl) (zf rfl (ze (zH rfl ?_)))))))))))
    exact zG Tryz.results50 (.cons (zI rfl) .nil) rfl HSub.rfl' ⟨rfl, rfl⟩

set_option maxHeartbeats 4000000 in
set_option maxRecDepth 100000 in
theorem putInts_0 (gb : Nat) (c0 c1 c3 c4 c5 c6 c7 c8 c9 c10 c11 c12 c13 c14 c15 c16 c17 c18 c19 : D)  :
    CD Tryz.prog 62 [.bx gb 38 (.agg [c0, c1, dZ, c3, c4, c5, c6, c7, c8, c9, c10, c11, c12, c13, c14, c15, c16, c17, c18, c19])] [dP gb 0] (fun r H' => r = .tup [] ∧ H' = [.bx gb 38 (.agg [c0, c1, dZ, c3, c4, c5, c6, c7, c8, c9, c10, c11, c12, c13, c14, c15, c16, c17, c18, c19])]) := by
  refine zA Tryz.func62 rfl (N := 43) rfl rfl (fun C => ?_)
  refine JD.keep [0] [(0, dP gb 0)] rfl (zd _ _ rfl rfl rfl (zb rfl (za rfl rfl (zg rfl) (zf rfl (ze (zu _ rfl rfl (zM (fun (g : Unit) => [(0, dP gb 0), (2, dI 0)]) (fun (g : Unit) => [.bx gb 38 (.agg [c0, c1, dZ, c3, c4, c5, c6, c7, c8, c9, c10, c11, c12, c13, c14, c15, c16, c17, c18, c19])]) (fun (g : Unit) => True) (fun (g : Unit) => 0) _ () rfl rfl ⟨sk rfl, sk rfl, trivial⟩ HSub.rfl' trivial ?_)))))))
  rintro _ _
  refine JD.keep [0, 2] [(0, dP gb 0), (2, dI 0)] rfl (JD.norm [.bx gb 38 (.agg [c0, c1, dZ, c3, c4, c5, c6, c7, c8, c9, c10, c11, c12, c13, c14, c15, c16, c17, c18, c19])] rfl (zd _ _ rfl rfl rfl (zd _ _ rfl rfl rfl (zb rfl (za rfl rfl (zc rfl) (za rfl rfl (zc rfl) (za rfl rfl (zs rfl) (za rfl rfl (zh rfl zc9 rfl) (za rfl rfl (zm rfl (i := 0) rfl Tryz.isAgg28 rfl) (za rfl rfl (zam (n := 0) rfl ⟨_, _, rfl⟩ Tryz.runUnderlying28) (za rfl rfl (zU rfl rfl rfl) (zf rfl (ze ?_)))))))))))))
  refine zy _ _ rfl rfl rfl rfl (fun hc1 => ?_) (fun hc1 => ?_)
  · replace hc1 := of_decide_eq_true hc1
    exfalso; omega
  · replace hc1 := of_decide_eq_false hc1
    refine zN rfl (zw (zt (zq ?_)))
    exact zaO Tryz.results62 .nil rfl HSub.rfl' ⟨rfl, rfl⟩

set_option maxHeartbeats 4000000 in
set_option maxRecDepth 100000 in
theorem growInts_0 (gb : Nat) (c0 c1 c3 c4 c5 c6 c7 c8 c9 c10 c11 c12 c13 c14 c15 c16 c17 c18 c19 : D)  :
    CD Tryz.prog 70 [.bx gb 38 (.agg [c0, c1, dZ, c3, c4, c5, c6, c7, c8, c9, c10, c11, c12, c13, c14, c15, c16, c17, c18, c19])] [dP gb 0] (fun r H' => r = dZ ∧ H' = [.bx gb 38 (.agg [c0, c1, dZ, c3, c4, c5, c6, c7, c8, c9, c10, c11, c12, c13, c14, c15, c16, c17, c18, c19])]) := by
  refine zA Tryz.func70 rfl (N := 43) rfl rfl (fun C => ?_)
  refine JD.keep [0] [(0, dP gb 0)] rfl (zd _ _ rfl rfl rfl (zb rfl (za rfl rfl (zg rfl) (zf rfl (ze (zd _ _ rfl rfl rfl (zb rfl (za rfl rfl (zg rfl) (zf rfl (ze (zd _ _ rfl rfl rfl (zd _ _ rfl rfl rfl (zb rfl (za rfl rfl (zg rfl) (zf rfl (ze (zu _ rfl rfl (zM (fun (g : Unit) => [(0, dP gb 0), (2, dZ), (4, dI 0), (3, dZ)]) (fun (g : Unit) => [.bx gb 38 (.agg [c0, c1, dZ, c3, c4, c5, c6, c7, c8, c9, c10, c11, c12, c13, c14, c15, c16, c17, c18, c19])]) (fun (g : Unit) => True) (fun (g : Unit) => 0) _ () rfl rfl ⟨sk rfl, sk rfl, sk rfl, sk rfl, trivial⟩ HSub.rfl' trivial ?_))))))))))))))))))
  rintro _ _
  refine JD.keep [0, 2, 4, 3] [(0, dP gb 0), (2, dZ), (4, dI 0), (3, dZ)] rfl (JD.norm [.bx gb 38 (.agg [c0, c1, dZ, c3, c4, c5, c6, c7, c8, c9, c10, c11, c12, c13, c14, c15, c16, c17, c18, c19])] rfl (zd _ _ rfl rfl rfl (zd _ _ rfl rfl rfl (zb rfl (za rfl rfl (zc rfl) (za rfl rfl (zc rfl) (za rfl rfl (zs rfl) (za rfl rfl (zh rfl zc9 rfl) (za rfl rfl (zm rfl (i := 0) rfl Tryz.isAgg28 rfl) (za rfl rfl (zam (n := 0) rfl ⟨_, _, rfl⟩ Tryz.runUnderlying28) (za rfl rfl (zU rfl rfl rfl) (zf rfl (ze ?_)))))))))))))
  refine zy _ _ rfl rfl rfl rfl (fun hc1 => ?_) (fun hc1 => ?_)
  · replace hc1 := of_decide_eq_true hc1
    exfalso; omega
  · replace hc1 := of_decide_eq_false hc1
    refine zN rfl (zw (zt (zq (ze (JD.keep [2, 3] [(2, dZ), (3, dZ)] rfl (zd _ _ rfl rfl rfl (zb rfl (za rfl rfl (zc rfl) (za rfl rfl (zg rfl) (zf rfl (ze (zH rfl ?_))))))))))))
    exact zG Tryz.results70 (.cons (zI rfl) .nil) rfl HSub.rfl' ⟨rfl, rfl⟩

set_option maxHeartbeats 4000000 in
set_option maxRecDepth 100000 in
theorem markedInts_0   :
    CD Tryz.prog 80 [] [dZ] (isR (dB true)) := by
  refine zA Tryz.func80 rfl (N := 23) rfl rfl (fun C => ?_)
  refine JD.keep [0] [(0, dZ)] rfl (zd _ _ rfl rfl rfl (zb rfl (za rfl rfl (zg rfl) (zf rfl (ze (zd _ _ rfl rfl rfl (zd _ _ rfl rfl rfl (zb rfl (za rfl rfl (zg rfl) (zf rfl (ze (zu _ rfl rfl (zM (fun (g : Unit) => [(0, dZ), (3, dI 0)]) (fun (g : Unit) => []) (fun (g : Unit) => True) (fun (g : Unit) => 0) _ () rfl rfl ⟨sk rfl, sk rfl, trivial⟩ HSub.rfl' trivial ?_)))))))))))))
  rintro _ _
  refine JD.keep [0, 3] [(0, dZ), (3, dI 0)] rfl (JD.norm [] rfl (zd _ _ rfl rfl rfl (zd _ _ rfl rfl rfl (zb rfl (za rfl rfl (zc rfl) (za rfl rfl (zc rfl) (za rfl rfl (zam (n := 0) rfl ⟨_, _, rfl⟩ Tryz.runUnderlying28) (za rfl rfl (zU rfl rfl rfl) (zf rfl (ze ?_))))))))))
  refine zy _ _ rfl rfl rfl rfl (fun hc1 => ?_) (fun hc1 => ?_)
  · replace hc1 := of_decide_eq_true hc1
    exfalso; omega
  · replace hc1 := of_decide_eq_false hc1
    refine zN rfl (zw (zt (zq (ze (zd _ _ rfl rfl rfl (zb rfl (za rfl rfl (zg rfl) (zf rfl (ze (zH rfl ?_))))))))))
    exact zG Tryz.results80 (.cons (zI rfl) .nil) rfl HSub.rfl' ⟨rfl, rfl⟩

set_option maxHeartbeats 4000000 in
set_option maxRecDepth 100000 in
theorem stillRunes_0 (gb : Nat) (c0 c1 c2 c3 c5 c6 c7 c8 c9 c10 c11 c12 c13 c14 c15 c16 c17 c18 c19 : D)  :
    CD Tryz.prog 51 [.bx gb 38 (.agg [c0, c1, c2, c3, dZ, c5, c6, c7, c8, c9, c10, c11, c12, c13, c14, c15, c16, c17, c18, c19])] [dP gb 0] (fun r H' => r = dB true ∧ H' = [.bx gb 38 (.agg [c0, c1, c2, c3, dZ, c5, c6, c7, c8, c9, c10, c11, c12, c13, c14, c15, c16, c17, c18, c19])]) := by
  refine zA Tryz.func51 rfl (N := 29) rfl rfl (fun C => ?_)
  refine JD.keep [0] [(0, dP gb 0)] rfl (zd _ _ rfl rfl rfl (zb rfl (za rfl rfl (zg rfl) (zf rfl (ze (zd _ _ rfl rfl rfl (zd _ _ rfl rfl rfl (zb rfl (za rfl rfl (zg rfl) (zf rfl (ze (zu _ rfl rfl (zM (fun (g : Unit) => [(0, dP gb 0), (3, dI 0)]) (fun (g : Unit) => [.bx gb 38 (.agg [c0, c1, c2, c3, dZ, c5, c6, c7, c8, c9, c10, c11, c12, c13, c14, c15, c16, c17, c18, c19])]) (fun (g : Unit) => True) (fun (g : Unit) => 0) _ () rfl rfl ⟨sk rfl, sk rfl, trivial⟩ HSub.rfl' trivial ?_)))))))))))))
  rintro _ _
  refine JD.keep [0, 3] [(0, dP gb 0), (3, dI 0)] rfl (JD.norm [.bx gb 38 (.agg [c0, c1, c2, c3, dZ, c5, c6, c7, c8, c9, c10, c11, c12, c13, c14, c15, c16, c17, c18, c19])] rfl (zd _ _ rfl rfl rfl (zd _ _ rfl rfl rfl (zb rfl (za rfl rfl (zc rfl) (za rfl rfl (zc rfl) (za rfl rfl (zs rfl) (za rfl rfl (zh rfl fa_38_4 rfl) (za rfl rfl (zm rfl (i := 0) rfl Tryz.isAgg29 rfl) (za rfl rfl (zam (n := 0) rfl ⟨_, _, rfl⟩ Tryz.runUnderlying29) (za rfl rfl (zU rfl rfl rfl) (zf rfl (ze ?_)))))))))))))
  refine zy _ _ rfl rfl rfl rfl (fun hc1 => ?_) (fun hc1 => ?_)
  · replace hc1 := of_decide_eq_true hc1
    exfalso; omega
  · replace hc1 := of_decide_eq_false hc1
    refine zN rfl (zw (zt (zq (ze (JD.keep [] [] rfl (zd _ _ rfl rfl rfl (zb rfl (za rfl rfl (zg rfl) (zf rfl (ze (zH rfl ?_)))))))))))
    exact zG Tryz.results51 (.cons (zI rfl) .nil) rfl HSub.rfl' ⟨rfl, rfl⟩

set_option maxHeartbeats 4000000 in
set_option maxRecDepth 100000 in
theorem putRunes_0 (gb : Nat) (c0 c1 c2 c3 c5 c6 c7 c8 c9 c10 c11 c12 c13 c14 c15 c16 c17 c18 c19 : D)  :
    CD Tryz.prog 63 [.bx gb 38 (.agg [c0, c1, c2, c3, dZ, c5, c6, c7, c8, c9, c10, c11, c12, c13, c14, c15, c16, c17, c18, c19])] [dP gb 0] (fun r H' => r = .tup [] ∧ H' = [.bx gb 38 (.agg [c0, c1, c2, c3, dZ, c5, c6, c7, c8, c9, c10, c11, c12, c13, c14, c15, c16, c17, c18, c19])]) := by
  refine zA Tryz.func63 rfl (N := 43) rfl rfl (fun C => ?_)
  refine JD.keep [0] [(0, dP gb 0)] rfl (zd _ _ rfl rfl rfl (zb rfl (za rfl rfl (zg rfl) (zf rfl (ze (zu _ rfl rfl (zM (fun (g : Unit) => [(0, dP gb 0), (2, dI 0)]) (fun (g : Unit) => [.bx gb 38 (.agg [c0, c1, c2, c3, dZ, c5, c6, c7, c8, c9, c10, c11, c12, c13, c14, c15, c16, c17, c18, c19])]) (fun (g : Unit) => True) (fun (g : Unit) => 0) _ () rfl rfl ⟨sk rfl, sk rfl, trivial⟩ HSub.rfl' trivial ?_)))))))
  rintro _ _
  refine JD.keep [0, 2] [(0, dP gb 0), (2, dI 0)] rfl (JD.norm [.bx gb 38 (.agg [c0, c1, c2, c3, dZ, c5, c6, c7, c8, c9, c10, c11, c12, c13, c14, c15, c16, c17, c18, c19])] rfl (zd _ _ rfl rfl rfl (zd _ _ rfl rfl rfl (zb rfl (za rfl rfl (zc rfl) (za rfl rfl (zc rfl) (za rfl rfl (zs rfl) (za rfl rfl (zh rfl fa_38_4 rfl) (za rfl rfl (zm rfl (i := 0) rfl Tryz.isAgg29 rfl) (za rfl rfl (zam (n := 0) rfl ⟨_, _, rfl⟩ Tryz.runUnderlying29) (za rfl rfl (zU rfl rfl rfl) (zf rfl (ze ?_)))))))))))))
  refine zy _ _ rfl rfl rfl rfl (fun hc1 => ?_) (fun hc1 => ?_)
  · replace hc1 := of_decide_eq_true hc1
    exfalso; omega
  · replace hc1 := of_decide_eq_false hc1
    refine zN rfl (zw (zt (zq ?_)))
    exact zaO Tryz.results63 .nil rfl HSub.rfl' ⟨rfl, rfl⟩

set_option maxHeartbeats 4000000 in
set_option maxRecDepth 100000 in
theorem growRunes_0 (gb : Nat) (c0 c1 c2 c3 c5 c6 c7 c8 c9 c10 c11 c12 c13 c14 c15 c16 c17 c18 c19 : D)  :
    CD Tryz.prog 71 [.bx gb 38 (.agg [c0, c1, c2, c3, dZ, c5, c6, c7, c8, c9, c10, c11, c12, c13, c14, c15, c16, c17, c18, c19])] [dP gb 0] (fun r H' => r = dZ ∧ H' = [.bx gb 38 (.agg [c0, c1, c2, c3, dZ, c5, c6, c7, c8, c9, c10, c11, c12, c13, c14, c15, c16, c17, c18, c19])]) := by
  refine zA Tryz.func71 rfl (N := 43) rfl rfl (fun C => ?_)
  refine JD.keep [0] [(0, dP gb 0)] rfl (zd _ _ rfl rfl rfl (zb rfl (za rfl rfl (zg rfl) (zf rfl (ze (zd _ _ rfl rfl rfl (zb rfl (za rfl rfl (zg rfl) (zf rfl (ze (zd _ _ rfl rfl rfl (zd _ _ rfl rfl rfl (zb rfl (za rfl rfl (zg rfl) (zf rfl (ze (zu _ rfl rfl (zM (fun (g : Unit) => [(0, dP gb 0), (2, dZ), (4, dI 0), (3, dZ)]) (fun (g : Unit) => [.bx gb 38 (.agg [c0, c1, c2, c3, dZ, c5, c6, c7, c8, c9, c10, c11, c12, c13, c14, c15, c16, c17, c18, c19])]) (fun (g : Unit) => True) (fun (g : Unit) => 0) _ () rfl rfl ⟨sk rfl, sk rfl, sk rfl, sk rfl, trivial⟩ HSub.rfl' trivial ?_))))))))))))))))))
  rintro _ _
  refine JD.keep [0, 2, 4, 3] [(0, dP gb 0), (2, dZ), (4, dI 0), (3, dZ)] rfl (JD.norm [.bx gb 38 (.agg [c0, c1, c2, c3, dZ, c5, c6, c7, c8, c9, c10, c11, c12, c13, c14, c15, c16, c17, c18, c19])] rfl (zd _ _ rfl rfl rfl (zd _ _ rfl rfl rfl (zb rfl (za rfl rfl (zc rfl) (za rfl rfl (zc rfl) (za rfl rfl (zs rfl) (za rfl rfl (zh rfl fa_38_4 rfl) (za rfl rfl (zm rfl (i := 0) rfl Tryz.isAgg29 rfl) (za rfl rfl (zam (n := 0) rfl ⟨_, _, rfl⟩ Tryz.runUnderlying29) (za rfl rfl (zU rfl rfl rfl) (zf rfl (ze ?_)))))))))))))
  refine zy _ _ rfl rfl rfl rfl (fun hc1 => ?_) (fun hc1 => ?_)
  · replace hc1 := of_decide_eq_true hc1
    exfalso; omega
  · replace hc1 := of_decide_eq_false hc1
    refine zN rfl (zw (zt (zq (ze (JD.keep [2, 3] [(2, dZ), (3, dZ)] rfl (zd _ _ rfl rfl rfl (zb rfl (za rfl rfl (zc rfl) (za rfl rfl (zg rfl) (zf rfl (ze (zH rfl ?_))))))))))))
    exact zG Tryz.results71 (.cons (zI rfl) .nil) rfl HSub.rfl' ⟨rfl, rfl⟩

set_option maxHeartbeats 4000000 in
set_option maxRecDepth 100000 in
theorem markedRunes_0   :
    CD Tryz.prog 81 [] [dZ] (isR (dB true)) := by
  refine zA Tryz.func81 rfl (N := 23) rfl rfl (fun C => ?_)
  refine JD.keep [0] [(0, dZ)] rfl (zd _ _ rfl rfl rfl (zb rfl (za rfl rfl (zg rfl) (zf rfl (ze (zd _ _ rfl rfl rfl (zd _ _ rfl rfl rfl (zb rfl (za rfl rfl (zg rfl) (zf rfl (ze (zu _ rfl rfl (zM (fun (g : Unit) => [(0, dZ), (3, dI 0)]) (fun (g : Unit) => []) (fun (g : Unit) => True) (fun (g : Unit) => 0) _ () rfl rfl ⟨sk rfl, sk rfl, trivial⟩ HSub.rfl' trivial ?_)))))))))))))
  rintro _ _
  refine JD.keep [0, 3] [(0, dZ), (3, dI 0)] rfl (JD.norm [] rfl (zd _ _ rfl rfl rfl (zd _ _ rfl rfl rfl (zb rfl (za rfl rfl (zc rfl) (za rfl rfl (zc rfl) (za rfl rfl (zam (n := 0) rfl ⟨_, _, rfl⟩ Tryz.runUnderlying29) (za rfl rfl (zU rfl rfl rfl) (zf rfl (ze ?_))))))))))
  refine zy _ _ rfl rfl rfl rfl (fun hc1 => ?_) (fun hc1 => ?_)
  · replace hc1 := of_decide_eq_true hc1
    exfalso; omega
  · replace hc1 := of_decide_eq_false hc1
    refine zN rfl (zw (zt (zq (ze (zd _ _ rfl rfl rfl (zb rfl (za rfl rfl (zg rfl) (zf rfl (ze (zH rfl ?_))))))))))
    exact zG Tryz.results81 (.cons (zI rfl) .nil) rfl HSub.rfl' ⟨rfl, rfl⟩

set_option maxHeartbeats 4000000 in
set_option maxRecDepth 100000 in
theorem stillLabels_0 (gb : Nat) (c0 c1 c2 c3 c4 c5 c7 c8 c9 c10 c11 c12 c13 c14 c15 c16 c17 c18 c19 : D)  :
    CD Tryz.prog 52 [.bx gb 38 (.agg [c0, c1, c2, c3, c4, c5, dZ, c7, c8, c9, c10, c11, c12, c13, c14, c15, c16, c17, c18, c19])] [dP gb 0] (fun r H' => r = dB true ∧ H' = [.bx gb 38 (.agg [c0, c1, c2, c3, c4, c5, dZ, c7, c8, c9, c10, c11, c12, c13, c14, c15, c16, c17, c18, c19])]) := by
  refine zA Tryz.func52 rfl (N := 29) rfl rfl (fun C => ?_)
  refine JD.keep [0] [(0, dP gb 0)] rfl (zd _ _ rfl rfl rfl (zb rfl (za rfl rfl (zg rfl) (zf rfl (ze (zd _ _ rfl rfl rfl (zd _ _ rfl rfl rfl (zb rfl (za rfl rfl (zg rfl) (zf rfl (ze (zu _ rfl rfl (zM (fun (g : Unit) => [(0, dP gb 0), (3, dI 0)]) (fun (g : Unit) => [.bx gb 38 (.agg [c0, c1, c2, c3, c4, c5, dZ, c7, c8, c9, c10, c11, c12, c13, c14, c15, c16, c17, c18, c19])]) (fun (g : Unit) => True) (fun (g : Unit) => 0) _ () rfl rfl ⟨sk rfl, sk rfl, trivial⟩ HSub.rfl' trivial ?_)))))))))))))
  rintro _ _
  refine JD.keep [0, 3] [(0, dP gb 0), (3, dI 0)] rfl (JD.norm [.bx gb 38 (.agg [c0, c1, c2, c3, c4, c5, dZ, c7, c8, c9, c10, c11, c12, c13, c14, c15, c16, c17, c18, c19])] rfl (zd _ _ rfl rfl rfl (zd _ _ rfl rfl rfl (zb rfl (za rfl rfl (zc rfl) (za rfl rfl (zc rfl) (za rfl rfl (zs rfl) (za rfl rfl (zh rfl fa_38_6 rfl) (za rfl rfl (zm rfl (i := 0) rfl Tryz.isAgg30 rfl) (za rfl rfl (zam (n := 0) rfl ⟨_, _, rfl⟩ Tryz.runUnderlying30) (za rfl rfl (zU rfl rfl rfl) (zf rfl (ze ?_)))))))))))))
  refine zy _ _ rfl rfl rfl rfl (fun hc1 => ?_) (fun hc1 => ?_)
  · replace hc1 := of_decide_eq_true hc1
    exfalso; omega
  · replace hc1 := of_decide_eq_false hc1
    refine zN rfl (zw (zt (zq (ze (JD.keep [] [] rfl (zd _ _ rfl rfl rfl (zb rfl (za rfl rfl (zg rfl) (zf rfl (ze (zH rfl ?_)))))))))))
    exact zG Tryz.results52 (.cons (zI rfl) .nil) rfl HSub.rfl' ⟨rfl, rfl⟩

set_option maxHeartbeats 4000000 in
set_option maxRecDepth 100000 in
theorem putLabels_0 (gb : Nat) (c0 c1 c2 c3 c4 c5 c7 c8 c9 c10 c11 c12 c13 c14 c15 c16 c17 c18 c19 : D)  :
    CD Tryz.prog 64 [.bx gb 38 (.agg [c0, c1, c2, c3, c4, c5, dZ, c7, c8, c9, c10, c11, c12, c13, c14, c15, c16, c17, c18, c19])] [dP gb 0] (fun r H' => r = .tup [] ∧ H' = [.bx gb 38 (.agg [c0, c1, c2, c3, c4, c5, dZ, c7, c8, c9, c10, c11, c12, c13, c14, c15, c16, c17, c18, c19])]) := by
  refine zA Tryz.func64 rfl (N := 43) rfl rfl (fun C => ?_)
  refine JD.keep [0] [(0, dP gb 0)] rfl (zd _ _ rfl rfl rfl (zb rfl (za rfl rfl (zg rfl) (zf rfl (ze (zu _ rfl rfl (zM (fun (g : Unit) => [(0, dP gb 0), (2, dI 0)]) (fun (g : Unit) => [.bx gb 38 (.agg [c0, c1, c2, c3, c4, c5, dZ, c7, c8, c9, c10, c11, c12, c13, c14, c15, c16, c17, c18, c19])]) (fun (g : Unit) => True) (fun (g : Unit) => 0) _ () rfl rfl ⟨sk rfl, sk rfl, trivial⟩ HSub.rfl' trivial ?_)))))))
  rintro _ _
  refine JD.keep [0, 2] [(0, dP gb 0), (2, dI 0)] rfl (JD.norm [.bx gb 38 (.agg [c0, c1, c2, c3, c4, c5, dZ, c7, c8, c9, c10, c11, c12, c13, c14, c15, c16, c17, c18, c19])] rfl (zd _ _ rfl rfl rfl (zd _ _ rfl rfl rfl (zb rfl (za rfl rfl (zc rfl) (za rfl rfl (zc rfl) (za rfl rfl (zs rfl) (za rfl rfl (zh rfl fa_38_6 rfl) (za rfl rfl (zm rfl (i := 0) rfl Tryz.isAgg30 rfl) (za rfl rfl (zam (n := 0) rfl ⟨_, _, rfl⟩ Tryz.runUnderlying30) (za rfl rfl (zU rfl rfl rfl) (zf rfl (ze ?_)))))))))))))
  refine zy _ _ rfl rfl rfl rfl (fun hc1 => ?_) (fun hc1 => ?_)
  · replace hc1 := of_decide_eq_true hc1
    exfalso; omega
  · replace hc1 := of_decide_eq_false hc1
    refine zN rfl (zw (zt (zq ?_)))
    exact zaO Tryz.results64 .nil rfl HSub.rfl' ⟨rfl, rfl⟩

set_option maxHeartbeats 4000000 in
set_option maxRecDepth 100000 in
theorem growLabels_0 (gb : Nat) (c0 c1 c2 c3 c4 c5 c7 c8 c9 c10 c11 c12 c13 c14 c15 c16 c17 c18 c19 : D)  :
    CD Tryz.prog 72 [.bx gb 38 (.agg [c0, c1, c2, c3, c4, c5, dZ, c7, c8, c9, c10, c11, c12, c13, c14, c15, c16, c17, c18, c19])] [dP gb 0] (fun r H' => r = dZ ∧ H' = [.bx gb 38 (.agg [c0, c1, c2, c3, c4, c5, dZ, c7, c8, c9, c10, c11, c12, c13, c14, c15, c16, c17, c18, c19])]) := by
  refine zA Tryz.func72 rfl (N := 43) rfl rfl (fun C => ?_)
  refine JD.keep [0] [(0, dP gb 0)] rfl (zd _ _ rfl rfl rfl (zb rfl (za rfl rfl (zg rfl) (zf rfl (ze (zd _ _ rfl rfl rfl (zb rfl (za rfl rfl (zg rfl) (zf rfl (ze (zd _ _ rfl rfl rfl (zd _ _ rfl rfl rfl (zb rfl (za rfl rfl (zg rfl) (zf rfl (ze (zu _ rfl rfl (zM (fun (g : Unit) => [(0, dP gb 0), (2, dZ), (4, dI 0), (3, dZ)]) (fun (g : Unit) => [.bx gb 38 (.agg [c0, c1, c2, c3, c4, c5, dZ, c7, c8, c9, c10, c11, c12, c13, c14, c15, c16, c17, c18, c19])]) (fun (g : Unit) => True) (fun (g : Unit) => 0) _ () rfl rfl ⟨sk rfl, sk rfl, sk rfl, sk rfl, trivial⟩ HSub.rfl' trivial ?_))))))))))))))))))
  rintro _ _
  refine JD.keep [0, 2, 4, 3] [(0, dP gb 0), (2, dZ), (4, dI 0), (3, dZ)] rfl (JD.norm [.bx gb 38 (.agg [c0, c1, c2, c3, c4, c5, dZ, c7, c8, c9, c10, c11, c12, c13, c14, c15, c16, c17, c18, c19])] rfl (zd _ _ rfl rfl rfl (zd _ _ rfl rfl rfl (zb rfl (za rfl rfl (zc rfl) (za rfl rfl (zc rfl) (za rfl rfl (zs rfl) (za rfl rfl (zh rfl fa_38_6 rfl) (za rfl rfl (zm rfl (i := 0) rfl Tryz.isAgg30 rfl) (za rfl rfl (zam (n := 0) rfl ⟨_, _, rfl⟩ Tryz.runUnderlying30) (za rfl rfl (zU rfl rfl rfl) (zf rfl (ze ?_)))))))))))))
  refine zy _ _ rfl rfl rfl rfl (fun hc1 => ?_) (fun hc1 => ?_)
  · replace hc1 := of_decide_eq_true hc1
    exfalso; omega
  · replace hc1 := of_decide_eq_false hc1
    refine zN rfl (zw (zt (zq (ze (JD.keep [2, 3] [(2, dZ), (3, dZ)] rfl (zd _ _ rfl rfl rfl (zb rfl (za rfl rfl (zc rfl) (za rfl rfl (zg rfl) (zf rfl (ze (zH rfl ?_))))))))))))
    exact zG Tryz.results72 (.cons (zI rfl) .nil) rfl HSub.rfl' ⟨rfl, rfl⟩

set_option maxHeartbeats 4000000 in
set_option maxRecDepth 100000 in
theorem markedLabels_0   :
    CD Tryz.prog 82 [] [dZ] (isR (dB true)) := by
  refine zA Tryz.func82 rfl (N := 23) rfl rfl (fun C => ?_)
  refine JD.keep [0] [(0, dZ)] rfl (zd _ _ rfl rfl rfl (zb rfl (za rfl rfl (zg rfl) (zf rfl (ze (zd _ _ rfl rfl rfl (zd _ _ rfl rfl rfl (zb rfl (za rfl rfl (zg rfl) (zf rfl (ze (zu _ rfl rfl (zM (fun (g : Unit) => [(0, dZ), (3, dI 0)]) (fun (g : Unit) => []) (fun (g : Unit) => True) (fun (g : Unit) => 0) _ () rfl rfl ⟨sk rfl, sk rfl, trivial⟩ HSub.rfl' trivial ?_)))))))))))))
  rintro _ _
  refine JD.keep [0, 3] [(0, dZ), (3, dI 0)] rfl (JD.norm [] rfl (zd _ _ rfl rfl rfl (zd _ _ rfl rfl rfl (zb rfl (za rfl rfl (zc rfl) (za rfl rfl (zc rfl) (za rfl rfl (zam (n := 0) rfl ⟨_, _, rfl⟩ Tryz.runUnderlying30) (za rfl rfl (zU rfl rfl rfl) (zf rfl (ze ?_))))))))))
  refine zy _ _ rfl rfl rfl rfl (fun hc1 => ?_) (fun hc1 => ?_)
  · replace hc1 := of_decide_eq_true hc1
    exfalso; omega
  · replace hc1 := of_decide_eq_false hc1
    refine zN rfl (zw (zt (zq (ze (zd _ _ rfl rfl rfl (zb rfl (za rfl rfl (zg rfl) (zf rfl (ze (zH rfl ?_))))))))))
    exact zG Tryz.results82 (.cons (zI rfl) .nil) rfl HSub.rfl' ⟨rfl, rfl⟩

set_option maxHeartbeats 4000000 in
set_option maxRecDepth 100000 in
theorem stillPoints_0 (gb : Nat) (c0 c1 c2 c3 c4 c5 c6 c7 c9 c10 c11 c12 c13 c14 c15 c16 c17 c18 c19 : D)  :
    CD Tryz.prog 53 [.bx gb 38 (.agg [c0, c1, c2, c3, c4, c5, c6, c7, dZ, c9, c10, c11, c12, c13, c14, c15, c16, c17, c18, c19])] [dP gb 0] (fun r H' => r = dB true ∧ H' = [.bx gb 38 (.agg [c0, c1, c2, c3, c4, c5, c6, c7, dZ, c9, c10, c11, c12, c13, c14, c15, c16, c17, c18, c19])]) := by
  refine zA Tryz.func53 rfl (N := 29) rfl rfl (fun C => ?_)
  refine JD.keep [0] [(0, dP gb 0)] rfl (zd _ _ rfl rfl rfl (zb rfl (za rfl rfl (zg rfl) (zf rfl (ze (zd _ _ rfl rfl rfl (zd _ _ rfl rfl rfl (zb rfl (za rfl rfl (zg rfl) (zf rfl (ze (zu _ rfl rfl (zM (fun (g : Unit) => [(0, dP gb 0), (3, dI 0)]) (fun (g : Unit) => [.bx gb 38 (.agg [c0, c1, c2, c3, c4, c5, c6, c7, dZ, c9, c10, c11, c12, c13, c14, c15, c16, c17, c18, c19])]) (fun (g : Unit) => True) (fun (g : Unit) => 0) _ () rfl rfl ⟨sk rfl, sk rfl, trivial⟩ HSub.rfl' trivial ?_)))))))))))))
  rintro _ _
  refine JD.keep [0, 3] [(0, dP gb 0), (3, dI 0)] rfl (JD.norm [.bx gb 38 (.agg [c0, c1, c2, c3, c4, c5, c6, c7, dZ, c9, c10, c11, c12, c13, c14, c15, c16, c17, c18, c19])] rfl (zd _ _ rfl rfl rfl (zd _ _ rfl rfl rfl (zb rfl (za rfl rfl (zc rfl) (za rfl rfl (zc rfl) (za rfl rfl (zs rfl) (za rfl rfl (zh rfl fa_38_8 rfl) (za rfl rfl (zm rfl (i := 0) rfl Tryz.isAgg31 rfl) (za rfl rfl (zam (n := 0) rfl ⟨_, _, rfl⟩ Tryz.runUnderlying31) (za rfl rfl (zU rfl rfl rfl) (zf rfl (ze ?_)))))))))))))
  refine zy _ _ rfl rfl rfl rfl (fun hc1 => ?_) (fun hc1 => ?_)
  · replace hc1 := of_decide_eq_true hc1
    exfalso; omega
  · replace hc1 := of_decide_eq_false hc1
    refine zN rfl (zw (zt (zq (ze (JD.keep [] [] rfl (zd _ _ rfl rfl rfl (zb rfl (za rfl rfl (zg rfl) (zf rfl (ze (zH rfl ?_)))))))))))
    exact zG Tryz.results53 (.cons (zI rfl) .nil) rfl HSub.rfl' ⟨rfl, rfl⟩

set_option maxHeartbeats 4000000 in
set_option maxRecDepth 100000 in
theorem putPoints_0 (gb : Nat) (c0 c1 c2 c3 c4 c5 c6 c7 c9 c10 c11 c12 c13 c14 c15 c16 c17 c18 c19 : D)  :
    CD Tryz.prog 65 [.bx gb 38 (.agg [c0, c1, c2, c3, c4, c5, c6, c7, dZ, c9, c10, c11, c12, c13, c14, c15, c16, c17, c18, c19])] [dP gb 0] (fun r H' => r = .tup [] ∧ H' = [.bx gb 38 (.agg [c0, c1, c2, c3, c4, c5, c6, c7, dZ, c9, c10, c11, c12, c13, c14, c15, c16, c17, c18, c19])]) := by
  refine zA Tryz.func65 rfl (N := 43) rfl rfl (fun C => ?_)
  refine JD.keep [0] [(0, dP gb 0)] rfl (zd _ _ rfl rfl rfl (zb rfl (za rfl rfl (zg rfl) (zf rfl (ze (zu _ rfl rfl (zM (fun (g : Unit) => [(0, dP gb 0), (2, dI 0)]) (fun (g : Unit) => [.bx gb 38 (.agg [c0, c1, c2, c3, c4, c5, c6, c7, dZ, c9, c10, c11, c12, c13, c14, c15, c16, c17, c18, c19])]) (fun (g : Unit) => True) (fun (g : Unit) => 0) _ () rfl rfl ⟨sk rfl, sk rfl, trivial⟩ HSub.rfl' trivial ?_)))))))
  rintro _ _
  refine JD.keep [0, 2] [(0, dP gb 0), (2, dI 0)] rfl (JD.norm [.bx gb 38 (.agg [c0, c1, c2, c3, c4, c5, c6, c7, dZ, c9, c10, c11, c12, c13, c14, c15, c16, c17, c18, c19])] rfl (zd _ _ rfl rfl rfl (zd _ _ rfl rfl rfl (zb rfl (za rfl rfl (zc rfl) (za rfl rfl (zc rfl) (za rfl rfl (zs rfl) (za rfl rfl (zh rfl fa_38_8 rfl) (za rfl rfl (zm rfl (i := 0) rfl Tryz.isAgg31 rfl) (za rfl rfl (zam (n := 0) rfl ⟨_, _, rfl⟩ Tryz.runUnderlying31) (za rfl rfl (zU rfl rfl rfl) (zf rfl (ze ?_)))))))))))))
  refine zy _ _ rfl rfl rfl rfl (fun hc1 => ?_) (fun hc1 => ?_)
  · replace hc1 := of_decide_eq_true hc1
    exfalso; omega
  · replace hc1 := of_decide_eq_false hc1
    refine zN rfl (zw (zt (zq ?_)))
    exact zaO Tryz.results65 .nil rfl HSub.rfl' ⟨rfl, rfl⟩

set_option maxHeartbeats 4000000 in
set_option maxRecDepth 100000 in
theorem growPoints_0 (gb : Nat) (c0 c1 c2 c3 c4 c5 c6 c7 c9 c10 c11 c12 c13 c14 c15 c16 c17 c18 c19 : D)  :
    CD Tryz.prog 73 [.bx gb 38 (.agg [c0, c1, c2, c3, c4, c5, c6, c7, dZ, c9, c10, c11, c12, c13, c14, c15, c16, c17, c18, c19])] [dP gb 0] (fun r H' => r = dZ ∧ H' = [.bx gb 38 (.agg [c0, c1, c2, c3, c4, c5, c6, c7, dZ, c9, c10, c11, c12, c13, c14, c15, c16, c17, c18, c19])]) := by
  refine zA Tryz.func73 rfl (N := 43) rfl rfl (fun C => ?_)
  refine JD.keep [0] [(0, dP gb 0)] rfl (zd _ _ rfl rfl rfl (zb rfl (za rfl rfl (zg rfl) (zf rfl (ze (zd _ _ rfl rfl rfl (zb rfl (za rfl rfl (zg rfl) (zf rfl (ze (zd _ _ rfl rfl rfl (zd _ _ rfl rfl rfl (zb rfl (za rfl rfl (zg rfl) (zf rfl (ze (zu _ rfl rfl (zM (fun (g : Unit) => [(0, dP gb 0), (2, dZ), (4, dI 0), (3, dZ)]) (fun (g : Unit) => [.bx gb 38 (.agg [c0, c1, c2, c3, c4, c5, c6, c7, dZ, c9, c10, c11, c12, c13, c14, c15, c16, c17, c18, c19])]) (fun (g : Unit) => True) (fun (g : Unit) => 0) _ () rfl rfl ⟨sk rfl, sk rfl, sk rfl, sk rfl, trivial⟩ HSub.rfl' trivial ?_))))))))))))))))))
  rintro _ _
  refine JD.keep [0, 2, 4, 3] [(0, dP gb 0), (2, dZ), (4, dI 0), (3, dZ)] rfl (JD.norm [.bx gb 38 (.agg [c0, c1, c2, c3, c4, c5, c6, c7, dZ, c9, c10, c11, c12, c13, c14, c15, c16, c17, c18, c19])] rfl (zd _ _ rfl rfl rfl (zd _ _ rfl rfl rfl (zb rfl (za rfl rfl (zc rfl) (za rfl rfl (zc rfl) (za rfl rfl (zs rfl) (za rfl rfl (zh rfl fa_38_8 rfl) (za rfl rfl (zm rfl (i := 0) rfl Tryz.isAgg31 rfl) (za rfl rfl (zam (n := 0) rfl ⟨_, _, rfl⟩ Tryz.runUnderlying31) (za rfl rfl (zU rfl rfl rfl) (zf rfl (ze ?_)))))))))))))
  refine zy _ _ rfl rfl rfl rfl (fun hc1 => ?_) (fun hc1 => ?_)
  · replace hc1 := of_decide_eq_true hc1
    exfalso; omega
  · replace hc1 := of_decide_eq_false hc1
    refine zN rfl (zw (zt (zq (ze (JD.keep [2, 3] [(2, dZ), (3, dZ)] rfl (zd _ _ rfl rfl rfl (zb rfl (za rfl rfl (zc rfl) (za rfl rfl (zg rfl) (zf rfl (ze (zH rfl ?_))))))))))))
    exact zG Tryz.results73 (.cons (zI rfl) .nil) rfl HSub.rfl' ⟨rfl, rfl⟩

set_option maxHeartbeats 4000000 in
set_option maxRecDepth 100000 in
theorem markedPoints_0   :
    CD Tryz.prog 83 [] [dZ] (isR (dB true)) := by
  refine zA Tryz.func83 rfl (N := 23) rfl rfl (fun C => ?_)
  refine JD.keep [0] [(0, dZ)] rfl (zd _ _ rfl rfl rfl (zb rfl (za rfl rfl (zg rfl) (zf rfl (ze (zd _ _ rfl rfl rfl (zd _ _ rfl rfl rfl (zb rfl (za rfl rfl (zg rfl) (zf rfl (ze (zu _ rfl rfl (zM (fun (g : Unit) => [(0, dZ), (3, dI 0)]) (fun (g : Unit) => []) (fun (g : Unit) => True) (fun (g : Unit) => 0) _ () rfl rfl ⟨sk rfl, sk rfl, trivial⟩ HSub.rfl' trivial ?_)))))))))))))
  rintro _ _
  refine JD.keep [0, 3] [(0, dZ), (3, dI 0)] rfl (JD.norm [] rfl (zd _ _ rfl rfl rfl (zd _ _ rfl rfl rfl (zb rfl (za rfl rfl (zc rfl) (za rfl rfl (zc rfl) (za rfl rfl (zam (n := 0) rfl ⟨_, _, rfl⟩ Tryz.runUnderlying31) (za rfl rfl (zU rfl rfl rfl) (zf rfl (ze ?_))))))))))
  refine zy _ _ rfl rfl rfl rfl (fun hc1 => ?_) (fun hc1 => ?_)
  · replace hc1 := of_decide_eq_true hc1
    exfalso; omega
  · replace hc1 := of_decide_eq_false hc1
    refine zN rfl (zw (zt (zq (ze (zd _ _ rfl rfl rfl (zb rfl (za rfl rfl (zg rfl) (zf rfl (ze (zH rfl ?_))))))))))
    exact zG Tryz.results83 (.cons (zI rfl) .nil) rfl HSub.rfl' ⟨rfl, rfl⟩

set_option maxHeartbeats 4000000 in
set_option maxRecDepth 100000 in
theorem stillTokens_0 (gb : Nat) (c0 c1 c2 c3 c4 c5 c6 c7 c8 c9 c11 c12 c13 c14 c15 c16 c17 c18 c19 : D)  :
    CD Tryz.prog 54 [.bx gb 38 (.agg [c0, c1, c2, c3, c4, c5, c6, c7, c8, c9, dZ, c11, c12, c13, c14, c15, c16, c17, c18, c19])] [dP gb 0] (fun r H' => r = dB true ∧ H' = [.bx gb 38 (.agg [c0, c1, c2, c3, c4, c5, c6, c7, c8, c9, dZ, c11, c12, c13, c14, c15, c16, c17, c18, c19])]) := by
  refine zA Tryz.func54 rfl (N := 29) rfl rfl (fun C => ?_)
  refine JD.keep [0] [(0, dP gb 0)] rfl (zd _ _ rfl rfl rfl (zb rfl (za rfl rfl (zg rfl) (zf rfl (ze (zd _ _ rfl rfl rfl (zd _ _ rfl rfl rfl (zb rfl (za rfl rfl (zg rfl) (zf rfl (ze (zu _ rfl rfl (zM (fun (g : Unit) => [(0, dP gb 0), (3, dI 0)]) (fun (g : Unit) => [.bx gb 38 (.agg [c0, c1, c2, c3, c4, c5, c6, c7, c8, c9, dZ, c11, c12, c13, c14, c15, c16, c17, c18, c19])]) (fun (g : Unit) => True) (fun (g : Unit) => 0) _ () rfl rfl ⟨sk rfl, sk rfl, trivial⟩ HSub.rfl' trivial ?_)))))))))))))
  rintro _ _
  refine JD.keep [0, 3] [(0, dP gb 0), (3, dI 0)] rfl (JD.norm [.bx gb 38 (.agg [c0, c1, c2, c3, c4, c5, c6, c7, c8, c9, dZ, c11, c12, c13, c14, c15, c16, c17, c18, c19])] rfl (zd _ _ rfl rfl rfl (zd _ _ rfl rfl rfl (zb rfl (za rfl rfl (zc rfl) (za rfl rfl (zc rfl) (za rfl rfl (zs rfl) (za rfl rfl (zh rfl fa_38_10 rfl) (za rfl rfl (zm rfl (i := 0) rfl Tryz.isAgg32 rfl) (za rfl rfl (zam (n := 0) rfl ⟨_, _, rfl⟩ Tryz.runUnderlying32) (za rfl rfl (zU rfl rfl rfl) (zf rfl (ze ?_)))))))))))))
  refine zy _ _ rfl rfl rfl rfl (fun hc1 => ?_) (fun hc1 => ?_)
  · replace hc1 := of_decide_eq_true hc1
    exfalso; omega
  · replace hc1 := of_decide_eq_false hc1
    refine zN rfl (zw (zt (zq (ze (JD.keep [] [] rfl (zd _ _ rfl rfl rfl (zb rfl (za rfl rfl (zg rfl) (zf rfl (ze (zH rfl ?_)))))))))))
    exact zG Tryz.results54 (.cons (zI rfl) .nil) rfl HSub.rfl' ⟨rfl, rfl⟩

set_option maxHeartbeats 4000000 in
set_option maxRecDepth 100000 in
theorem putTokens_0 (gb : Nat) (c0 c1 c2 c3 c4 c5 c6 c7 c8 c9 c11 c12 c13 c14 c15 c16 c17 c18 c19 : D)  :
    CD Tryz.prog 66 [.bx gb 38 (.agg [c0, c1, c2, c3, c4, c5, c6, c7, c8, c9, dZ, c11, c12, c13, c14, c15, c16, c17, c18, c19])] [dP gb 0] (fun r H' => r = .tup [] ∧ H' = [.bx gb 38 (.agg [c0, c1, c2, c3, c4, c5, c6, c7, c8, c9, dZ, c11, c12, c13, c14, c15, c16, c17, c18, c19])]) := by
  refine zA Tryz.func66 rfl (N := 43) rfl rfl (fun C => ?_)
  refine JD.keep [0] [(0, dP gb 0)] rfl (zd _ _ rfl rfl rfl (zb rfl (za rfl rfl (zg rfl) (zf rfl (ze (zu _ rfl rfl (zM (fun (g : Unit) => [(0, dP gb 0), (2, dI 0)]) (fun (g : Unit) => [.bx gb 38 (.agg [c0, c1, c2, c3, c4, c5, c6, c7, c8, c9, dZ, c11, c12, c13, c14, c15, c16, c17, c18, c19])]) (fun (g : Unit) => True) (fun (g : Unit) => 0) _ () rfl rfl ⟨sk rfl, sk rfl, trivial⟩ HSub.rfl' trivial ?_)))))))
  rintro _ _
  refine JD.keep [0, 2] [(0, dP gb 0), (2, dI 0)] rfl (JD.norm [.bx gb 38 (.agg [c0, c1, c2, c3, c4, c5, c6, c7, c8, c9, dZ, c11, c12, c13, c14, c15, c16, c17, c18, c19])] rfl (zd _ _ rfl rfl rfl (zd _ _ rfl rfl rfl (zb rfl (za rfl rfl (zc rfl) (za rfl rfl (zc rfl) (za rfl rfl (zs rfl) (za rfl rfl (zh rfl fa_38_10 rfl) (za rfl rfl (zm rfl (i := 0) rfl Tryz.isAgg32 rfl) (za rfl rfl (zam (n := 0) rfl ⟨_, _, rfl⟩ Tryz.runUnderlying32) (za rfl rfl (zU rfl rfl rfl) (zf rfl (ze ?_)))))))))))))
  refine zy _ _ rfl rfl rfl rfl (fun hc1 => ?_) (fun hc1 => ?_)
  · replace hc1 := of_decide_eq_true hc1
    exfalso; omega
  · replace hc1 := of_decide_eq_false hc1
    refine zN rfl (zw (zt (zq ?_)))
    exact zaO Tryz.results66 .nil rfl HSub.rfl' ⟨rfl, rfl⟩

set_option maxHeartbeats 4000000 in
set_option maxRecDepth 100000 in
theorem growTokens_0 (gb : Nat) (c0 c1 c2 c3 c4 c5 c6 c7 c8 c9 c11 c12 c13 c14 c15 c16 c17 c18 c19 : D)  :
    CD Tryz.prog 74 [.bx gb 38 (.agg [c0, c1, c2, c3, c4, c5, c6, c7, c8, c9, dZ, c11, c12, c13, c14, c15, c16, c17, c18, c19])] [dP gb 0] (fun r H' => r = dZ ∧ H' = [.bx gb 38 (.agg [c0, c1, c2, c3, c4, c5, c6, c7, c8, c9, dZ, c11, c12, c13, c14, c15, c16, c17, c18, c19])]) := by
  refine zA Tryz.func74 rfl (N := 43) rfl rfl (fun C => ?_)
  refine JD.keep [0] [(0, dP gb 0)] rfl (zd _ _ rfl rfl rfl (zb rfl (za rfl rfl (zg rfl) (zf rfl (ze (zd _ _ rfl rfl rfl (zb rfl (za rfl rfl (zg rfl) (zf rfl (ze (zd _ _ rfl rfl rfl (zd _ _ rfl rfl rfl (zb rfl (za rfl rfl (zg rfl) (zf rfl (ze (zu _ rfl rfl (zM (fun (g : Unit) => [(0, dP gb 0), (2, dZ), (4, dI 0), (3, dZ)]) (fun (g : Unit) => [.bx gb 38 (.agg [c0, c1, c2, c3, c4, c5, c6, c7, c8, c9, dZ, c11, c12, c13, c14, c15, c16, c17, c18, c19])]) (fun (g : Unit) => True) (fun (g : Unit) => 0) _ () rfl rfl ⟨sk rfl, sk rfl, sk rfl, sk rfl, trivial⟩ HSub.rfl' trivial ?_))))))))))))))))))
  rintro _ _
  refine JD.keep [0, 2, 4, 3] [(0, dP gb 0), (2, dZ), (4, dI 0), (3, dZ)] rfl (JD.norm [.bx gb 38 (.agg [c0, c1, c2, c3, c4, c5, c6, c7, c8, c9, dZ, c11, c12, c13, c14, c15, c16, c17, c18, c19])] rfl (zd _ _ rfl rfl rfl (zd _ _ rfl rfl rfl (zb rfl (za rfl rfl (zc rfl) (za rfl rfl (zc rfl) (za rfl rfl (zs rfl) (za rfl rfl (zh rfl fa_38_10 rfl) (za rfl rfl (zm rfl (i := 0) rfl Tryz.isAgg32 rfl) (za rfl rfl (zam (n := 0) rfl ⟨_, _, rfl⟩ Tryz.runUnderlying32) (za rfl rfl (zU rfl rfl rfl) (zf rfl (ze ?_)))))))))))))
  refine zy _ _ rfl rfl rfl rfl (fun hc1 => ?_) (fun hc1 => ?_)
  · replace hc1 := of_decide_eq_true hc1
    exfalso; omega
  · replace hc1 := of_decide_eq_false hc1
    refine zN rfl (zw (zt (zq (ze (JD.keep [2, 3] [(2, dZ), (3, dZ)] rfl (zd _ _ rfl rfl rfl (zb rfl (za rfl rfl (zc rfl) (za rfl rfl (zg rfl) (zf rfl (ze (zH rfl ?_))))))))))))
    exact zG Tryz.results74 (.cons (zI rfl) .nil) rfl HSub.rfl' ⟨rfl, rfl⟩

set_option maxHeartbeats 4000000 in
set_option maxRecDepth 100000 in
theorem markedTokens_0   :
    CD Tryz.prog 84 [] [dZ] (isR (dB true)) := by
  refine zA Tryz.func84 rfl (N := 23) rfl rfl (fun C => ?_)
  refine JD.keep [0] [(0, dZ)] rfl (zd _ _ rfl rfl rfl (zb rfl (za rfl rfl (zg rfl) (zf rfl (ze (zd _ _ rfl rfl rfl (zd _ _ rfl rfl rfl (zb rfl (za rfl rfl (zg rfl) (zf rfl (ze (zu _ rfl rfl (zM (fun (g : Unit) => [(0, dZ), (3, dI 0)]) (fun (g : Unit) => []) (fun (g : Unit) => True) (fun (g : Unit) => 0) _ () rfl rfl ⟨sk rfl, sk rfl, trivial⟩ HSub.rfl' trivial ?_)))))))))))))
  rintro _ _
  refine JD.keep [0, 3] [(0, dZ), (3, dI 0)] rfl (JD.norm [] rfl (zd _ _ rfl rfl rfl (zd _ _ rfl rfl rfl (zb rfl (za rfl rfl (zc rfl) (za rfl rfl (zc rfl) (za rfl rfl (zam (n := 0) rfl ⟨_, _, rfl⟩ Tryz.runUnderlying32) (za rfl rfl (zU rfl rfl rfl) (zf rfl (ze ?_))))))))))
  refine zy _ _ rfl rfl rfl rfl (fun hc1 => ?_) (fun hc1 => ?_)
  · replace hc1 := of_decide_eq_true hc1
    exfalso; omega
  · replace hc1 := of_decide_eq_false hc1
    refine zN rfl (zw (zt (zq (ze (zd _ _ rfl rfl rfl (zb rfl (za rfl rfl (zg rfl) (zf rfl (ze (zH rfl ?_))))))))))
    exact zG Tryz.results84 (.cons (zI rfl) .nil) rfl HSub.rfl' ⟨rfl, rfl⟩

set_option maxHeartbeats 4000000 in
set_option maxRecDepth 100000 in
theorem stillCursors_0 (gb : Nat) (c0 c1 c2 c3 c4 c5 c6 c7 c8 c9 c10 c11 c13 c14 c15 c16 c17 c18 c19 : D)  :
    CD Tryz.prog 55 [.bx gb 38 (.agg [c0, c1, c2, c3, c4, c5, c6, c7, c8, c9, c10, c11, dZ, c13, c14, c15, c16, c17, c18, c19])] [dP gb 0] (fun r H' => r = dB true ∧ H' = [.bx gb 38 (.agg [c0, c1, c2, c3, c4, c5, c6, c7, c8, c9, c10, c11, dZ, c13, c14, c15, c16, c17, c18, c19])]) := by
  refine zA Tryz.func55 rfl (N := 29) rfl rfl (fun C => ?_)
  refine JD.keep [0] [(0, dP gb 0)] rfl (zd _ _ rfl rfl rfl (zb rfl (za rfl rfl (zg rfl) (zf rfl (ze (zd _ _ rfl rfl rfl (zd _ _ rfl rfl rfl (zb rfl (za rfl rfl (zg rfl) (zf rfl (ze (zu _ rfl rfl (zM (fun (g : Unit) => [(0, dP gb 0), (3, dI 0)]) (fun (g : Unit) => [.bx gb 38 (.agg [c0, c1, c2, c3, c4, c5, c6, c7, c8, c9, c10, c11, dZ, c13, c14, c15, c16, c17, c18, c19])]) (fun (g : Unit) => True) (fun (g : Unit) => 0) _ () rfl rfl ⟨sk rfl, sk rfl, trivial⟩ HSub.rfl' trivial ?_)))))))))))))
  rintro _ _
  refine JD.keep [0, 3] [(0, dP gb 0), (3, dI 0)] rfl (JD.norm [.bx gb 38 (.agg [c0, c1, c2, c3, c4, c5, c6, c7, c8, c9, c10, c11, dZ, c13, c14, c15, c16, c17, c18, c19])] rfl (zd _ _ rfl rfl rfl (zd _ _ rfl rfl rfl (zb rfl (za rfl rfl (zc rfl) (za rfl rfl (zc rfl) (za rfl rfl (zs rfl) (za rfl rfl (zh rfl fa_38_12 rfl) (za rfl rfl (zm rfl (i := 0) rfl Tryz.isAgg33 rfl) (za rfl rfl (zam (n := 0) rfl ⟨_, _, rfl⟩ Tryz.runUnderlying33) (za rfl rfl (zU rfl rfl rfl) (zf rfl (ze ?_)))))))))))))
  refine zy _ _ rfl rfl rfl rfl (fun hc1 => ?_) (fun hc1 => ?_)
  · replace hc1 := of_decide_eq_true hc1
    exfalso; omega
  · replace hc1 := of_decide_eq_false hc1
    refine zN rfl (zw (zt (zq (ze (JD.keep [] [] rfl (zd _ _ rfl rfl rfl (zb rfl (za rfl rfl (zg rfl) (zf rfl (ze (zH rfl ?_)))))))))))
    exact zG Tryz.results55 (.cons (zI rfl) .nil) rfl HSub.rfl' ⟨rfl, rfl⟩

set_option maxHeartbeats 4000000 in
set_option maxRecDepth 100000 in
theorem putCursors_0 (gb : Nat) (c0 c1 c2 c3 c4 c5 c6 c7 c8 c9 c10 c11 c13 c14 c15 c16 c17 c18 c19 : D)  :
    CD Tryz.prog 67 [.bx gb 38 (.agg [c0, c1, c2, c3, c4, c5, c6, c7, c8, c9, c10, c11, dZ, c13, c14, c15, c16, c17, c18, c19])] [dP gb 0] (fun r H' => r = .tup [] ∧ H' = [.bx gb 38 (.agg [c0, c1, c2, c3, c4, c5, c6, c7, c8, c9, c10, c11, dZ, c13, c14, c15, c16, c17, c18, c19])]) := by
  refine zA Tryz.func67 rfl (N := 43) rfl rfl (fun C => ?_)
  refine JD.keep [0] [(0, dP gb 0)] rfl (zd _ _ rfl rfl rfl (zb rfl (za rfl rfl (zg rfl) (zf rfl (ze (zu _ rfl rfl (zM (fun (g : Unit) => [(0, dP gb 0), (2, dI 0)]) (fun (g : Unit) => [.bx gb 38 (.agg [c0, c1, c2, c3, c4, c5, c6, c7, c8, c9, c10, c11, dZ, c13, c14, c15, c16, c17, c18, c19])]) (fun (g : Unit) => True) (fun (g : Unit) => 0) _ () rfl rfl ⟨sk rfl, sk rfl, trivial⟩ HSub.rfl' trivial ?_)))))))
  rintro _ _
  refine JD.keep [0, 2] [(0, dP gb 0), (2, dI 0)] rfl (JD.norm [.bx gb 38 (.agg [c0, c1, c2, c3, c4, c5, c6, c7, c8, c9, c10, c11, dZ, c13, c14, c15, c16, c17, c18, c19])] rfl (zd _ _ rfl rfl rfl (zd _ _ rfl rfl rfl (zb rfl (za rfl rfl (zc rfl) (za rfl rfl (zc rfl) (za rfl rfl (zs rfl) (za rfl rfl (zh rfl fa_38_12 rfl) (za rfl rfl (zm rfl (i := 0) rfl Tryz.isAgg33 rfl) (za rfl rfl (zam (n := 0) rfl ⟨_, _, rfl⟩ Tryz.runUnderlying33) (za rfl rfl (zU rfl rfl rfl) (zf rfl (ze ?_)))))))))))))
  refine zy _ _ rfl rfl rfl rfl (fun hc1 => ?_) (fun hc1 => ?_)
  · replace hc1 := of_decide_eq_true hc1
    exfalso; omega
  · replace hc1 := of_decide_eq_false hc1
    refine zN rfl (zw (zt (zq ?_)))
    exact zaO Tryz.results67 .nil rfl HSub.rfl' ⟨rfl, rfl⟩

set_option maxHeartbeats 4000000 in
set_option maxRecDepth 100000 in
theorem growCursors_0 (gb : Nat) (c0 c1 c2 c3 c4 c5 c6 c7 c8 c9 c10 c11 c13 c14 c15 c16 c17 c18 c19 : D)  :
    CD Tryz.prog 75 [.bx gb 38 (.agg [c0, c1, c2, c3, c4, c5, c6, c7, c8, c9, c10, c11, dZ, c13, c14, c15, c16, c17, c18, c19])] [dP gb 0] (fun r H' => r = dZ ∧ H' = [.bx gb 38 (.agg [c0, c1, c2, c3, c4, c5, c6, c7, c8, c9, c10, c11, dZ, c13, c14, c15, c16, c17, c18, c19])]) := by
  refine zA Tryz.func75 rfl (N := 43) rfl rfl (fun C => ?_)
  refine JD.keep [0] [(0, dP gb 0)] rfl (zd _ _ rfl rfl rfl (zb rfl (za rfl rfl (zg rfl) (zf rfl (ze (zd _ _ rfl rfl rfl (zb rfl (za rfl rfl (zg rfl) (zf rfl (ze (zd _ _ rfl rfl rfl (zd _ _ rfl rfl rfl (zb rfl (za rfl rfl (zg rfl) (zf rfl (ze (zu _ rfl rfl (zM (fun (g : Unit) => [(0, dP gb 0), (2, dZ), (4, dI 0), (3, dZ)]) (fun (g : Unit) => [.bx gb 38 (.agg [c0, c1, c2, c3, c4, c5, c6, c7, c8, c9, c10, c11, dZ, c13, c14, c15, c16, c17, c18, c19])]) (fun (g : Unit) => True) (fun (g : Unit) => 0) _ () rfl rfl ⟨sk rfl, sk rfl, sk rfl, sk rfl, trivial⟩ HSub.rfl' trivial ?_))))))))))))))))))
  rintro _ _
  refine JD.keep [0, 2, 4, 3] [(0, dP gb 0), (2, dZ), (4, dI 0), (3, dZ)] rfl (JD.norm [.bx gb 38 (.agg [c0, c1, c2, c3, c4, c5, c6, c7, c8, c9, c10, c11, dZ, c13, c14, c15, c16, c17, c18, c19])] rfl (zd _ _ rfl rfl rfl (zd _ _ rfl rfl rfl (zb rfl (za rfl rfl (zc rfl) (za rfl rfl (zc rfl) (za rfl rfl (zs rfl) (za rfl rfl (zh rfl fa_38_12 rfl) (za rfl rfl (zm rfl (i := 0) rfl Tryz.isAgg33 rfl) (za rfl rfl (zam (n := 0) rfl ⟨_, _, rfl⟩ Tryz.runUnderlying33) (za rfl rfl (zU rfl rfl rfl) (zf rfl (ze ?_)))))))))))))
  refine zy _ _ rfl rfl rfl rfl (fun hc1 => ?_) (fun hc1 => ?_)
  · replace hc1 := of_decide_eq_true hc1
    exfalso; omega
  · replace hc1 := of_decide_eq_false hc1
    refine zN rfl (zw (zt (zq (ze (JD.keep [2, 3] [(2, dZ), (3, dZ)] rfl (zd _ _ rfl rfl rfl (zb rfl (za rfl rfl (zc rfl) (za rfl rfl (zg rfl) (zf rfl (ze (zH rfl ?_))))))))))))
    exact zG Tryz.results75 (.cons (zI rfl) .nil) rfl HSub.rfl' ⟨rfl, rfl⟩

set_option maxHeartbeats 4000000 in
set_option maxRecDepth 100000 in
theorem markedCursors_0   :
    CD Tryz.prog 85 [] [dZ] (isR (dB true)) := by
  refine zA Tryz.func85 rfl (N := 23) rfl rfl (fun C => ?_)
  refine JD.keep [0] [(0, dZ)] rfl (zd _ _ rfl rfl rfl (zb rfl (za rfl rfl (zg rfl) (zf rfl (ze (zd _ _ rfl rfl rfl (zd _ _ rfl rfl rfl (zb rfl (za rfl rfl (zg rfl) (zf rfl (ze (zu _ rfl rfl (zM (fun (g : Unit) => [(0, dZ), (3, dI 0)]) (fun (g : Unit) => []) (fun (g : Unit) => True) (fun (g : Unit) => 0) _ () rfl rfl ⟨sk rfl, sk rfl, trivial⟩ HSub.rfl' trivial ?_)))))))))))))
  rintro _ _
  refine JD.keep [0, 3] [(0, dZ), (3, dI 0)] rfl (JD.norm [] rfl (zd _ _ rfl rfl rfl (zd _ _ rfl rfl rfl (zb rfl (za rfl rfl (zc rfl) (za rfl rfl (zc rfl) (za rfl rfl (zam (n := 0) rfl ⟨_, _, rfl⟩ Tryz.runUnderlying33) (za rfl rfl (zU rfl rfl rfl) (zf rfl (ze ?_))))))))))
  refine zy _ _ rfl rfl rfl rfl (fun hc1 => ?_) (fun hc1 => ?_)
  · replace hc1 := of_decide_eq_true hc1
    exfalso; omega
  · replace hc1 := of_decide_eq_false hc1
    refine zN rfl (zw (zt (zq (ze (zd _ _ rfl rfl rfl (zb rfl (za rfl rfl (zg rfl) (zf rfl (ze (zH rfl ?_))))))))))
    exact zG Tryz.results85 (.cons (zI rfl) .nil) rfl HSub.rfl' ⟨rfl, rfl⟩

set_option maxHeartbeats 4000000 in
set_option maxRecDepth 100000 in
theorem stillNotes_0 (gb : Nat) (c0 c1 c2 c3 c4 c5 c6 c7 c8 c9 c10 c11 c12 c13 c15 c16 c17 c18 c19 : D)  :
    CD Tryz.prog 56 [.bx gb 38 (.agg [c0, c1, c2, c3, c4, c5, c6, c7, c8, c9, c10, c11, c12, c13, dZ, c15, c16, c17, c18, c19])] [dP gb 0] (fun r H' => r = dB true ∧ H' = [.bx gb 38 (.agg [c0, c1, c2, c3, c4, c5, c6, c7, c8, c9, c10, c11, c12, c13, dZ, c15, c16, c17, c18, c19])]) := by
  refine zA Tryz.func56 rfl (N := 29) rfl rfl (fun C => ?_)
  refine JD.keep [0] [(0, dP gb 0)] rfl (zd _ _ rfl rfl rfl (zb rfl (za rfl rfl (zg rfl) (zf rfl (ze (zd _ _ rfl rfl rfl (zd _ _ rfl rfl rfl (zb rfl (za rfl rfl (zg rfl) (zf rfl (ze (zu _ rfl rfl (zM (fun (g : Unit) => [(0, dP gb 0), (3, dI 0)]) (fun (g : Unit) => [.bx gb 38 (.agg [c0, c1, c2, c3, c4, c5, c6, c7, c8, c9, c10, c11, c12, c13, dZ, c15, c16, c17, c18, c19])]) (fun (g : Unit) => True) (fun (g : Unit) => 0) _ () rfl rfl ⟨sk rfl, sk rfl, trivial⟩ HSub.rfl' trivial ?_)))))))))))))
  rintro _ _
  refine JD.keep [0, 3] [(0, dP gb 0), (3, dI 0)] rfl (JD.norm [.bx gb 38 (.agg [c0, c1, c2, c3, c4, c5, c6, c7, c8, c9, c10, c11, c12, c13, dZ, c15, c16, c17, c18, c19])] rfl (zd _ _ rfl rfl rfl (zd _ _ rfl rfl rfl (zb rfl (za rfl rfl (zc rfl) (za rfl rfl (zc rfl) (za rfl rfl (zs rfl) (za rfl rfl (zh rfl fa_38_14 rfl) (za rfl rfl (zm rfl (i := 0) rfl Tryz.isAgg34 rfl) (za rfl rfl (zam (n := 0) rfl ⟨_, _, rfl⟩ Tryz.runUnderlying34) (za rfl rfl (zU rfl rfl rfl) (zf rfl (ze ?_)))))))))))))
  refine zy _ _ rfl rfl rfl rfl (fun hc1 => ?_) (fun hc1 => ?_)
  · replace hc1 := of_decide_eq_true hc1
    exfalso; omega
  · replace hc1 := of_decide_eq_false hc1
    refine zN rfl (zw (zt (zq (ze (JD.keep [] [] rfl (zd _ _ rfl rfl rfl (zb rfl (za rfl rfl (zg rfl) (zf rfl (ze (zH rfl ?_)))))))))))
    exact zG Tryz.results56 (.cons (zI rfl) .nil) rfl HSub.rfl' ⟨rfl, rfl⟩

set_option maxHeartbeats 4000000 in
set_option maxRecDepth 100000 in
theorem putNotes_0 (gb : Nat) (c0 c1 c2 c3 c4 c5 c6 c7 c8 c9 c10 c11 c12 c13 c15 c16 c17 c18 c19 : D)  :
    CD Tryz.prog 68 [.bx gb 38 (.agg [c0, c1, c2, c3, c4, c5, c6, c7, c8, c9, c10, c11, c12, c13, dZ, c15, c16, c17, c18, c19])] [dP gb 0] (fun r H' => r = .tup [] ∧ H' = [.bx gb 38 (.agg [c0, c1, c2, c3, c4, c5, c6, c7, c8, c9, c10, c11, c12, c13, dZ, c15, c16, c17, c18, c19])]) := by
  refine zA Tryz.func68 rfl (N := 43) rfl rfl (fun C => ?_)
  refine JD.keep [0] [(0, dP gb 0)] rfl (zd _ _ rfl rfl rfl (zb rfl (za rfl rfl (zg rfl) (zf rfl (ze (zu _ rfl rfl (zM (fun (g : Unit) => [(0, dP gb 0), (2, dI 0)]) (fun (g : Unit) => [.bx gb 38 (.agg [c0, c1, c2, c3, c4, c5, c6, c7, c8, c9, c10, c11, c12, c13, dZ, c15, c16, c17, c18, c19])]) (fun (g : Unit) => True) (fun (g : Unit) => 0) _ () rfl rfl ⟨sk rfl, sk rfl, trivial⟩ HSub.rfl' trivial ?_)))))))
  rintro _ _
  refine JD.keep [0, 2] [(0, dP gb 0), (2, dI 0)] rfl (JD.norm [.bx gb 38 (.agg [c0, c1, c2, c3, c4, c5, c6, c7, c8, c9, c10, c11, c12, c13, dZ, c15, c16, c17, c18, c19])] rfl (zd _ _ rfl rfl rfl (zd _ _ rfl rfl rfl (zb rfl (za rfl rfl (zc rfl) (za rfl rfl (zc rfl) (za rfl rfl (zs rfl) (za rfl rfl (zh rfl fa_38_14 rfl) (za rfl rfl (zm rfl (i := 0) rfl Tryz.isAgg34 rfl) (za rfl rfl (zam (n := 0) rfl ⟨_, _, rfl⟩ Tryz.runUnderlying34) (za rfl rfl (zU rfl rfl rfl) (zf rfl (ze ?_)))))))))))))
  refine zy _ _ rfl rfl rfl rfl (fun hc1 => ?_) (fun hc1 => ?_)
  · replace hc1 := of_decide_eq_true hc1
    exfalso; omega
  · replace hc1 := of_decide_eq_false hc1
    refine zN rfl (zw (zt (zq ?_)))
    exact zaO Tryz.results68 .nil rfl HSub.rfl' ⟨rfl, rfl⟩

set_option maxHeartbeats 4000000 in
set_option maxRecDepth 100000 in
theorem growNotes_0 (gb : Nat) (c0 c1 c2 c3 c4 c5 c6 c7 c8 c9 c10 c11 c12 c13 c15 c16 c17 c18 c19 : D)  :
    CD Tryz.prog 76 [.bx gb 38 (.agg [c0, c1, c2, c3, c4, c5, c6, c7, c8, c9, c10, c11, c12, c13, dZ, c15, c16, c17, c18, c19])] [dP gb 0] (fun r H' => r = dZ ∧ H' = [.bx gb 38 (.agg [c0, c1, c2, c3, c4, c5, c6, c7, c8, c9, c10, c11, c12, c13, dZ, c15, c16, c17, c18, c19])]) := by
  refine zA Tryz.func76 rfl (N := 43) rfl rfl (fun C => ?_)
  refine JD.keep [0] [(0, dP gb 0)] rfl (zd _ _ rfl rfl rfl (zb rfl (za rfl rfl (zg rfl) (zf rfl (ze (zd _ _ rfl rfl rfl (zb rfl (za rfl rfl (zg rfl) (zf rfl (ze (zd _ _ rfl rfl rfl (zd _ _ rfl rfl rfl (zb rfl (za rfl rfl (zg rfl) (zf rfl (ze (zu _ rfl rfl (zM (fun (g : Unit) => [(0, dP gb 0), (2, dZ), (4, dI 0), (3, dZ)]) (fun (g : Unit) => [.bx gb 38 (.agg [c0, c1, c2, c3, c4, c5, c6, c7, c8, c9, c10, c11, c12, c13, dZ, c15, c16, c17, c18, c19])]) (fun (g : Unit) => True) (fun (g : Unit) => 0) _ () rfl rfl ⟨sk rfl, sk rfl, sk rfl, sk rfl, trivial⟩ HSub.rfl' trivial ?_))))))))))))))))))
  rintro _ _
  refine JD.keep [0, 2, 4, 3] [(0, dP gb 0), (2, dZ), (4, dI 0), (3, dZ)] rfl (JD.norm [.bx gb 38 (.agg [c0, c1, c2, c3, c4, c5, c6, c7, c8, c9, c10, c11, c12, c13, dZ, c15, c16, c17, c18, c19])] rfl (zd _ _ rfl rfl rfl (zd _ _ rfl rfl rfl (zb rfl (za rfl rfl (zc rfl) (za rfl rfl (zc rfl) (za rfl rfl (zs rfl) (za rfl rfl (zh rfl fa_38_14 rfl) (za rfl rfl (zm rfl (i := 0) rfl Tryz.isAgg34 rfl) (za rfl rfl (zam (n := 0) rfl ⟨_, _, rfl⟩ Tryz.runUnderlying34) (za rfl rfl (zU rfl rfl rfl) (zf rfl (ze ?_)))))))))))))
  refine zy _ _ rfl rfl rfl rfl (fun hc1 => ?_) (fun hc1 => ?_)
  · replace hc1 := of_decide_eq_true hc1
    exfalso; omega
  · replace hc1 := of_decide_eq_false hc1
    refine zN rfl (zw (zt (zq (ze (JD.keep [2, 3] [(2, dZ), (3, dZ)] rfl (zd _ _ rfl rfl rfl (zb rfl (za rfl rfl (zc rfl) (za rfl rfl (zg rfl) (zf rfl (ze (zH rfl ?_))))))))))))
    exact zG Tryz.results76 (.cons (zI rfl) .nil) rfl HSub.rfl' ⟨rfl, rfl⟩

set_option maxHeartbeats 4000000 in
set_option maxRecDepth 100000 in
theorem markedNotes_0   :
    CD Tryz.prog 86 [] [dZ] (isR (dB true)) := by
  refine zA Tryz.func86 rfl (N := 23) rfl rfl (fun C => ?_)
  refine JD.keep [0] [(0, dZ)] rfl (zd _ _ rfl rfl rfl (zb rfl (za rfl rfl (zg rfl) (zf rfl (ze (zd _ _ rfl rfl rfl (zd _ _ rfl rfl rfl (zb rfl (za rfl rfl (zg rfl) (zf rfl (ze (zu _ rfl rfl (zM (fun (g : Unit) => [(0, dZ), (3, dI 0)]) (fun (g : Unit) => []) (fun (g : Unit) => True) (fun (g : Unit) => 0) _ () rfl rfl ⟨sk rfl, sk rfl, trivial⟩ HSub.rfl' trivial ?_)))))))))))))
  rintro _ _
  refine JD.keep [0, 3] [(0, dZ), (3, dI 0)] rfl (JD.norm [] rfl (zd _ _ rfl rfl rfl (zd _ _ rfl rfl rfl (zb rfl (za rfl rfl (zc rfl) (za rfl rfl (zc rfl) (za rfl rfl (zam (n := 0) rfl ⟨_, _, rfl⟩ Tryz.runUnderlying34) (za rfl rfl (zU rfl rfl rfl) (zf rfl (ze ?_))))))))))
  refine zy _ _ rfl rfl rfl rfl (fun hc1 => ?_) (fun hc1 => ?_)
  · replace hc1 := of_decide_eq_true hc1
    exfalso; omega
  · replace hc1 := of_decide_eq_false hc1
    refine zN rfl (zw (zt (zq (ze (zd _ _ rfl rfl rfl (zb rfl (za rfl rfl (zg rfl) (zf rfl (ze (zH rfl ?_))))))))))
    exact zG Tryz.results86 (.cons (zI rfl) .nil) rfl HSub.rfl' ⟨rfl, rfl⟩

set_option maxHeartbeats 4000000 in
set_option maxRecDepth 100000 in
theorem stillSeries_0 (gb : Nat) (c0 c1 c2 c3 c4 c5 c6 c7 c8 c9 c10 c11 c12 c13 c14 c15 c16 c17 c19 : D)  :
    CD Tryz.prog 58 [.bx gb 38 (.agg [c0, c1, c2, c3, c4, c5, c6, c7, c8, c9, c10, c11, c12, c13, c14, c15, c16, c17, dZ, c19])] [dP gb 0] (fun r H' => r = dB true ∧ H' = [.bx gb 38 (.agg [c0, c1, c2, c3, c4, c5, c6, c7, c8, c9, c10, c11, c12, c13, c14, c15, c16, c17, dZ, c19])]) := by
  refine zA Tryz.func58 rfl (N := 29) rfl rfl (fun C => ?_)
  refine JD.keep [0] [(0, dP gb 0)] rfl (zd _ _ rfl rfl rfl (zb rfl (za rfl rfl (zg rfl) (zf rfl (ze (zd _ _ rfl rfl rfl (zd _ _ rfl rfl rfl (zb rfl (za rfl rfl (zg rfl) (zf rfl (ze (zu _ rfl rfl (zM (fun (g : Unit) => [(0, dP gb 0), (3, dI 0)]) (fun (g : Unit) => [.bx gb 38 (.agg [c0, c1, c2, c3, c4, c5, c6, c7, c8, c9, c10, c11, c12, c13, c14, c15, c16, c17, dZ, c19])]) (fun (g : Unit) => True) (fun (g : Unit) => 0) _ () rfl rfl ⟨sk rfl, sk rfl, trivial⟩ HSub.rfl' trivial ?_)))))))))))))
  rintro _ _
  refine JD.keep [0, 3] [(0, dP gb 0), (3, dI 0)] rfl (JD.norm [.bx gb 38 (.agg [c0, c1, c2, c3, c4, c5, c6, c7, c8, c9, c10, c11, c12, c13, c14, c15, c16, c17, dZ, c19])] rfl (zd _ _ rfl rfl rfl (zd _ _ rfl rfl rfl (zb rfl (za rfl rfl (zc rfl) (za rfl rfl (zc rfl) (za rfl rfl (zs rfl) (za rfl rfl (zh rfl fa_38_18 rfl) (za rfl rfl (zm rfl (i := 0) rfl Tryz.isAgg36 rfl) (za rfl rfl (zam (n := 0) rfl ⟨_, _, rfl⟩ Tryz.runUnderlying36) (za rfl rfl (zU rfl rfl rfl) (zf rfl (ze ?_)))))))))))))
  refine zy _ _ rfl rfl rfl rfl (fun hc1 => ?_) (fun hc1 => ?_)
  · replace hc1 := of_decide_eq_true hc1
    exfalso; omega
  · replace hc1 := of_decide_eq_false hc1
    refine zN rfl (zw (zt (zq (ze (JD.keep [] [] rfl (zd _ _ rfl rfl rfl (zb rfl (za rfl rfl (zg rfl) (zf rfl (ze (zH rfl ?_)))))))))))
    exact zG Tryz.results58 (.cons (zI rfl) .nil) rfl HSub.rfl' ⟨rfl, rfl⟩

set_option maxHeartbeats 4000000 in
set_option maxRecDepth 100000 in
theorem putSeries_0 (gb : Nat) (c0 c1 c2 c3 c4 c5 c6 c7 c8 c9 c10 c11 c12 c13 c14 c15 c16 c17 c19 : D)  :
    CD Tryz.prog 60 [.bx gb 38 (.agg [c0, c1, c2, c3, c4, c5, c6, c7, c8, c9, c10, c11, c12, c13, c14, c15, c16, c17, dZ, c19])] [dP gb 0] (fun r H' => r = .tup [] ∧ H' = [.bx gb 38 (.agg [c0, c1, c2, c3, c4, c5, c6, c7, c8, c9, c10, c11, c12, c13, c14, c15, c16, c17, dZ, c19])]) := by
  refine zA Tryz.func60 rfl (N := 43) rfl rfl (fun C => ?_)
  refine JD.keep [0] [(0, dP gb 0)] rfl (zd _ _ rfl rfl rfl (zb rfl (za rfl rfl (zg rfl) (zf rfl (ze (zu _ rfl rfl (zM (fun (g : Unit) => [(0, dP gb 0), (2, dI 0)]) (fun (g : Unit) => [.bx gb 38 (.agg [c0, c1, c2, c3, c4, c5, c6, c7, c8, c9, c10, c11, c12, c13, c14, c15, c16, c17, dZ, c19])]) (fun (g : Unit) => True) (fun (g : Unit) => 0) _ () rfl rfl ⟨sk rfl, sk rfl, trivial⟩ HSub.rfl' trivial ?_)))))))
  rintro _ _
  refine JD.keep [0, 2] [(0, dP gb 0), (2, dI 0)] rfl (JD.norm [.bx gb 38 (.agg [c0, c1, c2, c3, c4, c5, c6, c7, c8, c9, c10, c11, c12, c13, c14, c15, c16, c17, dZ, c19])] rfl (zd _ _ rfl rfl rfl (zd _ _ rfl rfl rfl (zb rfl (za rfl rfl (zc rfl) (za rfl rfl (zc rfl) (za rfl rfl (zs rfl) (za rfl rfl (zh rfl fa_38_18 rfl) (za rfl rfl (zm rfl (i := 0) rfl Tryz.isAgg36 rfl) (za rfl rfl (zam (n := 0) rfl ⟨_, _, rfl⟩ Tryz.runUnderlying36) (za rfl rfl (zU rfl rfl rfl) (zf rfl (ze ?_)))))))))))))
  refine zy _ _ rfl rfl rfl rfl (fun hc1 => ?_) (fun hc1 => ?_)
  · replace hc1 := of_decide_eq_true hc1
    exfalso; omega
  · replace hc1 := of_decide_eq_false hc1
    refine zN rfl (zw (zt (zq ?_)))
    exact zaO Tryz.results60 .nil rfl HSub.rfl' ⟨rfl, rfl⟩

set_option maxHeartbeats 4000000 in
set_option maxRecDepth 100000 in
theorem growSeries_0 (gb : Nat) (c0 c1 c2 c3 c4 c5 c6 c7 c8 c9 c10 c11 c12 c13 c14 c15 c16 c17 c19 : D)  :
    CD Tryz.prog 78 [.bx gb 38 (.agg [c0, c1, c2, c3, c4, c5, c6, c7, c8, c9, c10, c11, c12, c13, c14, c15, c16, c17, dZ, c19])] [dP gb 0] (fun r H' => r = dZ ∧ H' = [.bx gb 38 (.agg [c0, c1, c2, c3, c4, c5, c6, c7, c8, c9, c10, c11, c12, c13, c14, c15, c16, c17, dZ, c19])]) := by
  refine zA Tryz.func78 rfl (N := 43) rfl rfl (fun C => ?_)
  refine JD.keep [0] [(0, dP gb 0)] rfl (zd _ _ rfl rfl rfl (zb rfl (za rfl rfl (zg rfl) (zf rfl (ze (zd _ _ rfl rfl rfl (zb rfl (za rfl rfl (zg rfl) (zf rfl (ze (zd _ _ rfl rfl rfl (zd _ _ rfl rfl rfl (zb rfl (za rfl rfl (zg rfl) (zf rfl (ze (zu _ rfl rfl (zM (fun (g : Unit) => [(0, dP gb 0), (2, dZ), (4, dI 0), (3, dZ)]) (fun (g : Unit) => [.bx gb 38 (.agg [c0, c1, c2, c3, c4, c5, c6, c7, c8, c9, c10, c11, c12, c13, c14, c15, c16, c17, dZ, c19])]) (fun (g : Unit) => True) (fun (g : Unit) => 0) _ () rfl rfl ⟨sk rfl, sk rfl, sk rfl, sk rfl, trivial⟩ HSub.rfl' trivial ?_))))))))))))))))))
  rintro _ _
  refine JD.keep [0, 2, 4, 3] [(0, dP gb 0), (2, dZ), (4, dI 0), (3, dZ)] rfl (JD.norm [.bx gb 38 (.agg [c0, c1, c2, c3, c4, c5, c6, c7, c8, c9, c10, c11, c12, c13, c14, c15, c16, c17, dZ, c19])] rfl (zd _ _ rfl rfl rfl (zd _ _ rfl rfl rfl (zb rfl (za rfl rfl (zc rfl) (za rfl rfl (zc rfl) (za rfl rfl (zs rfl) (za rfl rfl (zh rfl fa_38_18 rfl) (za rfl rfl (zm rfl (i := 0) rfl Tryz.isAgg36 rfl) (za rfl rfl (zam (n := 0) rfl ⟨_, _, rfl⟩ Tryz.runUnderlying36) (za rfl rfl (zU rfl rfl rfl) (zf rfl (ze ?_)))))))))))))
  refine zy _ _ rfl rfl rfl rfl (fun hc1 => ?_) (fun hc1 => ?_)
  · replace hc1 := of_decide_eq_true hc1
    exfalso; omega
  · replace hc1 := of_decide_eq_false hc1
    refine zN rfl (zw (zt (zq (ze (JD.keep [2, 3] [(2, dZ), (3, dZ)] rfl (zd _ _ rfl rfl rfl (zb rfl (za rfl rfl (zc rfl) (za rfl rfl (zg rfl) (zf rfl (ze (zH rfl ?_))))))))))))
    exact zG Tryz.results78 (.cons (zI rfl) .nil) rfl HSub.rfl' ⟨rfl, rfl⟩

set_option maxHeartbeats 4000000 in
set_option maxRecDepth 100000 in
theorem markedSeries_0   :
    CD Tryz.prog 88 [] [dZ] (isR (dB true)) := by
  refine zA Tryz.func88 rfl (N := 23) rfl rfl (fun C => ?_)
  refine JD.keep [0] [(0, dZ)] rfl (zd _ _ rfl rfl rfl (zb rfl (za rfl rfl (zg rfl) (zf rfl (ze (zd _ _ rfl rfl rfl (zd _ _ rfl rfl rfl (zb rfl (za rfl rfl (zg rfl) (zf rfl (ze (zu _ rfl rfl (zM (fun (g : Unit) => [(0, dZ), (3, dI 0)]) (fun (g : Unit) => []) (fun (g : Unit) => True) (fun (g : Unit) => 0) _ () rfl rfl ⟨sk rfl, sk rfl, trivial⟩ HSub.rfl' trivial ?_)))))))))))))
  rintro _ _
  refine JD.keep [0, 3] [(0, dZ), (3, dI 0)] rfl (JD.norm [] rfl (zd _ _ rfl rfl rfl (zd _ _ rfl rfl rfl (zb rfl (za rfl rfl (zc rfl) (za rfl rfl (zc rfl) (za rfl rfl (zam (n := 0) rfl ⟨_, _, rfl⟩ Tryz.runUnderlying36) (za rfl rfl (zU rfl rfl rfl) (zf rfl (ze ?_))))))))))
  refine zy _ _ rfl rfl rfl rfl (fun hc1 => ?_) (fun hc1 => ?_)
  · replace hc1 := of_decide_eq_true hc1
    exfalso; omega
  · replace hc1 := of_decide_eq_false hc1
    refine zN rfl (zw (zt (zq (ze (zd _ _ rfl rfl rfl (zb rfl (za rfl rfl (zg rfl) (zf rfl (ze (zH rfl ?_))))))))))
    exact zG Tryz.results88 (.cons (zI rfl) .nil) rfl HSub.rfl' ⟨rfl, rfl⟩

set_option maxHeartbeats 4000000 in
set_option maxRecDepth 100000 in
theorem Apart_c (gb : Nat) (vRb vRw : Value) (KR : List (Kp RowD)) (WR : List (List RowD)) (hKR : KR.length ≤ 250) (hBR : ∀ x ∈ KR, x.l.length ≤ 1000000) (hWR : WR = KR.map (·.l)) :
    CD Tryz.prog 15 ([.bx gb 38 (zz vRb vRw), .sl vRb 1 22 (KR.map Kp.d), .sl vRw 1 22 (WR.map (D.ls 2 RowD.d))] ++ (KR.map (Kp.h 2 71 RowD.d))) [dP gb 0] (isR (dB true)) := by
  refine zA Tryz.func15 rfl (N := 191) rfl rfl (fun C => ?_)
  refine JD.keep [0] [(0, dP gb 0)] rfl (zd _ _ rfl rfl rfl (zb rfl (za rfl rfl (zg rfl) (zf rfl (ze (zd _ _ rfl rfl rfl (zd _ _ rfl rfl rfl (zb rfl (za rfl rfl (zc rfl) (zi rfl rfl (zx [.bx gb 38 (zz vRb vRw)] ([.sl vRb 1 22 (KR.map Kp.d), .sl vRw 1 22 (WR.map (D.ls 2 RowD.d))] ++ (KR.map (Kp.h 2 71 RowD.d))) [] rfl rfl (.cons ArgC.id .nil) zr Tryz.call49 (stillTexts_0 gb (dZ) (dZ) (dZ) (dZ) (dZ) (dZ) (dZ) (dZ) (dZ) (dZ) (dZ) (dZ) (dZ) (dZ) (dZ) (.ov vRb) (.ov vRw) (dZ) (dZ)) (.inl rfl)) ?_))))))))))
  rintro _ _ ⟨_, ⟨rfl, rfl⟩, rfl⟩
  refine OpsD.norm ([.bx gb 38 (zz vRb vRw), .sl vRb 1 22 (KR.map Kp.d), .sl vRw 1 22 (WR.map (D.ls 2 RowD.d))] ++ (KR.map (Kp.h 2 71 RowD.d))) rfl (za rfl rfl (za9 (q := true) rfl) (zf rfl (ze (zaw _ rfl rfl rfl (zD rfl (ze (zd _ _ rfl rfl rfl (zd _ _ rfl rfl rfl (zb rfl (za rfl rfl (zc rfl) ?_))))))))))
  refine zi rfl rfl (zx [.bx gb 38 (zz vRb vRw)] ([.sl vRb 1 22 (KR.map Kp.d), .sl vRw 1 22 (WR.map (D.ls 2 RowD.d))] ++ (KR.map (Kp.h 2 71 RowD.d))) [] rfl rfl (.cons ArgC.id .nil) zr Tryz.call50 (stillInts_0 gb (dZ) (dZ) (dZ) (dZ) (dZ) (dZ) (dZ) (dZ) (dZ) (dZ) (dZ) (dZ) (dZ) (dZ) (dZ) (.ov vRb) (.ov vRw) (dZ) (dZ)) (.inl rfl)) ?_
  rintro _ _ ⟨_, ⟨rfl, rfl⟩, rfl⟩
  refine OpsD.norm ([.bx gb 38 (zz vRb vRw), .sl vRb 1 22 (KR.map Kp.d), .sl vRw 1 22 (WR.map (D.ls 2 RowD.d))] ++ (KR.map (Kp.h 2 71 RowD.d))) rfl (za rfl rfl (za9 (q := true) rfl) (zf rfl (ze (zaw _ rfl rfl rfl (zD rfl (ze (zd _ _ rfl rfl rfl (zd _ _ rfl rfl rfl (zb rfl (za rfl rfl (zc rfl) ?_))))))))))
  refine zi rfl rfl (zx [.bx gb 38 (zz vRb vRw)] ([.sl vRb 1 22 (KR.map Kp.d), .sl vRw 1 22 (WR.map (D.ls 2 RowD.d))] ++ (KR.map (Kp.h 2 71 RowD.d))) [] rfl rfl (.cons ArgC.id .nil) zr Tryz.call51 (stillRunes_0 gb (dZ) (dZ) (dZ) (dZ) (dZ) (dZ) (dZ) (dZ) (dZ) (dZ) (dZ) (dZ) (dZ) (dZ) (dZ) (.ov vRb) (.ov vRw) (dZ) (dZ)) (.inl rfl)) ?_
  rintro _ _ ⟨_, ⟨rfl, rfl⟩, rfl⟩
  refine OpsD.norm ([.bx gb 38 (zz vRb vRw), .sl vRb 1 22 (KR.map Kp.d), .sl vRw 1 22 (WR.map (D.ls 2 RowD.d))] ++ (KR.map (Kp.h 2 71 RowD.d))) rfl (za rfl rfl (za9 (q := true) rfl) (zf rfl (ze (zaw _ rfl rfl rfl (zD rfl (ze (JD.keep [0, 2] [(0, dP gb 0), (2, dB false)] rfl (zd _ _ rfl rfl rfl (zd _ _ rfl rfl rfl (zb rfl (za rfl rfl (zc rfl) ?_)))))))))))
  refine zi rfl rfl (zx [.bx gb 38 (zz vRb vRw)] ([.sl vRb 1 22 (KR.map Kp.d), .sl vRw 1 22 (WR.map (D.ls 2 RowD.d))] ++ (KR.map (Kp.h 2 71 RowD.d))) [] rfl rfl (.cons ArgC.id .nil) zr Tryz.call52 (stillLabels_0 gb (dZ) (dZ) (dZ) (dZ) (dZ) (dZ) (dZ) (dZ) (dZ) (dZ) (dZ) (dZ) (dZ) (dZ) (dZ) (.ov vRb) (.ov vRw) (dZ) (dZ)) (.inl rfl)) ?_
  rintro _ _ ⟨_, ⟨rfl, rfl⟩, rfl⟩
  refine OpsD.norm ([.bx gb 38 (zz vRb vRw), .sl vRb 1 22 (KR.map Kp.d), .sl vRw 1 22 (WR.map (D.ls 2 RowD.d))] ++ (KR.map (Kp.h 2 71 RowD.d))) rfl (za rfl rfl (za9 (q := true) rfl) (zf rfl (ze (zaw _ rfl rfl rfl (zD rfl (ze (zd _ _ rfl rfl rfl (zd _ _ rfl rfl rfl (zb rfl (za rfl rfl (zc rfl) ?_))))))))))
  refine zi rfl rfl (zx [.bx gb 38 (zz vRb vRw)] ([.sl vRb 1 22 (KR.map Kp.d), .sl vRw 1 22 (WR.map (D.ls 2 RowD.d))] ++ (KR.map (Kp.h 2 71 RowD.d))) [] rfl rfl (.cons ArgC.id .nil) zr Tryz.call53 (stillPoints_0 gb (dZ) (dZ) (dZ) (dZ) (dZ) (dZ) (dZ) (dZ) (dZ) (dZ) (dZ) (dZ) (dZ) (dZ) (dZ) (.ov vRb) (.ov vRw) (dZ) (dZ)) (.inl rfl)) ?_
  rintro _ _ ⟨_, ⟨rfl, rfl⟩, rfl⟩
  refine OpsD.norm ([.bx gb 38 (zz vRb vRw), .sl vRb 1 22 (KR.map Kp.d), .sl vRw 1 22 (WR.map (D.ls 2 RowD.d))] ++ (KR.map (Kp.h 2 71 RowD.d))) rfl (za rfl rfl (za9 (q := true) rfl) (zf rfl (ze (zaw _ rfl rfl rfl (zD rfl (ze (zd _ _ rfl rfl rfl (zd _ _ rfl rfl rfl (zb rfl (za rfl rfl (zc rfl) ?_))))))))))
  refine zi rfl rfl (zx [.bx gb 38 (zz vRb vRw)] ([.sl vRb 1 22 (KR.map Kp.d), .sl vRw 1 22 (WR.map (D.ls 2 RowD.d))] ++ (KR.map (Kp.h 2 71 RowD.d))) [] rfl rfl (.cons ArgC.id .nil) zr Tryz.call54 (stillTokens_0 gb (dZ) (dZ) (dZ) (dZ) (dZ) (dZ) (dZ) (dZ) (dZ) (dZ) (dZ) (dZ) (dZ) (dZ) (dZ) (.ov vRb) (.ov vRw) (dZ) (dZ)) (.inl rfl)) ?_
  rintro _ _ ⟨_, ⟨rfl, rfl⟩, rfl⟩
  refine OpsD.norm ([.bx gb 38 (zz vRb vRw), .sl vRb 1 22 (KR.map Kp.d), .sl vRw 1 22 (WR.map (D.ls 2 RowD.d))] ++ (KR.map (Kp.h 2 71 RowD.d))) rfl (za rfl rfl (za9 (q := true) rfl) (zf rfl (ze (zaw _ rfl rfl rfl (zD rfl (ze (JD.keep [0, 2] [(0, dP gb 0), (2, dB false)] rfl (zd _ _ rfl rfl rfl (zd _ _ rfl rfl rfl (zb rfl (za rfl rfl (zc rfl) ?_)))))))))))
  refine zi rfl rfl (zx [.bx gb 38 (zz vRb vRw)] ([.sl vRb 1 22 (KR.map Kp.d), .sl vRw 1 22 (WR.map (D.ls 2 RowD.d))] ++ (KR.map (Kp.h 2 71 RowD.d))) [] rfl rfl (.cons ArgC.id .nil) zr Tryz.call55 (stillCursors_0 gb (dZ) (dZ) (dZ) (dZ) (dZ) (dZ) (dZ) (dZ) (dZ) (dZ) (dZ) (dZ) (dZ) (dZ) (dZ) (.ov vRb) (.ov vRw) (dZ) (dZ)) (.inl rfl)) ?_
  rintro _ _ ⟨_, ⟨rfl, rfl⟩, rfl⟩
  refine OpsD.norm ([.bx gb 38 (zz vRb vRw), .sl vRb 1 22 (KR.map Kp.d), .sl vRw 1 22 (WR.map (D.ls 2 RowD.d))] ++ (KR.map (Kp.h 2 71 RowD.d))) rfl (za rfl rfl (za9 (q := true) rfl) (zf rfl (ze (zaw _ rfl rfl rfl (zD rfl (ze (zd _ _ rfl rfl rfl (zd _ _ rfl rfl rfl (zb rfl (za rfl rfl (zc rfl) ?_))))))))))
  refine zi rfl rfl (zx [.bx gb 38 (zz vRb vRw)] ([.sl vRb 1 22 (KR.map Kp.d), .sl vRw 1 22 (WR.map (D.ls 2 RowD.d))] ++ (KR.map (Kp.h 2 71 RowD.d))) [] rfl rfl (.cons ArgC.id .nil) zr Tryz.call56 (stillNotes_0 gb (dZ) (dZ) (dZ) (dZ) (dZ) (dZ) (dZ) (dZ) (dZ) (dZ) (dZ) (dZ) (dZ) (dZ) (dZ) (.ov vRb) (.ov vRw) (dZ) (dZ)) (.inl rfl)) ?_
  rintro _ _ ⟨_, ⟨rfl, rfl⟩, rfl⟩
  refine OpsD.norm ([.bx gb 38 (zz vRb vRw), .sl vRb 1 22 (KR.map Kp.d), .sl vRw 1 22 (WR.map (D.ls 2 RowD.d))] ++ (KR.map (Kp.h 2 71 RowD.d))) rfl (za rfl rfl (za9 (q := true) rfl) (zf rfl (ze (zaw _ rfl rfl rfl (zD rfl (ze (zd _ _ rfl rfl rfl (zd _ _ rfl rfl rfl (zb rfl (za rfl rfl (zc rfl) ?_))))))))))
  refine OpsD.subH (HSub.perm (zb6 (A := [.bx gb 38 (zz vRb vRw), .sl vRb 1 22 (KR.map Kp.d), .sl vRw 1 22 (WR.map (D.ls 2 RowD.d))]) (B := []) (T := KR.map (Kp.h 2 71 RowD.d)))) ?_
  refine zi rfl rfl (zx ([.bx gb 38 (zz vRb vRw), .sl vRb 1 22 (KR.map Kp.d), .sl vRw 1 22 (WR.map (D.ls 2 RowD.d))] ++ (KR.map (Kp.h 2 71 RowD.d))) [] [] rfl rfl (.cons ArgC.id .nil) zr Tryz.call57 (stillRows_c gb vRb vRw (dZ) (dZ) (dZ) (dZ) (dZ) (dZ) (dZ) (dZ) (dZ) (dZ) (dZ) (dZ) (dZ) (dZ) (dZ) (dZ) (dZ) (dZ) KR WR (by omega) hWR) (.inl rfl)) ?_
  rintro _ _ ⟨_, ⟨rfl, rfl⟩, rfl⟩
  refine OpsD.subH (HSub.perm (zb6 (A := [.bx gb 38 (zz vRb vRw), .sl vRb 1 22 (KR.map Kp.d), .sl vRw 1 22 (WR.map (D.ls 2 RowD.d))]) (B := []) (T := KR.map (Kp.h 2 71 RowD.d))).symm) (OpsD.norm ([.bx gb 38 (zz vRb vRw), .sl vRb 1 22 (KR.map Kp.d), .sl vRw 1 22 (WR.map (D.ls 2 RowD.d))] ++ (KR.map (Kp.h 2 71 RowD.d))) rfl (za rfl rfl (za9 (q := true) rfl) (zf rfl (ze (zaw _ rfl rfl rfl (zD rfl (ze (JD.keep [0, 2] [(0, dP gb 0), (2, dB false)] rfl ?_))))))))
  refine zd _ _ rfl rfl rfl (zd _ _ rfl rfl rfl (zb rfl (za rfl rfl (zc rfl) ?_)))
  refine zi rfl rfl (zx [.bx gb 38 (zz vRb vRw)] ([.sl vRb 1 22 (KR.map Kp.d), .sl vRw 1 22 (WR.map (D.ls 2 RowD.d))] ++ (KR.map (Kp.h 2 71 RowD.d))) [] rfl rfl (.cons ArgC.id .nil) zr Tryz.call58 (stillSeries_0 gb (dZ) (dZ) (dZ) (dZ) (dZ) (dZ) (dZ) (dZ) (dZ) (dZ) (dZ) (dZ) (dZ) (dZ) (dZ) (dZ) (.ov vRb) (.ov vRw) (dZ)) (.inl rfl)) ?_
  rintro _ _ ⟨_, ⟨rfl, rfl⟩, rfl⟩
  refine OpsD.norm ([.bx gb 38 (zz vRb vRw), .sl vRb 1 22 (KR.map Kp.d), .sl vRw 1 22 (WR.map (D.ls 2 RowD.d))] ++ (KR.map (Kp.h 2 71 RowD.d))) rfl (za rfl rfl (za9 (q := true) rfl) (zf rfl (ze (zaw _ rfl rfl rfl (zD rfl (ze (zd _ _ rfl rfl rfl (zb rfl (za rfl rfl (zc rfl) ?_)))))))))
  refine OpsD.subH (HSub.perm (zb6 (A := [.bx gb 38 (zz vRb vRw), .sl vRb 1 22 (KR.map Kp.d)]) (B := [.sl vRw 1 22 (WR.map (D.ls 2 RowD.d))]) (T := KR.map (Kp.h 2 71 RowD.d)))) ?_
  refine zi rfl rfl (zx ([.bx gb 38 (zz vRb vRw), .sl vRb 1 22 (KR.map Kp.d)] ++ (KR.map (Kp.h 2 71 RowD.d))) [.sl vRw 1 22 (WR.map (D.ls 2 RowD.d))] [] rfl rfl (.cons ArgC.id .nil) zr Tryz.call59 (putRows_c gb vRb vRw (dZ) (dZ) (dZ) (dZ) (dZ) (dZ) (dZ) (dZ) (dZ) (dZ) (dZ) (dZ) (dZ) (dZ) (dZ) (dZ) (dZ) (dZ) KR (by omega) hBR) (.inl rfl)) ?_
  rintro _ _ ⟨_, ⟨rfl, rfl⟩, rfl⟩
  refine OpsD.subH (HSub.perm (zb6 (A := [.bx gb 38 (zz vRb vRw), .sl vRb 1 22 (KR.map Kp.d)]) (B := [.sl vRw 1 22 (WR.map (D.ls 2 RowD.d))]) (T := (putK gR KR).map (Kp.h 2 71 RowD.d))).symm) (OpsD.norm ([.bx gb 38 (zz vRb vRw), .sl vRb 1 22 (KR.map Kp.d), .sl vRw 1 22 (WR.map (D.ls 2 RowD.d))] ++ ((putK gR KR).map (Kp.h 2 71 RowD.d))) rfl (zf rfl (ze (zd _ _ rfl rfl rfl (zb rfl (za rfl rfl (zc rfl) ?_))))))
  refine zi rfl rfl (zx [.bx gb 38 (zz vRb vRw)] ([.sl vRb 1 22 (KR.map Kp.d), .sl vRw 1 22 (WR.map (D.ls 2 RowD.d))] ++ ((putK gR KR).map (Kp.h 2 71 RowD.d))) [] rfl rfl (.cons ArgC.id .nil) zr Tryz.call60 (putSeries_0 gb (dZ) (dZ) (dZ) (dZ) (dZ) (dZ) (dZ) (dZ) (dZ) (dZ) (dZ) (dZ) (dZ) (dZ) (dZ) (dZ) (.ov vRb) (.ov vRw) (dZ)) (.inl rfl)) ?_
  rintro _ _ ⟨_, ⟨rfl, rfl⟩, rfl⟩
  refine OpsD.norm ([.bx gb 38 (zz vRb vRw), .sl vRb 1 22 (KR.map Kp.d), .sl vRw 1 22 (WR.map (D.ls 2 RowD.d))] ++ ((putK gR KR).map (Kp.h 2 71 RowD.d))) rfl (zf rfl (ze (zd _ _ rfl rfl rfl (zb rfl (za rfl rfl (zc rfl) ?_)))))
  refine zi rfl rfl (zx [.bx gb 38 (zz vRb vRw)] ([.sl vRb 1 22 (KR.map Kp.d), .sl vRw 1 22 (WR.map (D.ls 2 RowD.d))] ++ ((putK gR KR).map (Kp.h 2 71 RowD.d))) [] rfl rfl (.cons ArgC.id .nil) zr Tryz.call61 (putTexts_0 gb (dZ) (dZ) (dZ) (dZ) (dZ) (dZ) (dZ) (dZ) (dZ) (dZ) (dZ) (dZ) (dZ) (dZ) (dZ) (.ov vRb) (.ov vRw) (dZ) (dZ)) (.inl rfl)) ?_
  rintro _ _ ⟨_, ⟨rfl, rfl⟩, rfl⟩
  refine OpsD.norm ([.bx gb 38 (zz vRb vRw), .sl vRb 1 22 (KR.map Kp.d), .sl vRw 1 22 (WR.map (D.ls 2 RowD.d))] ++ ((putK gR KR).map (Kp.h 2 71 RowD.d))) rfl (zf rfl (ze (JD.keep [0, 2] [(0, dP gb 0), (2, dB false)] rfl (zd _ _ rfl rfl rfl (zb rfl (za rfl rfl (zc rfl) ?_))))))
  refine zi rfl rfl (zx [.bx gb 38 (zz vRb vRw)] ([.sl vRb 1 22 (KR.map Kp.d), .sl vRw 1 22 (WR.map (D.ls 2 RowD.d))] ++ ((putK gR KR).map (Kp.h 2 71 RowD.d))) [] rfl rfl (.cons ArgC.id .nil) zr Tryz.call62 (putInts_0 gb (dZ) (dZ) (dZ) (dZ) (dZ) (dZ) (dZ) (dZ) (dZ) (dZ) (dZ) (dZ) (dZ) (dZ) (dZ) (.ov vRb) (.ov vRw) (dZ) (dZ)) (.inl rfl)) ?_
  rintro _ _ ⟨_, ⟨rfl, rfl⟩, rfl⟩
  refine OpsD.norm ([.bx gb 38 (zz vRb vRw), .sl vRb 1 22 (KR.map Kp.d), .sl vRw 1 22 (WR.map (D.ls 2 RowD.d))] ++ ((putK gR KR).map (Kp.h 2 71 RowD.d))) rfl (zf rfl (ze (zd _ _ rfl rfl rfl (zb rfl (za rfl rfl (zc rfl) ?_)))))
  refine zi rfl rfl (zx [.bx gb 38 (zz vRb vRw)] ([.sl vRb 1 22 (KR.map Kp.d), .sl vRw 1 22 (WR.map (D.ls 2 RowD.d))] ++ ((putK gR KR).map (Kp.h 2 71 RowD.d))) [] rfl rfl (.cons ArgC.id .nil) zr Tryz.call63 (putRunes_0 gb (dZ) (dZ) (dZ) (dZ) (dZ) (dZ) (dZ) (dZ) (dZ) (dZ) (dZ) (dZ) (dZ) (dZ) (dZ) (.ov vRb) (.ov vRw) (dZ) (dZ)) (.inl rfl)) ?_
  rintro _ _ ⟨_, ⟨rfl, rfl⟩, rfl⟩
  refine OpsD.norm ([.bx gb 38 (zz vRb vRw), .sl vRb 1 22 (KR.map Kp.d), .sl vRw 1 22 (WR.map (D.ls 2 RowD.d))] ++ ((putK gR KR).map (Kp.h 2 71 RowD.d))) rfl (zf rfl (ze (zd _ _ rfl rfl rfl (zb rfl (za rfl rfl (zc rfl) ?_)))))
  refine zi rfl rfl (zx [.bx gb 38 (zz vRb vRw)] ([.sl vRb 1 22 (KR.map Kp.d), .sl vRw 1 22 (WR.map (D.ls 2 RowD.d))] ++ ((putK gR KR).map (Kp.h 2 71 RowD.d))) [] rfl rfl (.cons ArgC.id .nil) zr Tryz.call64 (putLabels_0 gb (dZ) (dZ) (dZ) (dZ) (dZ) (dZ) (dZ) (dZ) (dZ) (dZ) (dZ) (dZ) (dZ) (dZ) (dZ) (.ov vRb) (.ov vRw) (dZ) (dZ)) (.inl rfl)) ?_
  rintro _ _ ⟨_, ⟨rfl, rfl⟩, rfl⟩
  refine OpsD.norm ([.bx gb 38 (zz vRb vRw), .sl vRb 1 22 (KR.map Kp.d), .sl vRw 1 22 (WR.map (D.ls 2 RowD.d))] ++ ((putK gR KR).map (Kp.h 2 71 RowD.d))) rfl (zf rfl (ze (zd _ _ rfl rfl rfl (zb rfl (za rfl rfl (zc rfl) ?_)))))
  refine zi rfl rfl (zx [.bx gb 38 (zz vRb vRw)] ([.sl vRb 1 22 (KR.map Kp.d), .sl vRw 1 22 (WR.map (D.ls 2 RowD.d))] ++ ((putK gR KR).map (Kp.h 2 71 RowD.d))) [] rfl rfl (.cons ArgC.id .nil) zr Tryz.call65 (putPoints_0 gb (dZ) (dZ) (dZ) (dZ) (dZ) (dZ) (dZ) (dZ) (dZ) (dZ) (dZ) (dZ) (dZ) (dZ) (dZ) (.ov vRb) (.ov vRw) (dZ) (dZ)) (.inl rfl)) ?_
  rintro _ _ ⟨_, ⟨rfl, rfl⟩, rfl⟩
  refine OpsD.norm ([.bx gb 38 (zz vRb vRw), .sl vRb 1 22 (KR.map Kp.d), .sl vRw 1 22 (WR.map (D.ls 2 RowD.d))] ++ ((putK gR KR).map (Kp.h 2 71 RowD.d))) rfl (zf rfl (ze (zd _ _ rfl rfl rfl (zb rfl (za rfl rfl (zc rfl) ?_)))))
  refine zi rfl rfl (zx [.bx gb 38 (zz vRb vRw)] ([.sl vRb 1 22 (KR.map Kp.d), .sl vRw 1 22 (WR.map (D.ls 2 RowD.d))] ++ ((putK gR KR).map (Kp.h 2 71 RowD.d))) [] rfl rfl (.cons ArgC.id .nil) zr Tryz.call66 (putTokens_0 gb (dZ) (dZ) (dZ) (dZ) (dZ) (dZ) (dZ) (dZ) (dZ) (dZ) (dZ) (dZ) (dZ) (dZ) (dZ) (.ov vRb) (.ov vRw) (dZ) (dZ)) (.inl rfl)) ?_
  rintro _ _ ⟨_, ⟨rfl, rfl⟩, rfl⟩
  refine OpsD.norm ([.bx gb 38 (zz vRb vRw), .sl vRb 1 22 (KR.map Kp.d), .sl vRw 1 22 (WR.map (D.ls 2 RowD.d))] ++ ((putK gR KR).map (Kp.h 2 71 RowD.d))) rfl (zf rfl (ze (JD.keep [0, 2] [(0, dP gb 0), (2, dB false)] rfl (zd _ _ rfl rfl rfl (zb rfl (za rfl rfl (zc rfl) ?_))))))
  refine zi rfl rfl (zx [.bx gb 38 (zz vRb vRw)] ([.sl vRb 1 22 (KR.map Kp.d), .sl vRw 1 22 (WR.map (D.ls 2 RowD.d))] ++ ((putK gR KR).map (Kp.h 2 71 RowD.d))) [] rfl rfl (.cons ArgC.id .nil) zr Tryz.call67 (putCursors_0 gb (dZ) (dZ) (dZ) (dZ) (dZ) (dZ) (dZ) (dZ) (dZ) (dZ) (dZ) (dZ) (dZ) (dZ) (dZ) (.ov vRb) (.ov vRw) (dZ) (dZ)) (.inl rfl)) ?_
  rintro _ _ ⟨_, ⟨rfl, rfl⟩, rfl⟩
  refine OpsD.norm ([.bx gb 38 (zz vRb vRw), .sl vRb 1 22 (KR.map Kp.d), .sl vRw 1 22 (WR.map (D.ls 2 RowD.d))] ++ ((putK gR KR).map (Kp.h 2 71 RowD.d))) rfl (zf rfl (ze (zd _ _ rfl rfl rfl (zb rfl (za rfl rfl (zc rfl) ?_)))))
  refine zi rfl rfl (zx [.bx gb 38 (zz vRb vRw)] ([.sl vRb 1 22 (KR.map Kp.d), .sl vRw 1 22 (WR.map (D.ls 2 RowD.d))] ++ ((putK gR KR).map (Kp.h 2 71 RowD.d))) [] rfl rfl (.cons ArgC.id .nil) zr Tryz.call68 (putNotes_0 gb (dZ) (dZ) (dZ) (dZ) (dZ) (dZ) (dZ) (dZ) (dZ) (dZ) (dZ) (dZ) (dZ) (dZ) (dZ) (.ov vRb) (.ov vRw) (dZ) (dZ)) (.inl rfl)) ?_
  rintro _ _ ⟨_, ⟨rfl, rfl⟩, rfl⟩
  refine OpsD.norm ([.bx gb 38 (zz vRb vRw), .sl vRb 1 22 (KR.map Kp.d), .sl vRw 1 22 (WR.map (D.ls 2 RowD.d))] ++ ((putK gR KR).map (Kp.h 2 71 RowD.d))) rfl (zf rfl (ze (zd _ _ rfl rfl rfl (zb rfl (za rfl rfl (zc rfl) ?_)))))
  refine zi rfl rfl (zx [.bx gb 38 (zz vRb vRw)] ([.sl vRb 1 22 (KR.map Kp.d), .sl vRw 1 22 (WR.map (D.ls 2 RowD.d))] ++ ((putK gR KR).map (Kp.h 2 71 RowD.d))) [] rfl rfl (.cons ArgC.id .nil) zr Tryz.call69 (growTexts_0 gb (dZ) (dZ) (dZ) (dZ) (dZ) (dZ) (dZ) (dZ) (dZ) (dZ) (dZ) (dZ) (dZ) (dZ) (dZ) (.ov vRb) (.ov vRw) (dZ) (dZ)) (.inl rfl)) ?_
  rintro _ _ ⟨_, ⟨rfl, rfl⟩, rfl⟩
  refine OpsD.norm ([.bx gb 38 (zz vRb vRw), .sl vRb 1 22 (KR.map Kp.d), .sl vRw 1 22 (WR.map (D.ls 2 RowD.d))] ++ ((putK gR KR).map (Kp.h 2 71 RowD.d))) rfl (za rfl rfl (zg rfl) (zf rfl (ze (zd _ _ rfl rfl rfl (zb rfl (za rfl rfl (zc rfl) ?_))))))
  refine zi rfl rfl (zx [.bx gb 38 (zz vRb vRw)] ([.sl vRb 1 22 (KR.map Kp.d), .sl vRw 1 22 (WR.map (D.ls 2 RowD.d))] ++ ((putK gR KR).map (Kp.h 2 71 RowD.d))) [] rfl rfl (.cons ArgC.id .nil) zr Tryz.call70 (growInts_0 gb (dZ) (dZ) (dZ) (dZ) (dZ) (dZ) (dZ) (dZ) (dZ) (dZ) (dZ) (dZ) (dZ) (dZ) (dZ) (.ov vRb) (.ov vRw) (dZ) (dZ)) (.inl rfl)) ?_
  rintro _ _ ⟨_, ⟨rfl, rfl⟩, rfl⟩
  refine OpsD.norm ([.bx gb 38 (zz vRb vRw), .sl vRb 1 22 (KR.map Kp.d), .sl vRw 1 22 (WR.map (D.ls 2 RowD.d))] ++ ((putK gR KR).map (Kp.h 2 71 RowD.d))) rfl (za rfl rfl (zg rfl) (zf rfl (ze (zd _ _ rfl rfl rfl (zb rfl (za rfl rfl (zc rfl) ?_))))))
  refine zi rfl rfl (zx [.bx gb 38 (zz vRb vRw)] ([.sl vRb 1 22 (KR.map Kp.d), .sl vRw 1 22 (WR.map (D.ls 2 RowD.d))] ++ ((putK gR KR).map (Kp.h 2 71 RowD.d))) [] rfl rfl (.cons ArgC.id .nil) zr Tryz.call71 (growRunes_0 gb (dZ) (dZ) (dZ) (dZ) (dZ) (dZ) (dZ) (dZ) (dZ) (dZ) (dZ) (dZ) (dZ) (dZ) (dZ) (.ov vRb) (.ov vRw) (dZ) (dZ)) (.inl rfl)) ?_
  rintro _ _ ⟨_, ⟨rfl, rfl⟩, rfl⟩
  refine OpsD.norm ([.bx gb 38 (zz vRb vRw), .sl vRb 1 22 (KR.map Kp.d), .sl vRw 1 22 (WR.map (D.ls 2 RowD.d))] ++ ((putK gR KR).map (Kp.h 2 71 RowD.d))) rfl (za rfl rfl (zg rfl) (zf rfl (ze (JD.keep [0, 2, 3, 4, 5] [(0, dP gb 0), (2, dB false), (3, dZ), (4, dZ), (5, dZ)] rfl (zd _ _ rfl rfl rfl (zb rfl (za rfl rfl (zc rfl) ?_)))))))
  refine zi rfl rfl (zx [.bx gb 38 (zz vRb vRw)] ([.sl vRb 1 22 (KR.map Kp.d), .sl vRw 1 22 (WR.map (D.ls 2 RowD.d))] ++ ((putK gR KR).map (Kp.h 2 71 RowD.d))) [] rfl rfl (.cons ArgC.id .nil) zr Tryz.call72 (growLabels_0 gb (dZ) (dZ) (dZ) (dZ) (dZ) (dZ) (dZ) (dZ) (dZ) (dZ) (dZ) (dZ) (dZ) (dZ) (dZ) (.ov vRb) (.ov vRw) (dZ) (dZ)) (.inl rfl)) ?_
  rintro _ _ ⟨_, ⟨rfl, rfl⟩, rfl⟩
  refine OpsD.norm ([.bx gb 38 (zz vRb vRw), .sl vRb 1 22 (KR.map Kp.d), .sl vRw 1 22 (WR.map (D.ls 2 RowD.d))] ++ ((putK gR KR).map (Kp.h 2 71 RowD.d))) rfl (za rfl rfl (zg rfl) (zf rfl (ze (zd _ _ rfl rfl rfl (zb rfl (za rfl rfl (zc rfl) ?_))))))
  refine zi rfl rfl (zx [.bx gb 38 (zz vRb vRw)] ([.sl vRb 1 22 (KR.map Kp.d), .sl vRw 1 22 (WR.map (D.ls 2 RowD.d))] ++ ((putK gR KR).map (Kp.h 2 71 RowD.d))) [] rfl rfl (.cons ArgC.id .nil) zr Tryz.call73 (growPoints_0 gb (dZ) (dZ) (dZ) (dZ) (dZ) (dZ) (dZ) (dZ) (dZ) (dZ) (dZ) (dZ) (dZ) (dZ) (dZ) (.ov vRb) (.ov vRw) (dZ) (dZ)) (.inl rfl)) ?_
  rintro _ _ ⟨_, ⟨rfl, rfl⟩, rfl⟩
  refine OpsD.norm ([.bx gb 38 (zz vRb vRw), .sl vRb 1 22 (KR.map Kp.d), .sl vRw 1 22 (WR.map (D.ls 2 RowD.d))] ++ ((putK gR KR).map (Kp.h 2 71 RowD.d))) rfl (za rfl rfl (zg rfl) (zf rfl (ze (zd _ _ rfl rfl rfl (zb rfl (za rfl rfl (zc rfl) ?_))))))
  refine zi rfl rfl (zx [.bx gb 38 (zz vRb vRw)] ([.sl vRb 1 22 (KR.map Kp.d), .sl vRw 1 22 (WR.map (D.ls 2 RowD.d))] ++ ((putK gR KR).map (Kp.h 2 71 RowD.d))) [] rfl rfl (.cons ArgC.id .nil) zr Tryz.call74 (growTokens_0 gb (dZ) (dZ) (dZ) (dZ) (dZ) (dZ) (dZ) (dZ) (dZ) (dZ) (dZ) (dZ) (dZ) (dZ) (dZ) (.ov vRb) (.ov vRw) (dZ) (dZ)) (.inl rfl)) ?_
  rintro _ _ ⟨_, ⟨rfl, rfl⟩, rfl⟩
  refine OpsD.norm ([.bx gb 38 (zz vRb vRw), .sl vRb 1 22 (KR.map Kp.d), .sl vRw 1 22 (WR.map (D.ls 2 RowD.d))] ++ ((putK gR KR).map (Kp.h 2 71 RowD.d))) rfl (za rfl rfl (zg rfl) (zf rfl (ze (zd _ _ rfl rfl rfl (zb rfl (za rfl rfl (zc rfl) ?_))))))
  refine zi rfl rfl (zx [.bx gb 38 (zz vRb vRw)] ([.sl vRb 1 22 (KR.map Kp.d), .sl vRw 1 22 (WR.map (D.ls 2 RowD.d))] ++ ((putK gR KR).map (Kp.h 2 71 RowD.d))) [] rfl rfl (.cons ArgC.id .nil) zr Tryz.call75 (growCursors_0 gb (dZ) (dZ) (dZ) (dZ) (dZ) (dZ) (dZ) (dZ) (dZ) (dZ) (dZ) (dZ) (dZ) (dZ) (dZ) (.ov vRb) (.ov vRw) (dZ) (dZ)) (.inl rfl)) ?_
  rintro _ _ ⟨_, ⟨rfl, rfl⟩, rfl⟩
  refine OpsD.norm ([.bx gb 38 (zz vRb vRw), .sl vRb 1 22 (KR.map Kp.d), .sl vRw 1 22 (WR.map (D.ls 2 RowD.d))] ++ ((putK gR KR).map (Kp.h 2 71 RowD.d))) rfl (za rfl rfl (zg rfl) (zf rfl (ze (zd _ _ rfl rfl rfl (zb rfl (za rfl rfl (zc rfl) ?_))))))
  refine zi rfl rfl (zx [.bx gb 38 (zz vRb vRw)] ([.sl vRb 1 22 (KR.map Kp.d), .sl vRw 1 22 (WR.map (D.ls 2 RowD.d))] ++ ((putK gR KR).map (Kp.h 2 71 RowD.d))) [] rfl rfl (.cons ArgC.id .nil) zr Tryz.call76 (growNotes_0 gb (dZ) (dZ) (dZ) (dZ) (dZ) (dZ) (dZ) (dZ) (dZ) (dZ) (dZ) (dZ) (dZ) (dZ) (dZ) (.ov vRb) (.ov vRw) (dZ) (dZ)) (.inl rfl)) ?_
  rintro _ _ ⟨_, ⟨rfl, rfl⟩, rfl⟩
  refine OpsD.norm ([.bx gb 38 (zz vRb vRw), .sl vRb 1 22 (KR.map Kp.d), .sl vRw 1 22 (WR.map (D.ls 2 RowD.d))] ++ ((putK gR KR).map (Kp.h 2 71 RowD.d))) rfl (za rfl rfl (zg rfl) (zf rfl (ze (JD.keep [0, 2, 3, 4, 5, 6, 7, 8, 9, 10] [(0, dP gb 0), (2, dB false), (3, dZ), (4, dZ), (5, dZ), (6, dZ), (7, dZ), (8, dZ), (9, dZ), (10, dZ)] rfl (zd _ _ rfl rfl rfl (zb rfl (za rfl rfl (zc rfl) ?_)))))))
  refine OpsD.norm ([.bx gb 38 (zz vRb vRw), .sl vRb 1 22 ((putK gR KR).map Kp.d), .sl vRw 1 22 (WR.map (D.ls 2 RowD.d))] ++ ((putK gR KR).map (Kp.h 2 71 RowD.d))) (by rw [putK_d]) (OpsD.subH (HSub.perm (zb6 (A := [.bx gb 38 (zz vRb vRw), .sl vRb 1 22 ((putK gR KR).map Kp.d)]) (B := [.sl vRw 1 22 (WR.map (D.ls 2 RowD.d))]) (T := (putK gR KR).map (Kp.h 2 71 RowD.d)))) ?_)
  refine zi rfl rfl (zx ([.bx gb 38 (zz vRb vRw), .sl vRb 1 22 ((putK gR KR).map Kp.d)] ++ ((putK gR KR).map (Kp.h 2 71 RowD.d))) [.sl vRw 1 22 (WR.map (D.ls 2 RowD.d))] [] rfl rfl (.cons ArgC.id .nil) zr Tryz.call77 (growRows_c gb vRb vRw (dZ) (dZ) (dZ) (dZ) (dZ) (dZ) (dZ) (dZ) (dZ) (dZ) (dZ) (dZ) (dZ) (dZ) (dZ) (dZ) (dZ) (dZ) (putK gR KR) (by rw [putK_len]; omega) (putK_light hBR) putK_marked) (.inl rfl)) ?_
  rintro _ _ ⟨_, ⟨goR, GR, rfl, rfl, hGR⟩, rfl⟩
  refine OpsD.subH (HSub.perm (zb6 (A := [.bx gb 38 (zz vRb vRw), .sl vRb 1 22 (GR.map K2.d0), .sl goR 1 22 (GR.map K2.d1)]) (B := [.sl vRw 1 22 (WR.map (D.ls 2 RowD.d))]) (T := GR.map (K2.h 2 71 RowD.d))).symm) (OpsD.norm ([.bx gb 38 (zz vRb vRw), .sl vRb 1 22 (GR.map K2.d0), .sl goR 1 22 (GR.map K2.d1), .sl vRw 1 22 (WR.map (D.ls 2 RowD.d))] ++ (GR.map (K2.h 2 71 RowD.d))) rfl (za rfl rfl (zg rfl) (zf rfl (ze ?_))))
  refine zd _ _ rfl rfl rfl (zb rfl (za rfl rfl (zc rfl) ?_))
  refine zi rfl rfl (zx [.bx gb 38 (zz vRb vRw)] ([.sl vRb 1 22 (GR.map K2.d0), .sl goR 1 22 (GR.map K2.d1), .sl vRw 1 22 (WR.map (D.ls 2 RowD.d))] ++ (GR.map (K2.h 2 71 RowD.d))) [] rfl rfl (.cons ArgC.id .nil) zr Tryz.call78 (growSeries_0 gb (dZ) (dZ) (dZ) (dZ) (dZ) (dZ) (dZ) (dZ) (dZ) (dZ) (dZ) (dZ) (dZ) (dZ) (dZ) (dZ) (.ov vRb) (.ov vRw) (dZ)) (.inl rfl)) ?_
  rintro _ _ ⟨_, ⟨rfl, rfl⟩, rfl⟩
  refine OpsD.norm ([.bx gb 38 (zz vRb vRw), .sl vRb 1 22 (GR.map K2.d0), .sl goR 1 22 (GR.map K2.d1), .sl vRw 1 22 (WR.map (D.ls 2 RowD.d))] ++ (GR.map (K2.h 2 71 RowD.d))) rfl (za rfl rfl (zg rfl) (zf rfl (ze (zd _ _ rfl rfl rfl (zb rfl (za rfl rfl (zc rfl) ?_))))))
  refine zi rfl rfl (zx [] ([.bx gb 38 (zz vRb vRw), .sl vRb 1 22 (GR.map K2.d0), .sl goR 1 22 (GR.map K2.d1), .sl vRw 1 22 (WR.map (D.ls 2 RowD.d))] ++ (GR.map (K2.h 2 71 RowD.d))) [] rfl rfl (.cons ArgC.id .nil) zr Tryz.call79 (markedTexts_0) (.inl rfl)) ?_
  rintro _ _ ⟨_, ⟨rfl, rfl⟩, rfl⟩
  refine OpsD.norm ([.bx gb 38 (zz vRb vRw), .sl vRb 1 22 (GR.map K2.d0), .sl goR 1 22 (GR.map K2.d1), .sl vRw 1 22 (WR.map (D.ls 2 RowD.d))] ++ (GR.map (K2.h 2 71 RowD.d))) rfl (za rfl rfl (zc rfl) (zj rfl rfl rfl rfl rfl (zc rfl) (zj rfl rfl rfl rfl rfl (zs rfl) (zj rfl rfl rfl rfl rfl (zh rfl fa_38_0 rfl) (zj rfl rfl rfl rfl rfl (zm rfl (i := 0) rfl Tryz.isAgg27 rfl) ?_)))))
  refine zaI rfl rfl rfl rfl rfl (zx [] ([.bx gb 38 (zz vRb vRw), .sl vRb 1 22 (GR.map K2.d0), .sl goR 1 22 (GR.map K2.d1), .sl vRw 1 22 (WR.map (D.ls 2 RowD.d))] ++ (GR.map (K2.h 2 71 RowD.d))) [] rfl rfl (.cons ArgC.id .nil) zr Tryz.call79 (markedTexts_0) (.inl rfl)) ?_
  rintro _ _ ⟨_, ⟨rfl, rfl⟩, rfl⟩
  refine OpsD.norm ([.bx gb 38 (zz vRb vRw), .sl vRb 1 22 (GR.map K2.d0), .sl goR 1 22 (GR.map K2.d1), .sl vRw 1 22 (WR.map (D.ls 2 RowD.d))] ++ (GR.map (K2.h 2 71 RowD.d))) rfl (za rfl rfl (zF rfl rfl) (za rfl rfl (zc rfl) (zj rfl rfl rfl rfl rfl (zc rfl) (zaI rfl rfl rfl rfl rfl (zx [] ([.bx gb 38 (zz vRb vRw), .sl vRb 1 22 (GR.map K2.d0), .sl goR 1 22 (GR.map K2.d1), .sl vRw 1 22 (WR.map (D.ls 2 RowD.d))] ++ (GR.map (K2.h 2 71 RowD.d))) [] rfl rfl (.cons ArgC.id .nil) zr Tryz.call80 (markedInts_0) (.inl rfl)) ?_))))
  rintro _ _ ⟨_, ⟨rfl, rfl⟩, rfl⟩
  refine OpsD.norm ([.bx gb 38 (zz vRb vRw), .sl vRb 1 22 (GR.map K2.d0), .sl goR 1 22 (GR.map K2.d1), .sl vRw 1 22 (WR.map (D.ls 2 RowD.d))] ++ (GR.map (K2.h 2 71 RowD.d))) rfl (za rfl rfl (zF rfl rfl) (za rfl rfl (zc rfl) (zj rfl rfl rfl rfl rfl (zc rfl) (zj rfl rfl rfl rfl rfl (zs rfl) (zj rfl rfl rfl rfl rfl (zh rfl zc9 rfl) (zj rfl rfl rfl rfl rfl (zm rfl (i := 0) rfl Tryz.isAgg28 rfl) ?_))))))
  refine zaI rfl rfl rfl rfl rfl (zx [] ([.bx gb 38 (zz vRb vRw), .sl vRb 1 22 (GR.map K2.d0), .sl goR 1 22 (GR.map K2.d1), .sl vRw 1 22 (WR.map (D.ls 2 RowD.d))] ++ (GR.map (K2.h 2 71 RowD.d))) [] rfl rfl (.cons ArgC.id .nil) zr Tryz.call80 (markedInts_0) (.inl rfl)) ?_
  rintro _ _ ⟨_, ⟨rfl, rfl⟩, rfl⟩
  refine OpsD.norm ([.bx gb 38 (zz vRb vRw), .sl vRb 1 22 (GR.map K2.d0), .sl goR 1 22 (GR.map K2.d1), .sl vRw 1 22 (WR.map (D.ls 2 RowD.d))] ++ (GR.map (K2.h 2 71 RowD.d))) rfl (za rfl rfl (zF rfl rfl) (za rfl rfl (zc rfl) (zj rfl rfl rfl rfl rfl (zc rfl) (zaI rfl rfl rfl rfl rfl (zx [] ([.bx gb 38 (zz vRb vRw), .sl vRb 1 22 (GR.map K2.d0), .sl goR 1 22 (GR.map K2.d1), .sl vRw 1 22 (WR.map (D.ls 2 RowD.d))] ++ (GR.map (K2.h 2 71 RowD.d))) [] rfl rfl (.cons ArgC.id .nil) zr Tryz.call81 (markedRunes_0) (.inl rfl)) ?_))))
  rintro _ _ ⟨_, ⟨rfl, rfl⟩, rfl⟩
  refine OpsD.norm ([.bx gb 38 (zz vRb vRw), .sl vRb 1 22 (GR.map K2.d0), .sl goR 1 22 (GR.map K2.d1), .sl vRw 1 22 (WR.map (D.ls 2 RowD.d))] ++ (GR.map (K2.h 2 71 RowD.d))) rfl (za rfl rfl (zF rfl rfl) (za rfl rfl (zc rfl) (zj rfl rfl rfl rfl rfl (zc rfl) (zj rfl rfl rfl rfl rfl (zs rfl) (zj rfl rfl rfl rfl rfl (zh rfl fa_38_4 rfl) (zj rfl rfl rfl rfl rfl (zm rfl (i := 0) rfl Tryz.isAgg29 rfl) ?_))))))
  refine zaI rfl rfl rfl rfl rfl (zx [] ([.bx gb 38 (zz vRb vRw), .sl vRb 1 22 (GR.map K2.d0), .sl goR 1 22 (GR.map K2.d1), .sl vRw 1 22 (WR.map (D.ls 2 RowD.d))] ++ (GR.map (K2.h 2 71 RowD.d))) [] rfl rfl (.cons ArgC.id .nil) zr Tryz.call81 (markedRunes_0) (.inl rfl)) ?_
  rintro _ _ ⟨_, ⟨rfl, rfl⟩, rfl⟩
  refine OpsD.norm ([.bx gb 38 (zz vRb vRw), .sl vRb 1 22 (GR.map K2.d0), .sl goR 1 22 (GR.map K2.d1), .sl vRw 1 22 (WR.map (D.ls 2 RowD.d))] ++ (GR.map (K2.h 2 71 RowD.d))) rfl (za rfl rfl (zF rfl rfl) (za rfl rfl (zc rfl) (zj rfl rfl rfl rfl rfl (zc rfl) (zaI rfl rfl rfl rfl rfl (zx [] ([.bx gb 38 (zz vRb vRw), .sl vRb 1 22 (GR.map K2.d0), .sl goR 1 22 (GR.map K2.d1), .sl vRw 1 22 (WR.map (D.ls 2 RowD.d))] ++ (GR.map (K2.h 2 71 RowD.d))) [] rfl rfl (.cons ArgC.id .nil) zr Tryz.call82 (markedLabels_0) (.inl rfl)) ?_))))
  rintro _ _ ⟨_, ⟨rfl, rfl⟩, rfl⟩
  refine OpsD.norm ([.bx gb 38 (zz vRb vRw), .sl vRb 1 22 (GR.map K2.d0), .sl goR 1 22 (GR.map K2.d1), .sl vRw 1 22 (WR.map (D.ls 2 RowD.d))] ++ (GR.map (K2.h 2 71 RowD.d))) rfl (za rfl rfl (zF rfl rfl) (za rfl rfl (zc rfl) (zj rfl rfl rfl rfl rfl (zc rfl) (zj rfl rfl rfl rfl rfl (zs rfl) (zj rfl rfl rfl rfl rfl (zh rfl fa_38_6 rfl) (zj rfl rfl rfl rfl rfl (zm rfl (i := 0) rfl Tryz.isAgg30 rfl) ?_))))))
  refine zaI rfl rfl rfl rfl rfl (zx [] ([.bx gb 38 (zz vRb vRw), .sl vRb 1 22 (GR.map K2.d0), .sl goR 1 22 (GR.map K2.d1), .sl vRw 1 22 (WR.map (D.ls 2 RowD.d))] ++ (GR.map (K2.h 2 71 RowD.d))) [] rfl rfl (.cons ArgC.id .nil) zr Tryz.call82 (markedLabels_0) (.inl rfl)) ?_
  rintro _ _ ⟨_, ⟨rfl, rfl⟩, rfl⟩
  refine OpsD.norm ([.bx gb 38 (zz vRb vRw), .sl vRb 1 22 (GR.map K2.d0), .sl goR 1 22 (GR.map K2.d1), .sl vRw 1 22 (WR.map (D.ls 2 RowD.d))] ++ (GR.map (K2.h 2 71 RowD.d))) rfl (za rfl rfl (zF rfl rfl) (za rfl rfl (zc rfl) (zj rfl rfl rfl rfl rfl (zc rfl) (zaI rfl rfl rfl rfl rfl (zx [] ([.bx gb 38 (zz vRb vRw), .sl vRb 1 22 (GR.map K2.d0), .sl goR 1 22 (GR.map K2.d1), .sl vRw 1 22 (WR.map (D.ls 2 RowD.d))] ++ (GR.map (K2.h 2 71 RowD.d))) [] rfl rfl (.cons ArgC.id .nil) zr Tryz.call83 (markedPoints_0) (.inl rfl)) ?_))))
  rintro _ _ ⟨_, ⟨rfl, rfl⟩, rfl⟩
  refine OpsD.norm ([.bx gb 38 (zz vRb vRw), .sl vRb 1 22 (GR.map K2.d0), .sl goR 1 22 (GR.map K2.d1), .sl vRw 1 22 (WR.map (D.ls 2 RowD.d))] ++ (GR.map (K2.h 2 71 RowD.d))) rfl (za rfl rfl (zF rfl rfl) (za rfl rfl (zc rfl) (zj rfl rfl rfl rfl rfl (zc rfl) (zj rfl rfl rfl rfl rfl (zs rfl) (zj rfl rfl rfl rfl rfl (zh rfl fa_38_8 rfl) (zj rfl rfl rfl rfl rfl (zm rfl (i := 0) rfl Tryz.isAgg31 rfl) ?_))))))
  refine zaI rfl rfl rfl rfl rfl (zx [] ([.bx gb 38 (zz vRb vRw), .sl vRb 1 22 (GR.map K2.d0), .sl goR 1 22 (GR.map K2.d1), .sl vRw 1 22 (WR.map (D.ls 2 RowD.d))] ++ (GR.map (K2.h 2 71 RowD.d))) [] rfl rfl (.cons ArgC.id .nil) zr Tryz.call83 (markedPoints_0) (.inl rfl)) ?_
  rintro _ _ ⟨_, ⟨rfl, rfl⟩, rfl⟩
  refine OpsD.norm ([.bx gb 38 (zz vRb vRw), .sl vRb 1 22 (GR.map K2.d0), .sl goR 1 22 (GR.map K2.d1), .sl vRw 1 22 (WR.map (D.ls 2 RowD.d))] ++ (GR.map (K2.h 2 71 RowD.d))) rfl (za rfl rfl (zF rfl rfl) (za rfl rfl (zc rfl) (zj rfl rfl rfl rfl rfl (zc rfl) (zaI rfl rfl rfl rfl rfl (zx [] ([.bx gb 38 (zz vRb vRw), .sl vRb 1 22 (GR.map K2.d0), .sl goR 1 22 (GR.map K2.d1), .sl vRw 1 22 (WR.map (D.ls 2 RowD.d))] ++ (GR.map (K2.h 2 71 RowD.d))) [] rfl rfl (.cons ArgC.id .nil) zr Tryz.call84 (markedTokens_0) (.inl rfl)) ?_))))
  rintro _ _ ⟨_, ⟨rfl, rfl⟩, rfl⟩
  refine OpsD.norm ([.bx gb 38 (zz vRb vRw), .sl vRb 1 22 (GR.map K2.d0), .sl goR 1 22 (GR.map K2.d1), .sl vRw 1 22 (WR.map (D.ls 2 RowD.d))] ++ (GR.map (K2.h 2 71 RowD.d))) rfl (za rfl rfl (zF rfl rfl) (za rfl rfl (zc rfl) (zj rfl rfl rfl rfl rfl (zc rfl) (zj rfl rfl rfl rfl rfl (zs rfl) (zj rfl rfl rfl rfl rfl (zh rfl fa_38_10 rfl) (zj rfl rfl rfl rfl rfl (zm rfl (i := 0) rfl Tryz.isAgg32 rfl) ?_))))))
  refine zaI rfl rfl rfl rfl rfl (zx [] ([.bx gb 38 (zz vRb vRw), .sl vRb 1 22 (GR.map K2.d0), .sl goR 1 22 (GR.map K2.d1), .sl vRw 1 22 (WR.map (D.ls 2 RowD.d))] ++ (GR.map (K2.h 2 71 RowD.d))) [] rfl rfl (.cons ArgC.id .nil) zr Tryz.call84 (markedTokens_0) (.inl rfl)) ?_
  rintro _ _ ⟨_, ⟨rfl, rfl⟩, rfl⟩
  refine OpsD.norm ([.bx gb 38 (zz vRb vRw), .sl vRb 1 22 (GR.map K2.d0), .sl goR 1 22 (GR.map K2.d1), .sl vRw 1 22 (WR.map (D.ls 2 RowD.d))] ++ (GR.map (K2.h 2 71 RowD.d))) rfl (za rfl rfl (zF rfl rfl) (za rfl rfl (zc rfl) (zj rfl rfl rfl rfl rfl (zc rfl) (zaI rfl rfl rfl rfl rfl (zx [] ([.bx gb 38 (zz vRb vRw), .sl vRb 1 22 (GR.map K2.d0), .sl goR 1 22 (GR.map K2.d1), .sl vRw 1 22 (WR.map (D.ls 2 RowD.d))] ++ (GR.map (K2.h 2 71 RowD.d))) [] rfl rfl (.cons ArgC.id .nil) zr Tryz.call85 (markedCursors_0) (.inl rfl)) ?_))))
  rintro _ _ ⟨_, ⟨rfl, rfl⟩, rfl⟩
  refine OpsD.norm ([.bx gb 38 (zz vRb vRw), .sl vRb 1 22 (GR.map K2.d0), .sl goR 1 22 (GR.map K2.d1), .sl vRw 1 22 (WR.map (D.ls 2 RowD.d))] ++ (GR.map (K2.h 2 71 RowD.d))) rfl (za rfl rfl (zF rfl rfl) (za rfl rfl (zc rfl) (zj rfl rfl rfl rfl rfl (zc rfl) (zj rfl rfl rfl rfl rfl (zs rfl) (zj rfl rfl rfl rfl rfl (zh rfl fa_38_12 rfl) (zj rfl rfl rfl rfl rfl (zm rfl (i := 0) rfl Tryz.isAgg33 rfl) ?_))))))
  refine zaI rfl rfl rfl rfl rfl (zx [] ([.bx gb 38 (zz vRb vRw), .sl vRb 1 22 (GR.map K2.d0), .sl goR 1 22 (GR.map K2.d1), .sl vRw 1 22 (WR.map (D.ls 2 RowD.d))] ++ (GR.map (K2.h 2 71 RowD.d))) [] rfl rfl (.cons ArgC.id .nil) zr Tryz.call85 (markedCursors_0) (.inl rfl)) ?_
  rintro _ _ ⟨_, ⟨rfl, rfl⟩, rfl⟩
  refine OpsD.norm ([.bx gb 38 (zz vRb vRw), .sl vRb 1 22 (GR.map K2.d0), .sl goR 1 22 (GR.map K2.d1), .sl vRw 1 22 (WR.map (D.ls 2 RowD.d))] ++ (GR.map (K2.h 2 71 RowD.d))) rfl (za rfl rfl (zF rfl rfl) (za rfl rfl (zc rfl) (zj rfl rfl rfl rfl rfl (zc rfl) (zaI rfl rfl rfl rfl rfl (zx [] ([.bx gb 38 (zz vRb vRw), .sl vRb 1 22 (GR.map K2.d0), .sl goR 1 22 (GR.map K2.d1), .sl vRw 1 22 (WR.map (D.ls 2 RowD.d))] ++ (GR.map (K2.h 2 71 RowD.d))) [] rfl rfl (.cons ArgC.id .nil) zr Tryz.call86 (markedNotes_0) (.inl rfl)) ?_))))
  rintro _ _ ⟨_, ⟨rfl, rfl⟩, rfl⟩
  refine OpsD.norm ([.bx gb 38 (zz vRb vRw), .sl vRb 1 22 (GR.map K2.d0), .sl goR 1 22 (GR.map K2.d1), .sl vRw 1 22 (WR.map (D.ls 2 RowD.d))] ++ (GR.map (K2.h 2 71 RowD.d))) rfl (za rfl rfl (zF rfl rfl) (za rfl rfl (zc rfl) (zj rfl rfl rfl rfl rfl (zc rfl) (zj rfl rfl rfl rfl rfl (zs rfl) (zj rfl rfl rfl rfl rfl (zh rfl fa_38_14 rfl) (zj rfl rfl rfl rfl rfl (zm rfl (i := 0) rfl Tryz.isAgg34 rfl) ?_))))))
  refine zaI rfl rfl rfl rfl rfl (zx [] ([.bx gb 38 (zz vRb vRw), .sl vRb 1 22 (GR.map K2.d0), .sl goR 1 22 (GR.map K2.d1), .sl vRw 1 22 (WR.map (D.ls 2 RowD.d))] ++ (GR.map (K2.h 2 71 RowD.d))) [] rfl rfl (.cons ArgC.id .nil) zr Tryz.call86 (markedNotes_0) (.inl rfl)) ?_
  rintro _ _ ⟨_, ⟨rfl, rfl⟩, rfl⟩
  refine OpsD.norm ([.bx gb 38 (zz vRb vRw), .sl vRb 1 22 (GR.map K2.d0), .sl goR 1 22 (GR.map K2.d1), .sl vRw 1 22 (WR.map (D.ls 2 RowD.d))] ++ (GR.map (K2.h 2 71 RowD.d))) rfl (za rfl rfl (zF rfl rfl) (za rfl rfl (zc rfl) (zj rfl rfl rfl rfl rfl (zc rfl) (OpsD.subH (HSub.perm (zk (i := 2) rfl)) (OpsD.norm ([.sl goR 1 22 (GR.map K2.d1), .bx gb 38 (zz vRb vRw), .sl vRb 1 22 (GR.map K2.d0), .sl vRw 1 22 (WR.map (D.ls 2 RowD.d))] ++ (GR.map (K2.h 2 71 RowD.d))) rfl ?_)))))
  refine OpsD.subH (HSub.perm (zb6 (A := [.sl goR 1 22 (GR.map K2.d1)]) (B := [.bx gb 38 (zz vRb vRw), .sl vRb 1 22 (GR.map K2.d0), .sl vRw 1 22 (WR.map (D.ls 2 RowD.d))]) (T := GR.map (K2.h 2 71 RowD.d)))) (zaI rfl rfl rfl rfl rfl (zx ([.sl goR 1 22 (GR.map K2.d1)] ++ (GR.map (K2.h 2 71 RowD.d))) [.bx gb 38 (zz vRb vRw), .sl vRb 1 22 (GR.map K2.d0), .sl vRw 1 22 (WR.map (D.ls 2 RowD.d))] [] rfl rfl (.cons ArgC.id .nil) zr Tryz.call87 (markedRowsN_c goR GR (by have e := hGR.len; rw [putK_len] at e; omega) hGR.at_) (.inl rfl)) ?_)
  rintro _ _ ⟨_, ⟨rfl, rfl⟩, rfl⟩
  refine OpsD.subH (HSub.perm (zb6 (A := [.sl goR 1 22 (GR.map K2.d1)]) (B := [.bx gb 38 (zz vRb vRw), .sl vRb 1 22 (GR.map K2.d0), .sl vRw 1 22 (WR.map (D.ls 2 RowD.d))]) (T := GR.map (K2.h 2 71 RowD.d))).symm) (OpsD.norm ([.sl goR 1 22 (GR.map K2.d1), .bx gb 38 (zz vRb vRw), .sl vRb 1 22 (GR.map K2.d0), .sl vRw 1 22 (WR.map (D.ls 2 RowD.d))] ++ (GR.map (K2.h 2 71 RowD.d))) rfl (za rfl rfl (zF rfl rfl) (za rfl rfl (zc rfl) (zj rfl rfl rfl rfl rfl (zc rfl) (zj rfl rfl rfl rfl rfl (zs rfl) (zj rfl rfl rfl rfl rfl (zh rfl zbg rfl) ?_))))))
  refine zj rfl rfl rfl rfl rfl (zm rfl (i := 1) rfl Tryz.isAgg35 rfl) (OpsD.subH (HSub.perm (zk (i := 2) rfl)) (OpsD.norm ([.sl vRb 1 22 (GR.map K2.d0), .sl goR 1 22 (GR.map K2.d1), .bx gb 38 (zz vRb vRw), .sl vRw 1 22 (WR.map (D.ls 2 RowD.d))] ++ (GR.map (K2.h 2 71 RowD.d))) rfl (OpsD.subH (HSub.perm (zb6 (A := [.sl vRb 1 22 (GR.map K2.d0)]) (B := [.sl goR 1 22 (GR.map K2.d1), .bx gb 38 (zz vRb vRw), .sl vRw 1 22 (WR.map (D.ls 2 RowD.d))]) (T := GR.map (K2.h 2 71 RowD.d)))) ?_)))
  refine zaI rfl rfl rfl rfl rfl (zx ([.sl vRb 1 22 (GR.map K2.d0)] ++ (GR.map (K2.h 2 71 RowD.d))) [.sl goR 1 22 (GR.map K2.d1), .bx gb 38 (zz vRb vRw), .sl vRw 1 22 (WR.map (D.ls 2 RowD.d))] [] rfl rfl (.cons ArgC.id .nil) zr Tryz.call87 (markedRowsW_c vRb GR (by have e := hGR.len; rw [putK_len] at e; omega) hGR.at_) (.inl rfl)) ?_
  rintro _ _ ⟨_, ⟨rfl, rfl⟩, rfl⟩
  refine OpsD.subH (HSub.perm (zb6 (A := [.sl vRb 1 22 (GR.map K2.d0)]) (B := [.sl goR 1 22 (GR.map K2.d1), .bx gb 38 (zz vRb vRw), .sl vRw 1 22 (WR.map (D.ls 2 RowD.d))]) (T := GR.map (K2.h 2 71 RowD.d))).symm) (OpsD.norm ([.sl vRb 1 22 (GR.map K2.d0), .sl goR 1 22 (GR.map K2.d1), .bx gb 38 (zz vRb vRw), .sl vRw 1 22 (WR.map (D.ls 2 RowD.d))] ++ (GR.map (K2.h 2 71 RowD.d))) rfl (za rfl rfl (zF rfl rfl) (za rfl rfl (zc rfl) (zj rfl rfl rfl rfl rfl (zc rfl) ?_))))
  refine zaI rfl rfl rfl rfl rfl (zx [] ([.sl vRb 1 22 (GR.map K2.d0), .sl goR 1 22 (GR.map K2.d1), .bx gb 38 (zz vRb vRw), .sl vRw 1 22 (WR.map (D.ls 2 RowD.d))] ++ (GR.map (K2.h 2 71 RowD.d))) [] rfl rfl (.cons ArgC.id .nil) zr Tryz.call88 (markedSeries_0) (.inl rfl)) ?_
  rintro _ _ ⟨_, ⟨rfl, rfl⟩, rfl⟩
  refine OpsD.norm ([.sl vRb 1 22 (GR.map K2.d0), .sl goR 1 22 (GR.map K2.d1), .bx gb 38 (zz vRb vRw), .sl vRw 1 22 (WR.map (D.ls 2 RowD.d))] ++ (GR.map (K2.h 2 71 RowD.d))) rfl (za rfl rfl (zF rfl rfl) (za rfl rfl (zc rfl) (zj rfl rfl rfl rfl rfl (zc rfl) (zj rfl rfl rfl rfl rfl (zs rfl) (zj rfl rfl rfl rfl rfl (zh rfl fa_38_18 rfl) (zj rfl rfl rfl rfl rfl (zm rfl (i := 2) rfl Tryz.isAgg36 rfl) ?_))))))
  refine zaI rfl rfl rfl rfl rfl (zx [] ([.sl vRb 1 22 (GR.map K2.d0), .sl goR 1 22 (GR.map K2.d1), .bx gb 38 (zz vRb vRw), .sl vRw 1 22 (WR.map (D.ls 2 RowD.d))] ++ (GR.map (K2.h 2 71 RowD.d))) [] rfl rfl (.cons ArgC.id .nil) zr Tryz.call88 (markedSeries_0) (.inl rfl)) ?_
  rintro _ _ ⟨_, ⟨rfl, rfl⟩, rfl⟩
  refine OpsD.norm ([.sl vRb 1 22 (GR.map K2.d0), .sl goR 1 22 (GR.map K2.d1), .bx gb 38 (zz vRb vRw), .sl vRw 1 22 (WR.map (D.ls 2 RowD.d))] ++ (GR.map (K2.h 2 71 RowD.d))) rfl (za rfl rfl (zF rfl rfl) (za rfl rfl (zg rfl) (zf rfl (ze (JD.keep [2] [(2, dB true)] rfl (zH rfl ?_))))))
  exact zG Tryz.results15 (.cons (zI rfl) .nil) rfl HSub.none ⟨rfl, rfl⟩
end Lp
