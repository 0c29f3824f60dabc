/- Walks, printed by a program of mine. -/
import Derived.Test.YtoanlikkhjohpaaGreatV31
set_option linter.unusedSimpArgs false
set_option linter.unusedVariables false
namespace Lp
open Go Go.RowKit Go.Proofs
abbrev zH (a6 a7 : Value) : D := .agg [dZ, dZ, dZ, dZ, dZ, dZ, .ov a6, .ov a7, dZ, dZ, dZ, dZ, dZ, dZ, dZ, dZ, dZ, dZ, dZ, dZ]

namespace HdYtoanlikkhjohpaaGreatV28L
theorem zc1 (b o : Nat) : ∀ w, (Instr.fieldAt 38 (.pointer (some ⟨b, o, none⟩)) 0).run Tryz.prog w = .ok (.pointer (some ⟨b, o + 0, none⟩)) w := fun _ => by kernel_rfl
theorem fa_38_10 (b o : Nat) : ∀ w, (Instr.fieldAt 38 (.pointer (some ⟨b, o, none⟩)) 10).run Tryz.prog w = .ok (.pointer (some ⟨b, o + 10, none⟩)) w := fun _ => by kernel_rfl
theorem fa_38_12 (b o : Nat) : ∀ w, (Instr.fieldAt 38 (.pointer (some ⟨b, o, none⟩)) 12).run Tryz.prog w = .ok (.pointer (some ⟨b, o + 12, none⟩)) w := fun _ => by kernel_rfl
theorem fa_38_14 (b o : Nat) : ∀ w, (Instr.fieldAt 38 (.pointer (some ⟨b, o, none⟩)) 14).run Tryz.prog w = .ok (.pointer (some ⟨b, o + 14, none⟩)) w := fun _ => by kernel_rfl
theorem zcn (b o : Nat) : ∀ w, (Instr.fieldAt 38 (.pointer (some ⟨b, o, none⟩)) 16).run Tryz.prog w = .ok (.pointer (some ⟨b, o + 16, none⟩)) w := fun _ => by kernel_rfl
theorem fa_38_18 (b o : Nat) : ∀ w, (Instr.fieldAt 38 (.pointer (some ⟨b, o, none⟩)) 18).run Tryz.prog w = .ok (.pointer (some ⟨b, o + 18, none⟩)) w := fun _ => by kernel_rfl
theorem zcP (b o : Nat) : ∀ w, (Instr.fieldAt 38 (.pointer (some ⟨b, o, none⟩)) 2).run Tryz.prog w = .ok (.pointer (some ⟨b, o + 2, none⟩)) w := fun _ => by kernel_rfl
theorem fa_38_4 (b o : Nat) : ∀ w, (Instr.fieldAt 38 (.pointer (some ⟨b, o, none⟩)) 4).run Tryz.prog w = .ok (.pointer (some ⟨b, o + 4, none⟩)) w := fun _ => by kernel_rfl
theorem zbh (b o : Nat) : ∀ w, (Instr.fieldAt 38 (.pointer (some ⟨b, o, none⟩)) 6).run Tryz.prog w = .ok (.pointer (some ⟨b, o + 6, none⟩)) w := fun _ => by kernel_rfl
theorem fa_38_8 (b o : Nat) : ∀ w, (Instr.fieldAt 38 (.pointer (some ⟨b, o, none⟩)) 8).run Tryz.prog w = .ok (.pointer (some ⟨b, o + 8, none⟩)) w := fun _ => by kernel_rfl
end HdYtoanlikkhjohpaaGreatV28L
open HdYtoanlikkhjohpaaGreatV28L

set_option maxHeartbeats 4000000 in
set_option maxRecDepth 100000 in
theorem stillTexts_0 (gb : Nat) (c1 c2 c3 c4 c5 c6 c7 c8 c9 c10 c11 c12 c13 c14 c15 c16 c17 c18 c19 : D)  :
    CD Tryz.prog 49 [.bx gb 38 (.agg [dZ, c1, c2, c3, c4, c5, c6, c7, c8, c9, c10, c11, c12, c13, c14, c15, c16, c17, c18, c19])] [dP gb 0] (fun r H' => r = dB true ∧ H' = [.bx gb 38 (.agg [dZ, c1, c2, c3, c4, c5, c6, c7, c8, c9, c10, c11, c12, c13, c14, c15, c16, c17, c18, c19])]) := by
  refine zB Tryz.func49 rfl (N := 29) rfl rfl (fun C => ?_)
  refine JD.keep [0] [(0, dP gb 0)] rfl (zd _ _ rfl rfl rfl (zc rfl (za rfl rfl (ze rfl) (zg rfl (zf (zd _ _ rfl rfl rfl (zd _ _ rfl rfl rfl (zc rfl (za rfl rfl (ze rfl) (zg rfl (zf (zu _ rfl rfl (zP (fun (g : Unit) => [(0, dP gb 0), (3, dI 0)]) (fun (g : Unit) => [.bx gb 38 (.agg [dZ, c1, c2, c3, c4, c5, c6, c7, c8, c9, c10, c11, c12, c13, c14, c15, c16, c17, c18, c19])]) (fun (g : Unit) => True) (fun (g : Unit) => 0) _ () rfl rfl ⟨sk rfl, sk rfl, trivial⟩ HSub.rfl' trivial ?_)))))))))))))
  rintro _ _
  refine JD.keep [0, 3] [(0, dP gb 0), (3, dI 0)] rfl (JD.norm [.bx gb 38 (.agg [dZ, c1, c2, c3, c4, c5, c6, c7, c8, c9, c10, c11, c12, c13, c14, c15, c16, c17, c18, c19])] rfl (zd _ _ rfl rfl rfl (zd _ _ rfl rfl rfl (zc rfl (za rfl rfl (zb rfl) (za rfl rfl (zb rfl) (za rfl rfl (zF rfl) (za rfl rfl (zn rfl zc1 rfl) (za rfl rfl (zy rfl (i := 0) rfl Tryz.isAgg27 rfl) (za rfl rfl (zac (n := 0) rfl ⟨_, _, rfl⟩ Tryz.runUnderlying27) (za rfl rfl (zV rfl rfl rfl) (zg rfl (zf ?_)))))))))))))
  refine zw _ _ rfl rfl rfl rfl (fun hc1 => ?_) (fun hc1 => ?_)
  · replace hc1 := of_decide_eq_true hc1
    exfalso; omega
  · replace hc1 := of_decide_eq_false hc1
    refine zO rfl (zx (zt (zo (zf (JD.keep [] [] rfl (zd _ _ rfl rfl rfl (zc rfl (za rfl rfl (ze rfl) (zg rfl (zf (zE rfl ?_)))))))))))
    exact zA Tryz.results49 (.cons (zC rfl) .nil) rfl HSub.rfl' ⟨rfl, rfl⟩

set_option maxHeartbeats 4000000 in
set_option maxRecDepth 100000 in
theorem putTexts_0 (gb : Nat) (c1 c2 c3 c4 c5 c6 c7 c8 c9 c10 c11 c12 c13 c14 c15 c16 c17 c18 c19 : D)  :
    CD Tryz.prog 61 [.bx gb 38 (.agg [dZ, c1, c2, c3, c4, c5, c6, c7, c8, c9, c10, c11, c12, c13, c14, c15, c16, c17, c18, c19])] [dP gb 0] (fun r H' => r = .tup [] ∧ H' = [.bx gb 38 (.agg [dZ, c1, c2, c3, c4, c5, c6, c7, c8, c9, c10, c11, c12, c13, c14, c15, c16, c17, c18, c19])]) := by
  refine zB Tryz.func61 rfl (N := 43) rfl rfl (fun C => ?_)
  refine JD.keep [0] [(0, dP gb 0)] rfl (zd _ _ rfl rfl rfl (zc rfl (za rfl rfl (ze rfl) (zg rfl (zf (zu _ rfl rfl (zP (fun (g : Unit) => [(0, dP gb 0), (2, dI 0)]) (fun (g : Unit) => [.bx gb 38 (.agg [dZ, c1, c2, c3, c4, c5, c6, c7, c8, c9, c10, c11, c12, c13, c14, c15, c16, c17, c18, c19])]) (fun (g : Unit) => True) (fun (g : Unit) => 0) _ () rfl rfl ⟨sk rfl, sk rfl, trivial⟩ HSub.rfl' trivial ?_)))))))
  rintro _ _
  refine JD.keep [0, 2] [(0, dP gb 0), (2, dI 0)] rfl (JD.norm [.bx gb 38 (.agg [dZ, c1, c2, c3, c4, c5, c6, c7, c8, c9, c10, c11, c12, c13, c14, c15, c16, c17, c18, c19])] rfl (zd _ _ rfl rfl rfl (zd _ _ rfl rfl rfl (zc rfl (za rfl rfl (zb rfl) (za rfl rfl (zb rfl) (za rfl rfl (zF rfl) (za rfl rfl (zn rfl zc1 rfl) (za rfl rfl (zy rfl (i := 0) rfl Tryz.isAgg27 rfl) (za rfl rfl (zac (n := 0) rfl ⟨_, _, rfl⟩ Tryz.runUnderlying27) (za rfl rfl (zV rfl rfl rfl) (zg rfl (zf ?_)))))))))))))
  refine zw _ _ rfl rfl rfl rfl (fun hc1 => ?_) (fun hc1 => ?_)
  · replace hc1 := of_decide_eq_true hc1
    exfalso; omega
  · replace hc1 := of_decide_eq_false hc1
    refine zO rfl (zx (zt (zo ?_)))
    exact zaX Tryz.results61 .nil rfl HSub.rfl' ⟨rfl, rfl⟩

set_option maxHeartbeats 4000000 in
set_option maxRecDepth 100000 in
theorem growTexts_0 (gb : Nat) (c1 c2 c3 c4 c5 c6 c7 c8 c9 c10 c11 c12 c13 c14 c15 c16 c17 c18 c19 : D)  :
    CD Tryz.prog 69 [.bx gb 38 (.agg [dZ, c1, c2, c3, c4, c5, c6, c7, c8, c9, c10, c11, c12, c13, c14, c15, c16, c17, c18, c19])] [dP gb 0] (fun r H' => r = dZ ∧ H' = [.bx gb 38 (.agg [dZ, c1, c2, c3, c4, c5, c6, c7, c8, c9, c10, c11, c12, c13, c14, c15, c16, c17, c18, c19])]) := by
  refine zB Tryz.func69 rfl (N := 43) rfl rfl (fun C => ?_)
  refine JD.keep [0] [(0, dP gb 0)] rfl (zd _ _ rfl rfl rfl (zc rfl (za rfl rfl (ze rfl) (zg rfl (zf (zd _ _ rfl rfl rfl (zc rfl (za rfl rfl (ze rfl) (zg rfl (zf (zd _ _ rfl rfl rfl (zd _ _ rfl rfl rfl (zc rfl (za rfl rfl (ze rfl) (zg rfl (zf (zu _ rfl rfl (zP (fun (g : Unit) => [(0, dP gb 0), (2, dZ), (4, dI 0), (3, dZ)]) (fun (g : Unit) => [.bx gb 38 (.agg [dZ, c1, c2, c3, c4, c5, c6, c7, c8, c9, c10, c11, c12, c13, c14, c15, c16, c17, c18, c19])]) (fun (g : Unit) => True) (fun (g : Unit) => 0) _ () rfl rfl ⟨sk rfl, sk rfl, sk rfl, sk rfl, trivial⟩ HSub.rfl' trivial ?_))))))))))))))))))
  rintro _ _
  refine JD.keep [0, 2, 4, 3] [(0, dP gb 0), (2, dZ), (4, dI 0), (3, dZ)] rfl (JD.norm [.bx gb 38 (.agg [dZ, c1, c2, c3, c4, c5, c6, c7, c8, c9, c10, c11, c12, c13, c14, c15, c16, c17, c18, c19])] rfl (zd _ _ rfl rfl rfl (zd _ _ rfl rfl rfl (zc rfl (za rfl rfl (zb rfl) (za rfl rfl (zb rfl) (za rfl rfl (zF rfl) (za rfl rfl (zn rfl zc1 rfl) (za rfl rfl (zy rfl (i := 0) rfl Tryz.isAgg27 rfl) (za rfl rfl (zac (n := 0) rfl ⟨_, _, rfl⟩ Tryz.runUnderlying27) (za rfl rfl (zV rfl rfl rfl) (zg rfl (zf ?_)))))))))))))
  refine zw _ _ rfl rfl rfl rfl (fun hc1 => ?_) (fun hc1 => ?_)
  · replace hc1 := of_decide_eq_true hc1
    exfalso; omega
  · replace hc1 := of_decide_eq_false hc1
    refine zO rfl (zx (zt (zo (zf (JD.keep [2, 3] [(2, dZ), (3, dZ)] rfl (zd _ _ rfl rfl rfl (zc rfl (za rfl rfl (zb rfl) (za rfl rfl (ze rfl) (zg rfl (zf (zE rfl ?_))))))))))))
    exact zA Tryz.results69 (.cons (zC rfl) .nil) rfl HSub.rfl' ⟨rfl, rfl⟩

set_option maxHeartbeats 4000000 in
set_option maxRecDepth 100000 in
theorem markedTexts_0   :
    CD Tryz.prog 79 [] [dZ] (isR (dB true)) := by
  refine zB Tryz.func79 rfl (N := 23) rfl rfl (fun C => ?_)
  refine JD.keep [0] [(0, dZ)] rfl (zd _ _ rfl rfl rfl (zc rfl (za rfl rfl (ze rfl) (zg rfl (zf (zd _ _ rfl rfl rfl (zd _ _ rfl rfl rfl (zc rfl (za rfl rfl (ze rfl) (zg rfl (zf (zu _ rfl rfl (zP (fun (g : Unit) => [(0, dZ), (3, dI 0)]) (fun (g : Unit) => []) (fun (g : Unit) => True) (fun (g : Unit) => 0) _ () rfl rfl ⟨sk rfl, sk rfl, trivial⟩ HSub.rfl' trivial ?_)))))))))))))
  rintro _ _
  refine JD.keep [0, 3] [(0, dZ), (3, dI 0)] rfl (JD.norm [] rfl (zd _ _ rfl rfl rfl (zd _ _ rfl rfl rfl (zc rfl (za rfl rfl (zb rfl) (za rfl rfl (zb rfl) (za rfl rfl (zac (n := 0) rfl ⟨_, _, rfl⟩ Tryz.runUnderlying27) (za rfl rfl (zV rfl rfl rfl) (zg rfl (zf ?_))))))))))
  refine zw _ _ rfl rfl rfl rfl (fun hc1 => ?_) (fun hc1 => ?_)
  · replace hc1 := of_decide_eq_true hc1
    exfalso; omega
  · replace hc1 := of_decide_eq_false hc1
    refine zO rfl (zx (zt (zo (zf (zd _ _ rfl rfl rfl (zc rfl (za rfl rfl (ze rfl) (zg rfl (zf (zE rfl ?_))))))))))
    exact zA Tryz.results79 (.cons (zC rfl) .nil) rfl HSub.rfl' ⟨rfl, rfl⟩

set_option maxHeartbeats 4000000 in
set_option maxRecDepth 100000 in
theorem stillInts_0 (gb : Nat) (c0 c1 c3 c4 c5 c6 c7 c8 c9 c10 c11 c12 c13 c14 c15 c16 c17 c18 c19 : D)  :
    CD Tryz.prog 50 [.bx gb 38 (.agg [c0, c1, dZ, c3, c4, c5, c6, c7, c8, c9, c10, c11, c12, c13, c14, c15, c16, c17, c18, c19])] [dP gb 0] (fun r H' => r = dB true ∧ H' = [.bx gb 38 (.agg [c0, c1, dZ, c3, c4, c5, c6, c7, c8, c9, c10, c11, c12, c13, c14, c15, c16, c17, c18, c19])]) := by
  refine zB Tryz.func50 rfl (N := 29) rfl rfl (fun C => ?_)
  refine JD.keep [0] [(0, dP gb 0)] rfl (zd _ _ rfl rfl rfl (zc rfl (za rfl rfl (ze rfl) (zg rfl (zf (zd _ _ rfl rfl rfl (zd _ _ rfl rfl rfl (zc rfl (za rfl rfl (ze rfl) (zg rfl (zf (zu _ rfl rfl (zP (fun (g : Unit) => [(0, dP gb 0), (3, dI 0)]) (fun (g : Unit) => [.bx gb 38 (.agg [c0, c1, dZ, c3, c4, c5, c6, c7, c8, c9, c10, c11, c12, c13, c14, c15, c16, c17, c18, c19])]) (fun (g : Unit) => True) (fun (g : Unit) => 0) _ () rfl rfl ⟨sk rfl, sk rfl, trivial⟩ HSub.rfl' trivial ?_)))))))))))))
  rintro _ _
  refine JD.keep [0, 3] [(0, dP gb 0), (3, dI 0)] rfl (JD.norm [.bx gb 38 (.agg [c0, c1, dZ, c3, c4, c5, c6, c7, c8, c9, c10, c11, c12, c13, c14, c15, c16, c17, c18, c19])] rfl (zd _ _ rfl rfl rfl (zd _ _ rfl rfl rfl (zc rfl (za rfl rfl (zb rfl) (za rfl rfl (zb rfl) (za rfl rfl (zF rfl) (za rfl rfl (zn rfl zcP rfl) (za rfl rfl (zy rfl (i := 0) rfl Tryz.isAgg28 rfl) (za rfl rfl (zac (n := 0) rfl ⟨_, _, rfl⟩ Tryz.runUnderlying28) (za rfl rfl (zV rfl rfl rfl) (zg rfl (zf ?_)))))))))))))
  refine zw _ _ rfl rfl rfl rfl (fun hc1 => ?_) (fun hc1 => ?_)
  · replace hc1 := of_decide_eq_true hc1
    exfalso; omega
  · replace hc1 := of_decide_eq_false hc1
    refine zO rfl (zx (zt (zo (zf (JD.keep [] [] rfl (zd _ _ rfl rfl rfl (zc rfl (za rfl rfl (ze rfl) (zg rfl (zf (zE rfl ?_)))))))))))
    exact zA Tryz.results50 (.cons (zC rfl) .nil) rfl HSub.rfl' ⟨rfl, rfl⟩

set_option maxHeartbeats 4000000 in
set_option maxRecDepth 100000 in
theorem putInts_0 (gb : Nat) (c0 c1 c3 c4 c5 c6 c7 c8 c9 c10 c11 c12 c13 c14 c15 c16 c17 c18 c19 : D)  :
    CD Tryz.prog 62 [.bx gb 38 (.agg [c0, c1, dZ, c3, c4, c5, c6, c7, c8, c9, c10, c11, c12, c13, c14, c15, c16, c17, c18, c19])] [dP gb 0] (fun r H' => r = .tup [] ∧ H' = [.bx gb 38 (.agg [c0, c1, dZ, c3, c4, c5, c6, c7, c8, c9, c10, c11, c12, c13, c14, c15, c16, c17, c18, c19])]) := by
  refine zB Tryz.func62 rfl (N := 43) rfl rfl (fun C => ?_)
  refine JD.keep [0] [(0, dP gb 0)] rfl (zd _ _ rfl rfl rfl (zc rfl (za rfl rfl (ze rfl) (zg rfl (zf (zu _ rfl rfl (zP (fun (g : Unit) => [(0, dP gb 0), (2, dI 0)]) (fun (g : Unit) => [.bx gb 38 (.agg [c0, c1, dZ, c3, c4, c5, c6, c7, c8, c9, c10, c11, c12, c13, c14, c15, c16, c17, c18, c19])]) (fun (g : Unit) => True) (fun (g : Unit) => 0) _ () rfl rfl ⟨sk rfl, sk rfl, trivial⟩ HSub.rfl' trivial ?_)))))))
  rintro _ _
  refine JD.keep [0, 2] [(0, dP gb 0), (2, dI 0)] rfl (JD.norm [.bx gb 38 (.agg [c0, c1, dZ, c3, c4, c5, c6, c7, c8, c9, c10, c11, c12, c13, c14, c15, c16, c17, c18, c19])] rfl (zd _ _ rfl rfl rfl (zd _ _ rfl rfl rfl (zc rfl (za rfl rfl (zb rfl) (za rfl rfl (zb rfl) (za rfl rfl (zF rfl) (za rfl rfl (zn rfl zcP rfl) (za rfl rfl (zy rfl (i := 0) rfl Tryz.isAgg28 rfl) (za rfl rfl (zac (n := 0) rfl ⟨_, _, rfl⟩ Tryz.runUnderlying28) (za rfl rfl (zV rfl rfl rfl) (zg rfl (zf ?_)))))))))))))
  refine zw _ _ rfl rfl rfl rfl (fun hc1 => ?_) (fun hc1 => ?_)
  · replace hc1 := of_decide_eq_true hc1
    exfalso; omega
  · replace hc1 := of_decide_eq_false hc1
    refine zO rfl (zx (zt (zo ?_)))
    exact zaX Tryz.results62 .nil rfl HSub.rfl' ⟨rfl, rfl⟩

set_option maxHeartbeats 4000000 in
set_option maxRecDepth 100000 in
theorem growInts_0 (gb : Nat) (c0 c1 c3 c4 c5 c6 c7 c8 c9 c10 c11 c12 c13 c14 c15 c16 c17 c18 c19 : D)  :
    CD Tryz.prog 70 [.bx gb 38 (.agg [c0, c1, dZ, c3, c4, c5, c6, c7, c8, c9, c10, c11, c12, c13, c14, c15, c16, c17, c18, c19])] [dP gb 0] (fun r H' => r = dZ ∧ H' = [.bx gb 38 (.agg [c0, c1, dZ, c3, c4, c5, c6, c7, c8, c9, c10, c11, c12, c13, c14, c15, c16, c17, c18, c19])]) := by
  refine zB Tryz.func70 rfl (N := 43) rfl rfl (fun C => ?_)
  refine JD.keep [0] [(0, dP gb 0)] rfl (zd _ _ rfl rfl rfl (zc rfl (za rfl rfl (ze rfl) (zg rfl (zf (zd _ _ rfl rfl rfl (zc rfl (za rfl rfl (ze rfl) (zg rfl (zf (zd _ _ rfl rfl rfl (zd _ _ rfl rfl rfl (zc rfl (za rfl rfl (ze rfl) (zg rfl (zf (zu _ rfl rfl (zP (fun (g : Unit) => [(0, dP gb 0), (2, dZ), (4, dI 0), (3, dZ)]) (fun (g : Unit) => [.bx gb 38 (.agg [c0, c1, dZ, c3, c4, c5, c6, c7, c8, c9, c10, c11, c12, c13, c14, c15, c16, c17, c18, c19])]) (fun (g : Unit) => True) (fun (g : Unit) => 0) _ () rfl rfl ⟨sk rfl, sk rfl, sk rfl, sk rfl, trivial⟩ HSub.rfl' trivial ?_))))))))))))))))))
  rintro _ _
  refine JD.keep [0, 2, 4, 3] [(0, dP gb 0), (2, dZ), (4, dI 0), (3, dZ)] rfl (JD.norm [.bx gb 38 (.agg [c0, c1, dZ, c3, c4, c5, c6, c7, c8, c9, c10, c11, c12, c13, c14, c15, c16, c17, c18, c19])] rfl (zd _ _ rfl rfl rfl (zd _ _ rfl rfl rfl (zc rfl (za rfl rfl (zb rfl) (za rfl rfl (zb rfl) (za rfl rfl (zF rfl) (za rfl rfl (zn rfl zcP rfl) (za rfl rfl (zy rfl (i := 0) rfl Tryz.isAgg28 rfl) (za rfl rfl (zac (n := 0) rfl ⟨_, _, rfl⟩ Tryz.runUnderlying28) (za rfl rfl (zV rfl rfl rfl) (zg rfl (zf ?_)))))))))))))
  refine zw _ _ rfl rfl rfl rfl (fun hc1 => ?_) (fun hc1 => ?_)
  · replace hc1 := of_decide_eq_true hc1
    exfalso; omega
  · replace hc1 := of_decide_eq_false hc1
    refine zO rfl (zx (zt (zo (zf (JD.keep [2, 3] [(2, dZ), (3, dZ)] rfl (zd _ _ rfl rfl rfl (zc rfl (za rfl rfl (zb rfl) (za rfl rfl (ze rfl) (zg rfl (zf (zE rfl ?_))))))))))))
    exact zA Tryz.results70 (.cons (zC rfl) .nil) rfl HSub.rfl' ⟨rfl, rfl⟩

set_option maxHeartbeats 4000000 in
set_option maxRecDepth 100000 in
theorem markedInts_0   :
    CD Tryz.prog 80 [] [dZ] (isR (dB true)) := by
  refine zB Tryz.func80 rfl (N := 23) rfl rfl (fun C => ?_)
  refine JD.keep [0] [(0, dZ)] rfl (zd _ _ rfl rfl rfl (zc rfl (za rfl rfl (ze rfl) (zg rfl (zf (zd _ _ rfl rfl rfl (zd _ _ rfl rfl rfl (zc rfl (za rfl rfl (ze rfl) (zg rfl (zf (zu _ rfl rfl (zP (fun (g : Unit) => [(0, dZ), (3, dI 0)]) (fun (g : Unit) => []) (fun (g : Unit) => True) (fun (g : Unit) => 0) _ () rfl rfl ⟨sk rfl, sk rfl, trivial⟩ HSub.rfl' trivial ?_)))))))))))))
  rintro _ _
  refine JD.keep [0, 3] [(0, dZ), (3, dI 0)] rfl (JD.norm [] rfl (zd _ _ rfl rfl rfl (zd _ _ rfl rfl rfl (zc rfl (za rfl rfl (zb rfl) (za rfl rfl (zb rfl) (za rfl rfl (zac (n := 0) rfl ⟨_, _, rfl⟩ Tryz.runUnderlying28) (za rfl rfl (zV rfl rfl rfl) (zg rfl (zf ?_))))))))))
  refine zw _ _ rfl rfl rfl rfl (fun hc1 => ?_) (fun hc1 => ?_)
  · replace hc1 := of_decide_eq_true hc1
    exfalso; omega
  · replace hc1 := of_decide_eq_false hc1
    refine zO rfl (zx (zt (zo (zf (zd _ _ rfl rfl rfl (zc rfl (za rfl rfl (ze rfl) (zg rfl (zf (zE rfl ?_))))))))))
    exact zA Tryz.results80 (.cons (zC rfl) .nil) rfl HSub.rfl' ⟨rfl, rfl⟩

set_option maxHeartbeats 4000000 in
set_option maxRecDepth 100000 in
theorem stillRunes_0 (gb : Nat) (c0 c1 c2 c3 c5 c6 c7 c8 c9 c10 c11 c12 c13 c14 c15 c16 c17 c18 c19 : D)  :
    CD Tryz.prog 51 [.bx gb 38 (.agg [c0, c1, c2, c3, dZ, c5, c6, c7, c8, c9, c10, c11, c12, c13, c14, c15, c16, c17, c18, c19])] [dP gb 0] (fun r H' => r = dB true ∧ H' = [.bx gb 38 (.agg [c0, c1, c2, c3, dZ, c5, c6, c7, c8, c9, c10, c11, c12, c13, c14, c15, c16, c17, c18, c19])]) := by
  refine zB Tryz.func51 rfl (N := 29) rfl rfl (fun C => ?_)
  refine JD.keep [0] [(0, dP gb 0)] rfl (zd _ _ rfl rfl rfl (zc rfl (za rfl rfl (ze rfl) (zg rfl (zf (zd _ _ rfl rfl rfl (zd _ _ rfl rfl rfl (zc rfl (za rfl rfl (ze rfl) (zg rfl (zf (zu _ rfl rfl (zP (fun (g : Unit) => [(0, dP gb 0), (3, dI 0)]) (fun (g : Unit) => [.bx gb 38 (.agg [c0, c1, c2, c3, dZ, c5, c6, c7, c8, c9, c10, c11, c12, c13, c14, c15, c16, c17, c18, c19])]) (fun (g : Unit) => True) (fun (g : Unit) => 0) _ () rfl rfl ⟨sk rfl, sk rfl, trivial⟩ HSub.rfl' trivial ?_)))))))))))))
  rintro _ _
  refine JD.keep [0, 3] [(0, dP gb 0), (3, dI 0)] rfl (JD.norm [.bx gb 38 (.agg [c0, c1, c2, c3, dZ, c5, c6, c7, c8, c9, c10, c11, c12, c13, c14, c15, c16, c17, c18, c19])] rfl (zd _ _ rfl rfl rfl (zd _ _ rfl rfl rfl (zc rfl (za rfl rfl (zb rfl) (za rfl rfl (zb rfl) (za rfl rfl (zF rfl) (za rfl rfl (zn rfl fa_38_4 rfl) (za rfl rfl (zy rfl (i := 0) rfl Tryz.isAgg29 rfl) (za rfl rfl (zac (n := 0) rfl ⟨_, _, rfl⟩ Tryz.runUnderlying29) (za rfl rfl (zV rfl rfl rfl) (zg rfl (zf ?_)))))))))))))
  refine zw _ _ rfl rfl rfl rfl (fun hc1 => ?_) (fun hc1 => ?_)
  · replace hc1 := of_decide_eq_true hc1
    exfalso; omega
  · replace hc1 := of_decide_eq_false hc1
    refine zO rfl (zx (zt (zo (zf (JD.keep [] [] rfl (zd _ _ rfl rfl rfl (zc rfl (za rfl rfl (ze rfl) (zg rfl (zf (zE rfl ?_)))))))))))
    exact zA Tryz.results51 (.cons (zC rfl) .nil) rfl HSub.rfl' ⟨rfl, rfl⟩

set_option maxHeartbeats 4000000 in
set_option maxRecDepth 100000 in
theorem putRunes_0 (gb : Nat) (c0 c1 c2 c3 c5 c6 c7 c8 c9 c10 c11 c12 c13 c14 c15 c16 c17 c18 c19 : D)  :
    CD Tryz.prog 63 [.bx gb 38 (.agg [c0, c1, c2, c3, dZ, c5, c6, c7, c8, c9, c10, c11, c12, c13, c14, c15, c16, c17, c18, c19])] [dP gb 0] (fun r H' => r = .tup [] ∧ H' = [.bx gb 38 (.agg [c0, c1, c2, c3, dZ, c5, c6, c7, c8, c9, c10, c11, c12, c13, c14, c15, c16, c17, c18, c19])]) := by
  refine zB Tryz.func63 rfl (N := 43) rfl rfl (fun C => ?_)
  refine JD.keep [0] [(0, dP gb 0)] rfl (zd _ _ rfl rfl rfl (zc rfl (za rfl rfl (ze rfl) (zg rfl (zf (zu _ rfl rfl (zP (fun (g : Unit) => [(0, dP gb 0), (2, dI 0)]) (fun (g : Unit) => [.bx gb 38 (.agg [c0, c1, c2, c3, dZ, c5, c6, c7, c8, c9, c10, c11, c12, c13, c14, c15, c16, c17, c18, c19])]) (fun (g : Unit) => True) (fun (g : Unit) => 0) _ () rfl rfl ⟨sk rfl, sk rfl, trivial⟩ HSub.rfl' trivial ?_)))))))
  rintro _ _
  refine JD.keep [0, 2] [(0, dP gb 0), (2, dI 0)] rfl (JD.norm [.bx gb 38 (.agg [c0, c1, c2, c3, dZ, c5, c6, c7, c8, c9, c10, c11, c12, c13, c14, c15, c16, c17, c18, c19])] rfl (zd _ _ rfl rfl rfl (zd _ _ rfl rfl rfl (zc rfl (za rfl rfl (zb rfl) (za rfl rfl (zb rfl) (za rfl rfl (zF rfl) (za rfl rfl (zn rfl fa_38_4 rfl) (za rfl rfl (zy rfl (i := 0) rfl Tryz.isAgg29 rfl) (za rfl rfl (zac (n := 0) rfl ⟨_, _, rfl⟩ Tryz.runUnderlying29) (za rfl rfl (zV rfl rfl rfl) (zg rfl (zf ?_)))))))))))))
  refine zw _ _ rfl rfl rfl rfl (fun hc1 => ?_) (fun hc1 => ?_)
  · replace hc1 := of_decide_eq_true hc1
    exfalso; omega
  · replace hc1 := of_decide_eq_false hc1
    refine zO rfl (zx (zt (zo ?_)))
    exact zaX Tryz.results63 .nil rfl HSub.rfl' ⟨rfl, rfl⟩

set_option maxHeartbeats 4000000 in
set_option maxRecDepth 100000 in
theorem growRunes_0 (gb : Nat) (c0 c1 c2 c3 c5 c6 c7 c8 c9 c10 c11 c12 c13 c14 c15 c16 c17 c18 c19 : D)  :
    CD Tryz.prog 71 [.bx gb 38 (.agg [c0, c1, c2, c3, dZ, c5, c6, c7, c8, c9, c10, c11, c12, c13, c14, c15, c16, c17, c18, c19])] [dP gb 0] (fun r H' => r = dZ ∧ H' = [.bx gb 38 (.agg [c0, c1, c2, c3, dZ, c5, c6, c7, c8, c9, c10, c11, c12, c13, c14, c15, c16, c17, c18, c19])]) := by
  refine zB Tryz.func71 rfl (N := 43) rfl rfl (fun C => ?_)
  refine JD.keep [0] [(0, dP gb 0)] rfl (zd _ _ rfl rfl rfl (zc rfl (za rfl rfl (ze rfl) (zg rfl (zf (zd _ _ rfl rfl rfl (zc rfl (za rfl rfl (ze rfl) (zg rfl (zf (zd _ _ rfl rfl rfl (zd _ _ rfl rfl rfl (zc rfl (za rfl rfl (ze rfl) (zg rfl (zf (zu _ rfl rfl (zP (fun (g : Unit) => [(0, dP gb 0), (2, dZ), (4, dI 0), (3, dZ)]) (fun (g : Unit) => [.bx gb 38 (.agg [c0, c1, c2, c3, dZ, c5, c6, c7, c8, c9, c10, c11, c12, c13, c14, c15, c16, c17, c18, c19])]) (fun (g : Unit) => True) (fun (g : Unit) => 0) _ () rfl rfl ⟨sk rfl, sk rfl, sk rfl, sk rfl, trivial⟩ HSub.rfl' trivial ?_))))))))))))))))))
  rintro _ _
  refine JD.keep [0, 2, 4, 3] [(0, dP gb 0), (2, dZ), (4, dI 0), (3, dZ)] rfl (JD.norm [.bx gb 38 (.agg [c0, c1, c2, c3, dZ, c5, c6, c7, c8, c9, c10, c11, c12, c13, c14, c15, c16, c17, c18, c19])] rfl (zd _ _ rfl rfl rfl (zd _ _ rfl rfl rfl (zc rfl (za rfl rfl (zb rfl) (za rfl rfl (zb rfl) (za rfl rfl (zF rfl) (za rfl rfl (zn rfl fa_38_4 rfl) (za rfl rfl (zy rfl (i := 0) rfl Tryz.isAgg29 rfl) (za rfl rfl (zac (n := 0) rfl ⟨_, _, rfl⟩ Tryz.runUnderlying29) (za rfl rfl (zV rfl rfl rfl) (zg rfl (zf ?_)))))))))))))
  refine zw _ _ rfl rfl rfl rfl (fun hc1 => ?_) (fun hc1 => ?_)
  · replace hc1 := of_decide_eq_true hc1
    exfalso; omega
  · replace hc1 := of_decide_eq_false hc1
    refine zO rfl (zx (zt (zo (zf (JD.keep [2, 3] [(2, dZ), (3, dZ)] rfl (zd _ _ rfl rfl rfl (zc rfl (za rfl rfl (zb rfl) (za rfl rfl (ze rfl) (zg rfl (zf (zE rfl ?_))))))))))))
    exact zA Tryz.results71 (.cons (zC rfl) .nil) rfl HSub.rfl' ⟨rfl, rfl⟩

set_option maxHeartbeats 4000000 in
set_option maxRecDepth 100000 in
theorem markedRunes_0   :
    CD Tryz.prog 81 [] [dZ] (isR (dB true)) := by
  refine zB Tryz.func81 rfl (N := 23) rfl rfl (fun C => ?_)
  refine JD.keep [0] [(0, dZ)] rfl (zd _ _ rfl rfl rfl (zc rfl (za rfl rfl (ze rfl) (zg rfl (zf (zd _ _ rfl rfl rfl (zd _ _ rfl rfl rfl (zc rfl (za rfl rfl (ze rfl) (zg rfl (zf (zu _ rfl rfl (zP (fun (g : Unit) => [(0, dZ), (3, dI 0)]) (fun (g : Unit) => []) (fun (g : Unit) => True) (fun (g : Unit) => 0) _ () rfl rfl ⟨sk rfl, sk rfl, trivial⟩ HSub.rfl' trivial ?_)))))))))))))
  rintro _ _
  refine JD.keep [0, 3] [(0, dZ), (3, dI 0)] rfl (JD.norm [] rfl (zd _ _ rfl rfl rfl (zd _ _ rfl rfl rfl (zc rfl (za rfl rfl (zb rfl) (za rfl rfl (zb rfl) (za rfl rfl (zac (n := 0) rfl ⟨_, _, rfl⟩ Tryz.runUnderlying29) (za rfl rfl (zV rfl rfl rfl) (zg rfl (zf ?_))))))))))
  refine zw _ _ rfl rfl rfl rfl (fun hc1 => ?_) (fun hc1 => ?_)
  · replace hc1 := of_decide_eq_true hc1
    exfalso; omega
  · replace hc1 := of_decide_eq_false hc1
    refine zO rfl (zx (zt (zo (zf (zd _ _ rfl rfl rfl (zc rfl (za rfl rfl (ze rfl) (zg rfl (zf (zE rfl ?_))))))))))
    exact zA Tryz.results81 (.cons (zC rfl) .nil) rfl HSub.rfl' ⟨rfl, rfl⟩

set_option maxHeartbeats 4000000 in
set_option maxRecDepth 100000 in
theorem stillPoints_0 (gb : Nat) (c0 c1 c2 c3 c4 c5 c6 c7 c9 c10 c11 c12 c13 c14 c15 c16 c17 c18 c19 : D)  :
    CD Tryz.prog 53 [.bx gb 38 (.agg [c0, c1, c2, c3, c4, c5, c6, c7, dZ, c9, c10, c11, c12, c13, c14, c15, c16, c17, c18, c19])] [dP gb 0] (fun r H' => r = dB true ∧ H' = [.bx gb 38 (.agg [c0, c1, c2, c3, c4, c5, c6, c7, dZ, c9, c10, c11, c12, c13, c14, c15, c16, c17, c18, c19])]) := by
  refine zB Tryz.func53 rfl (N := 29) rfl rfl (fun C => ?_)
  refine JD.keep [0] [(0, dP gb 0)] rfl (zd _ _ rfl rfl rfl (zc rfl (za rfl rfl (ze rfl) (zg rfl (zf (zd _ _ rfl rfl rfl (zd _ _ rfl rfl rfl (zc rfl (za rfl rfl (ze rfl) (zg rfl (zf (zu _ rfl rfl (zP (fun (g : Unit) => [(0, dP gb 0), (3, dI 0)]) (fun (g : Unit) => [.bx gb 38 (.agg [c0, c1, c2, c3, c4, c5, c6, c7, dZ, c9, c10, c11, c12, c13, c14, c15, c16, c17, c18, c19])]) (fun (g : Unit) => True) (fun (g : Unit) => 0) _ () rfl rfl ⟨sk rfl, sk rfl, trivial⟩ HSub.rfl' trivial ?_)))))))))))))
  rintro _ _
  refine JD.keep [0, 3] [(0, dP gb 0), (3, dI 0)] rfl (JD.norm [.bx gb 38 (.agg [c0, c1, c2, c3, c4, c5, c6, c7, dZ, c9, c10, c11, c12, c13, c14, c15, c16, c17, c18, c19])] rfl (zd _ _ rfl rfl rfl (zd _ _ rfl rfl rfl (zc rfl (za rfl rfl (zb rfl) (za rfl rfl (zb rfl) (za rfl rfl (zF rfl) (za rfl rfl (zn rfl fa_38_8 rfl) (za rfl rfl (zy rfl (i := 0) rfl Tryz.isAgg31 rfl) (za rfl rfl (zac (n := 0) rfl ⟨_, _, rfl⟩ Tryz.runUnderlying31) (za rfl rfl (zV rfl rfl rfl) (zg rfl (zf ?_)))))))))))))
  refine zw _ _ rfl rfl rfl rfl (fun hc1 => ?_) (fun hc1 => ?_)
  · replace hc1 := of_decide_eq_true hc1
    exfalso; omega
  · replace hc1 := of_decide_eq_false hc1
    refine zO rfl (zx (zt (zo (zf (JD.keep [] [] rfl (zd _ _ rfl rfl rfl (zc rfl (za rfl rfl (ze rfl) (zg rfl (zf (zE rfl ?_)))))))))))
    exact zA Tryz.results53 (.cons (zC rfl) .nil) rfl HSub.rfl' ⟨rfl, rfl⟩

set_option maxHeartbeats 4000000 in
set_option maxRecDepth 100000 in
theorem putPoints_0 (gb : Nat) (c0 c1 c2 c3 c4 c5 c6 c7 c9 c10 c11 c12 c13 c14 c15 c16 c17 c18 c19 : D)  :
    CD Tryz.prog 65 [.bx gb 38 (.agg [c0, c1, c2, c3, c4, c5, c6, c7, dZ, c9, c10, c11, c12, c13, c14, c15, c16, c17, c18, c19])] [dP gb 0] (fun r H' => r = .tup [] ∧ H' = [.bx gb 38 (.agg [c0, c1, c2, c3, c4, c5, c6, c7, dZ, c9, c10, c11, c12, c13, c14, c15, c16, c17, c18, c19])]) := by
  refine zB Tryz.func65 rfl (N := 43) rfl rfl (fun C => ?_)
  refine JD.keep [0] [(0, dP gb 0)] rfl (zd _ _ rfl rfl rfl (zc rfl (za rfl rfl (ze rfl) (zg rfl (zf (zu _ rfl rfl (zP (fun (g : Unit) => [(0, dP gb 0), (2, dI 0)]) (fun (g : Unit) => [.bx gb 38 (.agg [c0, c1, c2, c3, c4, c5, c6, c7, dZ, c9, c10, c11, c12, c13, c14, c15, c16, c17, c18, c19])]) (fun (g : Unit) => True) (fun (g : Unit) => 0) _ () rfl rfl ⟨sk rfl, sk rfl, trivial⟩ HSub.rfl' trivial ?_)))))))
  rintro _ _
  refine JD.keep [0, 2] [(0, dP gb 0), (2, dI 0)] rfl (JD.norm [.bx gb 38 (.agg [c0, c1, c2, c3, c4, c5, c6, c7, dZ, c9, c10, c11, c12, c13, c14, c15, c16, c17, c18, c19])] rfl (zd _ _ rfl rfl rfl (zd _ _ rfl rfl rfl (zc rfl (za rfl rfl (zb rfl) (za rfl rfl (zb rfl) (za rfl rfl (zF rfl) (za rfl rfl (zn rfl fa_38_8 rfl) (za rfl rfl (zy rfl (i := 0) rfl Tryz.isAgg31 rfl) (za rfl rfl (zac (n := 0) rfl ⟨_, _, rfl⟩ Tryz.runUnderlying31) (za rfl rfl (zV rfl rfl rfl) (zg rfl (zf ?_)))))))))))))
  refine zw _ _ rfl rfl rfl rfl (fun hc1 => ?_) (fun hc1 => ?_)
  · replace hc1 := of_decide_eq_true hc1
    exfalso; omega
  · replace hc1 := of_decide_eq_false hc1
    refine zO rfl (zx (zt (zo ?_)))
    exact zaX Tryz.results65 .nil rfl HSub.rfl' ⟨rfl, rfl⟩

set_option maxHeartbeats 4000000 in
set_option maxRecDepth 100000 in
theorem growPoints_0 (gb : Nat) (c0 c1 c2 c3 c4 c5 c6 c7 c9 c10 c11 c12 c13 c14 c15 c16 c17 c18 c19 : D)  :
    CD Tryz.prog 73 [.bx gb 38 (.agg [c0, c1, c2, c3, c4, c5, c6, c7, dZ, c9, c10, c11, c12, c13, c14, c15, c16, c17, c18, c19])] [dP gb 0] (fun r H' => r = dZ ∧ H' = [.bx gb 38 (.agg [c0, c1, c2, c3, c4, c5, c6, c7, dZ, c9, c10, c11, c12, c13, c14, c15, c16, c17, c18, c19])]) := by
  refine zB Tryz.func73 rfl (N := 43) rfl rfl (fun C => ?_)
  refine JD.keep [0] [(0, dP gb 0)] rfl (zd _ _ rfl rfl rfl (zc rfl (za rfl rfl (ze rfl) (zg rfl (zf (zd _ _ rfl rfl rfl (zc rfl (za rfl rfl (ze rfl) (zg rfl (zf (zd _ _ rfl rfl rfl (zd _ _ rfl rfl rfl (zc rfl (za rfl rfl (ze rfl) (zg rfl (zf (zu _ rfl rfl (zP (fun (g : Unit) => [(0, dP gb 0), (2, dZ), (4, dI 0), (3, dZ)]) (fun (g : Unit) => [.bx gb 38 (.agg [c0, c1, c2, c3, c4, c5, c6, c7, dZ, c9, c10, c11, c12, c13, c14, c15, c16, c17, c18, c19])]) (fun (g : Unit) => True) (fun (g : Unit) => 0) _ () rfl rfl ⟨sk rfl, sk rfl, sk rfl, sk rfl, trivial⟩ HSub.rfl' trivial ?_))))))))))))))))))
  rintro _ _
  refine JD.keep [0, 2, 4, 3] [(0, dP gb 0), (2, dZ), (4, dI 0), (3, dZ)] rfl (JD.norm [.bx gb 38 (.agg [c0, c1, c2, c3, c4, c5, c6, c7, dZ, c9, c10, c11, c12, c13, c14, c15, c16, c17, c18, c19])] rfl (zd _ _ rfl rfl rfl (zd _ _ rfl rfl rfl (zc rfl (za rfl rfl (zb rfl) (za rfl rfl (zb rfl) (za rfl rfl (zF rfl) (za rfl rfl (zn rfl fa_38_8 rfl) (za rfl rfl (zy rfl (i := 0) rfl Tryz.isAgg31 rfl) (za rfl rfl (zac (n := 0) rfl ⟨_, _, rfl⟩ Tryz.runUnderlying31) (za rfl rfl (zV rfl rfl rfl) (zg rfl (zf ?_)))))))))))))
  refine zw _ _ rfl rfl rfl rfl (fun hc1 => ?_) (fun hc1 => ?_)
  · replace hc1 := of_decide_eq_true hc1
    exfalso; omega
  · replace hc1 := of_decide_eq_false hc1
    refine zO rfl (zx (zt (zo (zf (JD.keep [2, 3] [(2, dZ), (3, dZ)] rfl (zd _ _ rfl rfl rfl (zc rfl (za rfl rfl (zb rfl) (za rfl rfl (ze rfl) (zg rfl (zf (zE rfl ?_))))))))))))
    exact zA Tryz.results73 (.cons (zC rfl) .nil) rfl HSub.rfl' ⟨rfl, rfl⟩

set_option maxHeartbeats 4000000 in
set_option maxRecDepth 100000 in
theorem markedPoints_0   :
    CD Tryz.prog 83 [] [dZ] (isR (dB true)) := by
  refine zB Tryz.func83 rfl (N := 23) rfl rfl (fun C => ?_)
  refine JD.keep [0] [(0, dZ)] rfl (zd _ _ rfl rfl rfl (zc rfl (za rfl rfl (ze rfl) (zg rfl (zf (zd _ _ rfl rfl rfl (zd _ _ rfl rfl rfl (zc rfl (za rfl rfl (ze rfl) (zg rfl (zf (zu _ rfl rfl (zP (fun (g : Unit) => [(0, dZ), (3, dI 0)]) (fun (g : Unit) => []) (fun (g : Unit) => True) (fun (g : Unit) => 0) _ () rfl rfl ⟨sk rfl, sk rfl, trivial⟩ HSub.rfl' trivial ?_)))))))))))))
  rintro _ _
  refine JD.keep [0, 3] [(0, dZ), (3, dI 0)] rfl (JD.norm [] rfl (zd _ _ rfl rfl rfl (zd _ _ rfl rfl rfl (zc rfl (za rfl rfl (zb rfl) (za rfl rfl (zb rfl) (za rfl rfl (zac (n := 0) rfl ⟨_, _, rfl⟩ Tryz.runUnderlying31) (za rfl rfl (zV rfl rfl rfl) (zg rfl (zf ?_))))))))))
  refine zw _ _ rfl rfl rfl rfl (fun hc1 => ?_) (fun hc1 => ?_)
  · replace hc1 := of_decide_eq_true hc1
    exfalso; omega
  · replace hc1 := of_decide_eq_false hc1
    refine zO rfl (zx (zt (zo (zf (zd _ _ rfl rfl rfl (zc rfl (za rfl rfl (ze rfl) (zg rfl (zf (zE rfl ?_))))))))))
    exact zA Tryz.results83 (.cons (zC rfl) .nil) rfl HSub.rfl' ⟨rfl, rfl⟩

set_option maxHeartbeats 4000000 in
set_option maxRecDepth 100000 in
theorem stillTokens_0 (gb : Nat) (c0 c1 c2 c3 c4 c5 c6 c7 c8 c9 c11 c12 c13 c14 c15 c16 c17 c18 c19 : D)  :
    CD Tryz.prog 54 [.bx gb 38 (.agg [c0, c1, c2, c3, c4, c5, c6, c7, c8, c9, dZ, c11, c12, c13, c14, c15, c16, c17, c18, c19])] [dP gb 0] (fun r H' => r = dB true ∧ H' = [.bx gb 38 (.agg [c0, c1, c2, c3, c4, c5, c6, c7, c8, c9, dZ, c11, c12, c13, c14, c15, c16, c17, c18, c19])]) := by
  refine zB Tryz.func54 rfl (N := 29) rfl rfl (fun C => ?_)
  refine JD.keep [0] [(0, dP gb 0)] rfl (zd _ _ rfl rfl rfl (zc rfl (za rfl rfl (ze rfl) (zg rfl (zf (zd _ _ rfl rfl rfl (zd _ _ rfl rfl rfl (zc rfl (za rfl rfl (ze rfl) (zg rfl (zf (zu _ rfl rfl (zP (fun (g : Unit) => [(0, dP gb 0), (3, dI 0)]) (fun (g : Unit) => [.bx gb 38 (.agg [c0, c1, c2, c3, c4, c5, c6, c7, c8, c9, dZ, c11, c12, c13, c14, c15, c16, c17, c18, c19])]) (fun (g : Unit) => True) (fun (g : Unit) => 0) _ () rfl rfl ⟨sk rfl, sk rfl, trivial⟩ HSub.rfl' trivial ?_)))))))))))))
  rintro _ _
  refine JD.keep [0, 3] [(0, dP gb 0), (3, dI 0)] rfl (JD.norm [.bx gb 38 (.agg [c0, c1, c2, c3, c4, c5, c6, c7, c8, c9, dZ, c11, c12, c13, c14, c15, c16, c17, c18, c19])] rfl (zd _ _ rfl rfl rfl (zd _ _ rfl rfl rfl (zc rfl (za rfl rfl (zb rfl) (za rfl rfl (zb rfl) (za rfl rfl (zF rfl) (za rfl rfl (zn rfl fa_38_10 rfl) (za rfl rfl (zy rfl (i := 0) rfl Tryz.isAgg32 rfl) (za rfl rfl (zac (n := 0) rfl ⟨_, _, rfl⟩ Tryz.runUnderlying32) (za rfl rfl (zV rfl rfl rfl) (zg rfl (zf ?_)))))))))))))
  refine zw _ _ rfl rfl rfl rfl (fun hc1 => ?_) (fun hc1 => ?_)
  · replace hc1 := of_decide_eq_true hc1
    exfalso; omega
  · replace hc1 := of_decide_eq_false hc1
    refine zO rfl (zx (zt (zo (zf (JD.keep [] [] rfl (zd _ _ rfl rfl rfl (zc rfl (za rfl rfl (ze rfl) (zg rfl (zf (zE rfl ?_)))))))))))
    exact zA Tryz.results54 (.cons (zC rfl) .nil) rfl HSub.rfl' ⟨rfl, rfl⟩

set_option maxHeartbeats 4000000 in
set_option maxRecDepth 100000 in
theorem putTokens_0 (gb : Nat) (c0 c1 c2 c3 c4 c5 c6 c7 c8 c9 c11 c12 c13 c14 c15 c16 c17 c18 c19 : D)  :
    CD Tryz.prog 66 [.bx gb 38 (.agg [c0, c1, c2, c3, c4, c5, c6, c7, c8, c9, dZ, c11, c12, c13, c14, c15, c16, c17, c18, c19])] [dP gb 0] (fun r H' => r = .tup [] ∧ H' = [.bx gb 38 (.agg [c0, c1, c2, c3, c4, c5, c6, c7, c8, c9, dZ, c11, c12, c13, c14, c15, c16, c17, c18, c19])]) := by
  refine zB Tryz.func66 rfl (N := 43) rfl rfl (fun C => ?_)
  refine JD.keep [0] [(0, dP gb 0)] rfl (zd _ _ rfl rfl rfl (zc rfl (za rfl rfl (ze rfl) (zg rfl (zf (zu _ rfl rfl (zP (fun (g : Unit) => [(0, dP gb 0), (2, dI 0)]) (fun (g : Unit) => [.bx gb 38 (.agg [c0, c1, c2, c3, c4, c5, c6, c7, c8, c9, dZ, c11, c12, c13, c14, c15, c16, c17, c18, c19])]) (fun (g : Unit) => True) (fun (g : Unit) => 0) _ () rfl rfl ⟨sk rfl, sk rfl, trivial⟩ HSub.rfl' trivial ?_)))))))
  rintro _ _
  refine JD.keep [0, 2] [(0, dP gb 0), (2, dI 0)] rfl (JD.norm [.bx gb 38 (.agg [c0, c1, c2, c3, c4, c5, c6, c7, c8, c9, dZ, c11, c12, c13, c14, c15, c16, c17, c18, c19])] rfl (zd _ _ rfl rfl rfl (zd _ _ rfl rfl rfl (zc rfl (za rfl rfl (zb rfl) (za rfl rfl (zb rfl) (za rfl rfl (zF rfl) (za rfl rfl (zn rfl fa_38_10 rfl) (za rfl rfl (zy rfl (i := 0) rfl Tryz.isAgg32 rfl) (za rfl rfl (zac (n := 0) rfl ⟨_, _, rfl⟩ Tryz.runUnderlying32) (za rfl rfl (zV rfl rfl rfl) (zg rfl (zf ?_)))))))))))))
  refine zw _ _ rfl rfl rfl rfl (fun hc1 => ?_) (fun hc1 => ?_)
  · replace hc1 := of_decide_eq_true hc1
    exfalso; omega
  · replace hc1 := of_decide_eq_false hc1
    refine zO rfl (zx (zt (zo ?_)))
    exact zaX Tryz.results66 .nil rfl HSub.rfl' ⟨rfl, rfl⟩

set_option maxHeartbeats 4000000 in
set_option maxRecDepth 100000 in
theorem growTokens_0 (gb : Nat) (c0 c1 c2 c3 c4 c5 c6 c7 c8 c9 c11 c12 c13 c14 c15 c16 c17 c18 c19 : D)  :
    CD Tryz.prog 74 [.bx gb 38 (.agg [c0, c1, c2, c3, c4, c5, c6, c7, c8, c9, dZ, c11, c12, c13, c14, c15, c16, c17, c18, c19])] [dP gb 0] (fun r H' => r = dZ ∧ H' = [.bx gb 38 (.agg [c0, c1, c2, c3, c4, c5, c6, c7, c8, c9, dZ, c11, c12, c13, c14, c15, c16, c17, c18, c19])]) := by
  refine zB Tryz.func74 rfl (N := 43) rfl rfl (fun C => ?_)
  refine JD.keep [0] [(0, dP gb 0)] rfl (zd _ _ rfl rfl rfl (zc rfl (za rfl rfl (ze rfl) (zg rfl (zf (zd _ _ rfl rfl rfl (zc rfl (za rfl rfl (ze rfl) (zg rfl (zf (zd _ _ rfl rfl rfl (zd _ _ rfl rfl rfl (zc rfl (za rfl rfl (ze rfl) (zg rfl (zf (zu _ rfl rfl (zP (fun (g : Unit) => [(0, dP gb 0), (2, dZ), (4, dI 0), (3, dZ)]) (fun (g : Unit) => [.bx gb 38 (.agg [c0, c1, c2, c3, c4, c5, c6, c7, c8, c9, dZ, c11, c12, c13, c14, c15, c16, c17, c18, c19])]) (fun (g : Unit) => True) (fun (g : Unit) => 0) _ () rfl rfl ⟨sk rfl, sk rfl, sk rfl, sk rfl, trivial⟩ HSub.rfl' trivial ?_))))))))))))))))))
  rintro _ _
  refine JD.keep [0, 2, 4, 3] [(0, dP gb 0), (2, dZ), (4, dI 0), (3, dZ)] rfl (JD.norm [.bx gb 38 (.agg [c0, c1, c2, c3, c4, c5, c6, c7, c8, c9, dZ, c11, c12, c13, c14, c15, c16, c17, c18, c19])] rfl (zd _ _ rfl rfl rfl (zd _ _ rfl rfl rfl (zc rfl (za rfl rfl (zb rfl) (za rfl rfl (zb rfl) (za rfl rfl (zF rfl) (za rfl rfl (zn rfl fa_38_10 rfl) (za rfl rfl (zy rfl (i := 0) rfl Tryz.isAgg32 rfl) (za rfl rfl (zac (n := 0) rfl ⟨_, _, rfl⟩ Tryz.runUnderlying32) (za rfl rfl (zV rfl rfl rfl) (zg rfl (zf ?_)))))))))))))
  refine zw _ _ rfl rfl rfl rfl (fun hc1 => ?_) (fun hc1 => ?_)
  · replace hc1 := of_decide_eq_true hc1
    exfalso; omega
  · replace hc1 := of_decide_eq_false hc1
    refine zO rfl (zx (zt (zo (zf (JD.keep [2, 3] [(2, dZ), (3, dZ)] rfl (zd _ _ rfl rfl rfl (zc rfl (za rfl rfl (zb rfl) (za rfl rfl (ze rfl) (zg rfl (zf (zE rfl ?_))))))))))))
    exact zA Tryz.results74 (.cons (zC rfl) .nil) rfl HSub.rfl' ⟨rfl, rfl⟩

set_option maxHeartbeats 4000000 in
set_option maxRecDepth 100000 in
theorem markedTokens_0   :
    CD Tryz.prog 84 [] [dZ] (isR (dB true)) := by
  refine zB Tryz.func84 rfl (N := 23) rfl rfl (fun C => ?_)
  refine JD.keep [0] [(0, dZ)] rfl (zd _ _ rfl rfl rfl (zc rfl (za rfl rfl (ze rfl) (zg rfl (zf (zd _ _ rfl rfl rfl (zd _ _ rfl rfl rfl (zc rfl (za rfl rfl (ze rfl) (zg rfl (zf (zu _ rfl rfl (zP (fun (g : Unit) => [(0, dZ), (3, dI 0)]) (fun (g : Unit) => []) (fun (g : Unit) => True) (fun (g : Unit) => 0) _ () rfl rfl ⟨sk rfl, sk rfl, trivial⟩ HSub.rfl' trivial ?_)))))))))))))
  rintro _ _
  refine JD.keep [0, 3] [(0, dZ), (3, dI 0)] rfl (JD.norm [] rfl (zd _ _ rfl rfl rfl (zd _ _ rfl rfl rfl (zc rfl (za rfl rfl (zb rfl) (za rfl rfl (zb rfl) (za rfl rfl (zac (n := 0) rfl ⟨_, _, rfl⟩ Tryz.runUnderlying32) (za rfl rfl (zV rfl rfl rfl) (zg rfl (zf ?_))))))))))
  refine zw _ _ rfl rfl rfl rfl (fun hc1 => ?_) (fun hc1 => ?_)
  · replace hc1 := of_decide_eq_true hc1
    exfalso; omega
  · replace hc1 := of_decide_eq_false hc1
    refine zO rfl (zx (zt (zo (zf (zd _ _ rfl rfl rfl (zc rfl (za rfl rfl (ze rfl) (zg rfl (zf (zE rfl ?_))))))))))
    exact zA Tryz.results84 (.cons (zC rfl) .nil) rfl HSub.rfl' ⟨rfl, rfl⟩

set_option maxHeartbeats 4000000 in
set_option maxRecDepth 100000 in
theorem stillCursors_0 (gb : Nat) (c0 c1 c2 c3 c4 c5 c6 c7 c8 c9 c10 c11 c13 c14 c15 c16 c17 c18 c19 : D)  :
    CD Tryz.prog 55 [.bx gb 38 (.agg [c0, c1, c2, c3, c4, c5, c6, c7, c8, c9, c10, c11, dZ, c13, c14, c15, c16, c17, c18, c19])] [dP gb 0] (fun r H' => r = dB true ∧ H' = [.bx gb 38 (.agg [c0, c1, c2, c3, c4, c5, c6, c7, c8, c9, c10, c11, dZ, c13, c14, c15, c16, c17, c18, c19])]) := by
  refine zB Tryz.func55 rfl (N := 29) rfl rfl (fun C => ?_)
  refine JD.keep [0] [(0, dP gb 0)] rfl (zd _ _ rfl rfl rfl (zc rfl (za rfl rfl (ze rfl) (zg rfl (zf (zd _ _ rfl rfl rfl (zd _ _ rfl rfl rfl (zc rfl (za rfl rfl (ze rfl) (zg rfl (zf (zu _ rfl rfl (zP (fun (g : Unit) => [(0, dP gb 0), (3, dI 0)]) (fun (g : Unit) => [.bx gb 38 (.agg [c0, c1, c2, c3, c4, c5, c6, c7, c8, c9, c10, c11, dZ, c13, c14, c15, c16, c17, c18, c19])]) (fun (g : Unit) => True) (fun (g : Unit) => 0) _ () rfl rfl ⟨sk rfl, sk rfl, trivial⟩ HSub.rfl' trivial ?_)))))))))))))
  rintro _ _
  refine JD.keep [0, 3] [(0, dP gb 0), (3, dI 0)] rfl (JD.norm [.bx gb 38 (.agg [c0, c1, c2, c3, c4, c5, c6, c7, c8, c9, c10, c11, dZ, c13, c14, c15, c16, c17, c18, c19])] rfl (zd _ _ rfl rfl rfl (zd _ _ rfl rfl rfl (zc rfl (za rfl rfl (zb rfl) (za rfl rfl (zb rfl) (za rfl rfl (zF rfl) (za rfl rfl (zn rfl fa_38_12 rfl) (za rfl rfl (zy rfl (i := 0) rfl Tryz.isAgg33 rfl) (za rfl rfl (zac (n := 0) rfl ⟨_, _, rfl⟩ Tryz.runUnderlying33) (za rfl rfl (zV rfl rfl rfl) (zg rfl (zf ?_)))))))))))))
  refine zw _ _ rfl rfl rfl rfl (fun hc1 => ?_) (fun hc1 => ?_)
  · replace hc1 := of_decide_eq_true hc1
    exfalso; omega
  · replace hc1 := of_decide_eq_false hc1
    refine zO rfl (zx (zt (zo (zf (JD.keep [] [] rfl (zd _ _ rfl rfl rfl (zc rfl (za rfl rfl (ze rfl) (zg rfl (zf (zE rfl ?_)))))))))))
    exact zA Tryz.results55 (.cons (zC rfl) .nil) rfl HSub.rfl' ⟨rfl, rfl⟩

set_option maxHeartbeats 4000000 in
set_option maxRecDepth 100000 in
theorem putCursors_0 (gb : Nat) (c0 c1 c2 c3 c4 c5 c6 c7 c8 c9 c10 c11 c13 c14 c15 c16 c17 c18 c19 : D)  :
    CD Tryz.prog 67 [.bx gb 38 (.agg [c0, c1, c2, c3, c4, c5, c6, c7, c8, c9, c10, c11, dZ, c13, c14, c15, c16, c17, c18, c19])] [dP gb 0] (fun r H' => r = .tup [] ∧ H' = [.bx gb 38 (.agg [c0, c1, c2, c3, c4, c5, c6, c7, c8, c9, c10, c11, dZ, c13, c14, c15, c16, c17, c18, c19])]) := by
  refine zB Tryz.func67 rfl (N := 43) rfl rfl (fun C => ?_)
  refine JD.keep [0] [(0, dP gb 0)] rfl (zd _ _ rfl rfl rfl (zc rfl (za rfl rfl (ze rfl) (zg rfl (zf (zu _ rfl rfl (zP (fun (g : Unit) => [(0, dP gb 0), (2, dI 0)]) (fun (g : Unit) => [.bx gb 38 (.agg [c0, c1, c2, c3, c4, c5, c6, c7, c8, c9, c10, c11, dZ, c13, c14, c15, c16, c17, c18, c19])]) (fun (g : Unit) => True) (fun (g : Unit) => 0) _ () rfl rfl ⟨sk rfl, sk rfl, trivial⟩ HSub.rfl' trivial ?_)))))))
  rintro _ _
  refine JD.keep [0, 2] [(0, dP gb 0), (2, dI 0)] rfl (JD.norm [.bx gb 38 (.agg [c0, c1, c2, c3, c4, c5, c6, c7, c8, c9, c10, c11, dZ, c13, c14, c15, c16, c17, c18, c19])] rfl (zd _ _ rfl rfl rfl (zd _ _ rfl rfl rfl (zc rfl (za rfl rfl (zb rfl) (za rfl rfl (zb rfl) (za rfl rfl (zF rfl) (za rfl rfl (zn rfl fa_38_12 rfl) (za rfl rfl (zy rfl (i := 0) rfl Tryz.isAgg33 rfl) (za rfl rfl (zac (n := 0) rfl ⟨_, _, rfl⟩ Tryz.runUnderlying33) (za rfl rfl (zV rfl rfl rfl) (zg rfl (zf ?_)))))))))))))
  refine zw _ _ rfl rfl rfl rfl (fun hc1 => ?_) (fun hc1 => ?_)
  · replace hc1 := of_decide_eq_true hc1
    exfalso; omega
  · replace hc1 := of_decide_eq_false hc1
    refine zO rfl (zx (zt (zo ?_)))
    exact zaX Tryz.results67 .nil rfl HSub.rfl' ⟨rfl, rfl⟩

set_option maxHeartbeats 4000000 in
set_option maxRecDepth 100000 in
theorem growCursors_0 (gb : Nat) (c0 c1 c2 c3 c4 c5 c6 c7 c8 c9 c10 c11 c13 c14 c15 c16 c17 c18 c19 : D)  :
    CD Tryz.prog 75 [.bx gb 38 (.agg [c0, c1, c2, c3, c4, c5, c6, c7, c8, c9, c10, c11, dZ, c13, c14, c15, c16, c17, c18, c19])] [dP gb 0] (fun r H' => r = dZ ∧ H' = [.bx gb 38 (.agg [c0, c1, c2, c3, c4, c5, c6, c7, c8, c9, c10, c11, dZ, c13, c14, c15, c16, c17, c18, c19])]) := by
  refine zB Tryz.func75 rfl (N := 43) rfl rfl (fun C => ?_)
  refine JD.keep [0] [(0, dP gb 0)] rfl (zd _ _ rfl rfl rfl (zc rfl (za rfl rfl (ze rfl) (zg rfl (zf (zd _ _ rfl rfl rfl (zc rfl (za rfl rfl (ze rfl) (zg rfl (zf (zd _ _ rfl rfl rfl (zd _ _ rfl rfl rfl (zc rfl (za rfl rfl (ze rfl) (zg rfl (zf (zu _ rfl rfl (zP (fun (g : Unit) => [(0, dP gb 0), (2, dZ), (4, dI 0), (3, dZ)]) (fun (g : Unit) => [.bx gb 38 (.agg [c0, c1, c2, c3, c4, c5, c6, c7, c8, c9, c10, c11, dZ, c13, c14, c15, c16, c17, c18, c19])]) (fun (g : Unit) => True) (fun (g : Unit) => 0) _ () rfl rfl ⟨sk rfl, sk rfl, sk rfl, sk rfl, trivial⟩ HSub.rfl' trivial ?_))))))))))))))))))
  rintro _ _
  refine JD.keep [0, 2, 4, 3] [(0, dP gb 0), (2, dZ), (4, dI 0), (3, dZ)] rfl (JD.norm [.bx gb 38 (.agg [c0, c1, c2, c3, c4, c5, c6, c7, c8, c9, c10, c11, dZ, c13, c14, c15, c16, c17, c18, c19])] rfl (zd _ _ rfl rfl rfl (zd _ _ rfl rfl rfl (zc rfl (za rfl rfl (zb rfl) (za rfl rfl (zb rfl) (za rfl rfl (zF rfl) (za rfl rfl (zn rfl fa_38_12 rfl) (za rfl rfl (zy rfl (i := 0) rfl Tryz.isAgg33 rfl) (za rfl rfl (zac (n := 0) rfl ⟨_, _, rfl⟩ Tryz.runUnderlying33) (za rfl rfl (zV rfl rfl rfl) (zg rfl (zf ?_)))))))))))))
  refine zw _ _ rfl rfl rfl rfl (fun hc1 => ?_) (fun hc1 => ?_)
  · replace hc1 := of_decide_eq_true hc1
    exfalso; omega
  · replace hc1 := of_decide_eq_false hc1
    refine zO rfl (zx (zt (zo (zf (JD.keep [2, 3] [(2, dZ), (3, dZ)] rfl (zd _ _ rfl rfl rfl (zc rfl (za rfl rfl (zb rfl) (za rfl rfl (ze rfl) (zg rfl (zf (zE rfl ?_))))))))))))
    exact zA Tryz.results75 (.cons (zC rfl) .nil) rfl HSub.rfl' ⟨rfl, rfl⟩

set_option maxHeartbeats 4000000 in
set_option maxRecDepth 100000 in
theorem markedCursors_0   :
    CD Tryz.prog 85 [] [dZ] (isR (dB true)) := by
  refine zB Tryz.func85 rfl (N := 23) rfl rfl (fun C => ?_)
  refine JD.keep [0] [(0, dZ)] rfl (zd _ _ rfl rfl rfl (zc rfl (za rfl rfl (ze rfl) (zg rfl (zf (zd _ _ rfl rfl rfl (zd _ _ rfl rfl rfl (zc rfl (za rfl rfl (ze rfl) (zg rfl (zf (zu _ rfl rfl (zP (fun (g : Unit) => [(0, dZ), (3, dI 0)]) (fun (g : Unit) => []) (fun (g : Unit) => True) (fun (g : Unit) => 0) _ () rfl rfl ⟨sk rfl, sk rfl, trivial⟩ HSub.rfl' trivial ?_)))))))))))))
  rintro _ _
  refine JD.keep [0, 3] [(0, dZ), (3, dI 0)] rfl (JD.norm [] rfl (zd _ _ rfl rfl rfl (zd _ _ rfl rfl rfl (zc rfl (za rfl rfl (zb rfl) (za rfl rfl (zb rfl) (za rfl rfl (zac (n := 0) rfl ⟨_, _, rfl⟩ Tryz.runUnderlying33) (za rfl rfl (zV rfl rfl rfl) (zg rfl (zf ?_))))))))))
  refine zw _ _ rfl rfl rfl rfl (fun hc1 => ?_) (fun hc1 => ?_)
  · replace hc1 := of_decide_eq_true hc1
    exfalso; omega
  · replace hc1 := of_decide_eq_false hc1
    refine zO rfl (zx (zt (zo (zf (zd _ _ rfl rfl rfl (zc rfl (za rfl rfl (ze rfl) (zg rfl (zf (zE rfl ?_))))))))))
    exact zA Tryz.results85 (.cons (zC rfl) .nil) rfl HSub.rfl' ⟨rfl, rfl⟩

set_option maxHeartbeats 4000000 in
set_option maxRecDepth 100000 in
theorem stillNotes_0 (gb : Nat) (c0 c1 c2 c3 c4 c5 c6 c7 c8 c9 c10 c11 c12 c13 c15 c16 c17 c18 c19 : D)  :
    CD Tryz.prog 56 [.bx gb 38 (.agg [c0, c1, c2, c3, c4, c5, c6, c7, c8, c9, c10, c11, c12, c13, dZ, c15, c16, c17, c18, c19])] [dP gb 0] (fun r H' => r = dB true ∧ H' = [.bx gb 38 (.agg [c0, c1, c2, c3, c4, c5, c6, c7, c8, c9, c10, c11, c12, c13, dZ, c15, c16, c17, c18, c19])]) := by
  refine zB Tryz.func56 rfl (N := 29) rfl rfl (fun C => ?_)
  refine JD.keep [0] [(0, dP gb 0)] rfl (zd _ _ rfl rfl rfl (zc rfl (za rfl rfl (ze rfl) (zg rfl (zf (zd _ _ rfl rfl rfl (zd _ _ rfl rfl rfl (zc rfl (za rfl rfl (ze rfl) (zg rfl (zf (zu _ rfl rfl (zP (fun (g : Unit) => [(0, dP gb 0), (3, dI 0)]) (fun (g : Unit) => [.bx gb 38 (.agg [c0, c1, c2, c3, c4, c5, c6, c7, c8, c9, c10, c11, c12, c13, dZ, c15, c16, c17, c18, c19])]) (fun (g : Unit) => True) (fun (g : Unit) => 0) _ () rfl rfl ⟨sk rfl, sk rfl, trivial⟩ HSub.rfl' trivial ?_)))))))))))))
  rintro _ _
  refine JD.keep [0, 3] [(0, dP gb 0), (3, dI 0)] rfl (JD.norm [.bx gb 38 (.agg [c0, c1, c2, c3, c4, c5, c6, c7, c8, c9, c10, c11, c12, c13, dZ, c15, c16, c17, c18, c19])] rfl (zd _ _ rfl rfl rfl (zd _ _ rfl rfl rfl (zc rfl (za rfl rfl (zb rfl) (za rfl rfl (zb rfl) (za rfl rfl (zF rfl) (za rfl rfl (zn rfl fa_38_14 rfl) (za rfl rfl (zy rfl (i := 0) rfl Tryz.isAgg34 rfl) (za rfl rfl (zac (n := 0) rfl ⟨_, _, rfl⟩ Tryz.runUnderlying34) (za rfl rfl (zV rfl rfl rfl) (zg rfl (zf ?_)))))))))))))
  refine zw _ _ rfl rfl rfl rfl (fun hc1 => ?_) (fun hc1 => ?_)
  · replace hc1 := of_decide_eq_true hc1
    exfalso; omega
  · replace hc1 := of_decide_eq_false hc1
    refine zO rfl (zx (zt (zo (zf (JD.keep [] [] rfl (zd _ _ rfl rfl rfl (zc rfl (za rfl rfl (ze rfl) (zg rfl (zf (zE rfl ?_)))))))))))
    exact zA Tryz.results56 (.cons (zC rfl) .nil) rfl HSub.rfl' ⟨rfl, rfl⟩

set_option maxHeartbeats 4000000 in
set_option maxRecDepth 100000 in
theorem putNotes_0 (gb : Nat) (c0 c1 c2 c3 c4 c5 c6 c7 c8 c9 c10 c11 c12 c13 c15 c16 c17 c18 c19 : D)  :
    CD Tryz.prog 68 [.bx gb 38 (.agg [c0, c1, c2, c3, c4, c5, c6, c7, c8, c9, c10, c11, c12, c13, dZ, c15, c16, c17, c18, c19])] [dP gb 0] (fun r H' => r = .tup [] ∧ H' = [.bx gb 38 (.agg [c0, c1, c2, c3, c4, c5, c6, c7, c8, c9, c10, c11, c12, c13, dZ, c15, c16, c17, c18, c19])]) := by
  refine zB Tryz.func68 rfl (N := 43) rfl rfl (fun C => ?_)
  refine JD.keep [0] [(0, dP gb 0)] rfl (zd _ _ rfl rfl rfl (zc rfl (za rfl rfl (ze rfl) (zg rfl (zf (zu _ rfl rfl (zP (fun (g : Unit) => [(0, dP gb 0), (2, dI 0)]) (fun (g : Unit) => [.bx gb 38 (.agg [c0, c1, c2, c3, c4, c5, c6, c7, c8, c9, c10, c11, c12, c13, dZ, c15, c16, c17, c18, c19])]) (fun (g : Unit) => True) (fun (g : Unit) => 0) _ () rfl rfl ⟨sk rfl, sk rfl, trivial⟩ HSub.rfl' trivial ?_)))))))
  rintro _ _
  refine JD.keep [0, 2] [(0, dP gb 0), (2, dI 0)] rfl (JD.norm [.bx gb 38 (.agg [c0, c1, c2, c3, c4, c5, c6, c7, c8, c9, c10, c11, c12, c13, dZ, c15, c16, c17, c18, c19])] rfl (zd _ _ rfl rfl rfl (zd _ _ rfl rfl rfl (zc rfl (za rfl rfl (zb rfl) (za rfl rfl (zb rfl) (za rfl rfl (zF rfl) (za rfl rfl (zn rfl fa_38_14 rfl) (za rfl rfl (zy rfl (i := 0) rfl Tryz.isAgg34 rfl) (za rfl rfl (zac (n := 0) rfl ⟨_, _, rfl⟩ Tryz.runUnderlying34) (za rfl rfl (zV rfl rfl rfl) (zg rfl (zf ?_)))))))))))))
  refine zw _ _ rfl rfl rfl rfl (fun hc1 => ?_) (fun hc1 => ?_)
  · replace hc1 := of_decide_eq_true hc1
    exfalso; omega
  · replace hc1 := of_decide_eq_false hc1
    refine zO rfl (zx (zt (zo ?_)))
    exact zaX Tryz.results68 .nil rfl HSub.rfl' ⟨rfl, rfl⟩

set_option maxHeartbeats 4000000 in
set_option maxRecDepth 100000 in
theorem growNotes_0 (gb : Nat) (c0 c1 c2 c3 c4 c5 c6 c7 c8 c9 c10 c11 c12 c13 c15 c16 c17 c18 c19 : D)  :
    CD Tryz.prog 76 [.bx gb 38 (.agg [c0, c1, c2, c3, c4, c5, c6, c7, c8, c9, c10, c11, c12, c13, dZ, c15, c16, c17, c18, c19])] [dP gb 0] (fun r H' => r = dZ ∧ H' = [.bx gb 38 (.agg [c0, c1, c2, c3, c4, c5, c6, c7, c8, c9, c10, c11, c12, c13, dZ, c15, c16, c17, c18, c19])]) := by
  refine zB Tryz.func76 rfl (N := 43) rfl rfl (fun C => ?_)
  refine JD.keep [0] [(0, dP gb 0)] rfl (zd _ _ rfl rfl rfl (zc rfl (za rfl rfl (ze rfl) (zg rfl (zf (zd _ _ rfl rfl rfl (zc rfl (za rfl rfl (ze rfl) (zg rfl (zf (zd _ _ rfl rfl rfl (zd _ _ rfl rfl rfl (zc rfl (za rfl rfl (ze rfl) (zg rfl (zf (zu _ rfl rfl (zP (fun (g : Unit) => [(0, dP gb 0), (2, dZ), (4, dI 0), (3, dZ)]) (fun (g : Unit) => [.bx gb 38 (.agg [c0, c1, c2, c3, c4, c5, c6, c7, c8, c9, c10, c11, c12, c13, dZ, c15, c16, c17, c18, c19])]) (fun (g : Unit) => True) (fun (g : Unit) => 0) _ () rfl rfl ⟨sk rfl, sk rfl, sk rfl, sk rfl, trivial⟩ HSub.rfl' trivial ?_))))))))))))))))))
  rintro _ _
  refine JD.keep [0, 2, 4, 3] [(0, dP gb 0), (2, dZ), (4, dI 0), (3, dZ)] rfl (JD.norm [.bx gb 38 (.agg [c0, c1, c2, c3, c4, c5, c6, c7, c8, c9, c10, c11, c12, c13, dZ, c15, c16, c17, c18, c19])] rfl (zd _ _ rfl rfl rfl (zd _ _ rfl rfl rfl (zc rfl (za rfl rfl (zb rfl) (za rfl rfl (zb rfl) (za rfl rfl (zF rfl) (za rfl rfl (zn rfl fa_38_14 rfl) (za rfl rfl (zy rfl (i := 0) rfl Tryz.isAgg34 rfl) (za rfl rfl (zac (n := 0) rfl ⟨_, _, rfl⟩ Tryz.runUnderlying34) (za rfl rfl (zV rfl rfl rfl) (zg rfl (zf ?_)))))))))))))
  refine zw _ _ rfl rfl rfl rfl (fun hc1 => ?_) (fun hc1 => ?_)
  · replace hc1 := of_decide_eq_true hc1
    exfalso; omega
  · replace hc1 := of_decide_eq_false hc1
    refine zO rfl (zx (zt (zo (zf (JD.keep [2, 3] [(2, dZ), (3, dZ)] rfl (zd _ _ rfl rfl rfl (zc rfl (za rfl rfl (zb rfl) (za rfl rfl (ze rfl) (zg rfl (zf (zE rfl ?_))))))))))))
    exact zA Tryz.results76 (.cons (zC rfl) .nil) rfl HSub.rfl' ⟨rfl, rfl⟩

set_option maxHeartbeats 4000000 in
set_option maxRecDepth 100000 in
theorem markedNotes_0   :
    CD Tryz.prog 86 [] [dZ] (isR (dB true)) := by
  refine zB Tryz.func86 rfl (N := 23) rfl rfl (fun C => ?_)
  refine JD.keep [0] [(0, dZ)] rfl (zd _ _ rfl rfl rfl (zc rfl (za rfl rfl (ze rfl) (zg rfl (zf (zd _ _ rfl rfl rfl (zd _ _ rfl rfl rfl (zc rfl (za rfl rfl (ze rfl) (zg rfl (zf (zu _ rfl rfl (zP (fun (g : Unit) => [(0, dZ), (3, dI 0)]) (fun (g : Unit) => []) (fun (g : Unit) => True) (fun (g : Unit) => 0) _ () rfl rfl ⟨sk rfl, sk rfl, trivial⟩ HSub.rfl' trivial ?_)))))))))))))
  rintro _ _
  refine JD.keep [0, 3] [(0, dZ), (3, dI 0)] rfl (JD.norm [] rfl (zd _ _ rfl rfl rfl (zd _ _ rfl rfl rfl (zc rfl (za rfl rfl (zb rfl) (za rfl rfl (zb rfl) (za rfl rfl (zac (n := 0) rfl ⟨_, _, rfl⟩ Tryz.runUnderlying34) (za rfl rfl (zV rfl rfl rfl) (zg rfl (zf ?_))))))))))
  refine zw _ _ rfl rfl rfl rfl (fun hc1 => ?_) (fun hc1 => ?_)
  · replace hc1 := of_decide_eq_true hc1
    exfalso; omega
  · replace hc1 := of_decide_eq_false hc1
    refine zO rfl (zx (zt (zo (zf (zd _ _ rfl rfl rfl (zc rfl (za rfl rfl (ze rfl) (zg rfl (zf (zE rfl ?_))))))))))
    exact zA Tryz.results86 (.cons (zC rfl) .nil) rfl HSub.rfl' ⟨rfl, rfl⟩

set_option maxHeartbeats 4000000 in
set_option maxRecDepth 100000 in
theorem stillRows_0 (gb : Nat) (c0 c1 c2 c3 c4 c5 c6 c7 c8 c9 c10 c11 c12 c13 c14 c15 c17 c18 c19 : D)  :
    CD Tryz.prog 57 [.bx gb 38 (.agg [c0, c1, c2, c3, c4, c5, c6, c7, c8, c9, c10, c11, c12, c13, c14, c15, dZ, c17, c18, c19])] [dP gb 0] (fun r H' => r = dB true ∧ H' = [.bx gb 38 (.agg [c0, c1, c2, c3, c4, c5, c6, c7, c8, c9, c10, c11, c12, c13, c14, c15, dZ, c17, c18, c19])]) := by
  refine zB Tryz.func57 rfl (N := 29) rfl rfl (fun C => ?_)
  refine JD.keep [0] [(0, dP gb 0)] rfl (zd _ _ rfl rfl rfl (zc rfl (za rfl rfl (ze rfl) (zg rfl (zf (zd _ _ rfl rfl rfl (zd _ _ rfl rfl rfl (zc rfl (za rfl rfl (ze rfl) (zg rfl (zf (zu _ rfl rfl (zP (fun (g : Unit) => [(0, dP gb 0), (3, dI 0)]) (fun (g : Unit) => [.bx gb 38 (.agg [c0, c1, c2, c3, c4, c5, c6, c7, c8, c9, c10, c11, c12, c13, c14, c15, dZ, c17, c18, c19])]) (fun (g : Unit) => True) (fun (g : Unit) => 0) _ () rfl rfl ⟨sk rfl, sk rfl, trivial⟩ HSub.rfl' trivial ?_)))))))))))))
  rintro _ _
  refine JD.keep [0, 3] [(0, dP gb 0), (3, dI 0)] rfl (JD.norm [.bx gb 38 (.agg [c0, c1, c2, c3, c4, c5, c6, c7, c8, c9, c10, c11, c12, c13, c14, c15, dZ, c17, c18, c19])] rfl (zd _ _ rfl rfl rfl (zd _ _ rfl rfl rfl (zc rfl (za rfl rfl (zb rfl) (za rfl rfl (zb rfl) (za rfl rfl (zF rfl) (za rfl rfl (zn rfl zcn rfl) (za rfl rfl (zy rfl (i := 0) rfl Tryz.isAgg35 rfl) (za rfl rfl (zac (n := 0) rfl ⟨_, _, rfl⟩ Tryz.runUnderlying35) (za rfl rfl (zV rfl rfl rfl) (zg rfl (zf ?_)))))))))))))
  refine zw _ _ rfl rfl rfl rfl (fun hc1 => ?_) (fun hc1 => ?_)
  · replace hc1 := of_decide_eq_true hc1
    exfalso; omega
  · replace hc1 := of_decide_eq_false hc1
    refine zO rfl (zx (zt (zo (zf (JD.keep [] [] rfl (zd _ _ rfl rfl rfl (zc rfl (za rfl rfl (ze rfl) (zg rfl (zf (zE rfl ?_)))))))))))
    exact zA Tryz.results57 (.cons (zC rfl) .nil) rfl HSub.rfl' ⟨rfl, rfl⟩

set_option maxHeartbeats 4000000 in
set_option maxRecDepth 100000 in
theorem putRows_0 (gb : Nat) (c0 c1 c2 c3 c4 c5 c6 c7 c8 c9 c10 c11 c12 c13 c14 c15 c17 c18 c19 : D)  :
    CD Tryz.prog 59 [.bx gb 38 (.agg [c0, c1, c2, c3, c4, c5, c6, c7, c8, c9, c10, c11, c12, c13, c14, c15, dZ, c17, c18, c19])] [dP gb 0] (fun r H' => r = .tup [] ∧ H' = [.bx gb 38 (.agg [c0, c1, c2, c3, c4, c5, c6, c7, c8, c9, c10, c11, c12, c13, c14, c15, dZ, c17, c18, c19])]) := by
  refine zB Tryz.func59 rfl (N := 43) rfl rfl (fun C => ?_)
  refine JD.keep [0] [(0, dP gb 0)] rfl (zd _ _ rfl rfl rfl (zc rfl (za rfl rfl (ze rfl) (zg rfl (zf (zu _ rfl rfl (zP (fun (g : Unit) => [(0, dP gb 0), (2, dI 0)]) (fun (g : Unit) => [.bx gb 38 (.agg [c0, c1, c2, c3, c4, c5, c6, c7, c8, c9, c10, c11, c12, c13, c14, c15, dZ, c17, c18, c19])]) (fun (g : Unit) => True) (fun (g : Unit) => 0) _ () rfl rfl ⟨sk rfl, sk rfl, trivial⟩ HSub.rfl' trivial ?_)))))))
  rintro _ _
  refine JD.keep [0, 2] [(0, dP gb 0), (2, dI 0)] rfl (JD.norm [.bx gb 38 (.agg [c0, c1, c2, c3, c4, c5, c6, c7, c8, c9, c10, c11, c12, c13, c14, c15, dZ, c17, c18, c19])] rfl (zd _ _ rfl rfl rfl (zd _ _ rfl rfl rfl (zc rfl (za rfl rfl (zb rfl) (za rfl rfl (zb rfl) (za rfl rfl (zF rfl) (za rfl rfl (zn rfl zcn rfl) (za rfl rfl (zy rfl (i := 0) rfl Tryz.isAgg35 rfl) (za rfl rfl (zac (n := 0) rfl ⟨_, _, rfl⟩ Tryz.runUnderlying35) (za rfl rfl (zV rfl rfl rfl) (zg rfl (zf ?_)))))))))))))
  refine zw _ _ rfl rfl rfl rfl (fun hc1 => ?_) (fun hc1 => ?_)
  · replace hc1 := of_decide_eq_true hc1
    exfalso; omega
  · replace hc1 := of_decide_eq_false hc1
    refine zO rfl (zx (zt (zo ?_)))
    exact zaX Tryz.results59 .nil rfl HSub.rfl' ⟨rfl, rfl⟩

set_option maxHeartbeats 4000000 in
set_option maxRecDepth 100000 in
theorem growRows_0 (gb : Nat) (c0 c1 c2 c3 c4 c5 c6 c7 c8 c9 c10 c11 c12 c13 c14 c15 c17 c18 c19 : D)  :
    CD Tryz.prog 77 [.bx gb 38 (.agg [c0, c1, c2, c3, c4, c5, c6, c7, c8, c9, c10, c11, c12, c13, c14, c15, dZ, c17, c18, c19])] [dP gb 0] (fun r H' => r = dZ ∧ H' = [.bx gb 38 (.agg [c0, c1, c2, c3, c4, c5, c6, c7, c8, c9, c10, c11, c12, c13, c14, c15, dZ, c17, c18, c19])]) := by
  refine zB Tryz.func77 rfl (N := 43) rfl rfl (fun C => ?_)
  refine JD.keep [0] [(0, dP gb 0)] rfl (zd _ _ rfl rfl rfl (zc rfl (za rfl rfl (ze rfl) (zg rfl (zf (zd _ _ rfl rfl rfl (zc rfl (za rfl rfl (ze rfl) (zg rfl (zf (zd _ _ rfl rfl rfl (zd _ _ rfl rfl rfl (zc rfl (za rfl rfl (ze rfl) (zg rfl (zf (zu _ rfl rfl (zP (fun (g : Unit) => [(0, dP gb 0), (2, dZ), (4, dI 0), (3, dZ)]) (fun (g : Unit) => [.bx gb 38 (.agg [c0, c1, c2, c3, c4, c5, c6, c7, c8, c9, c10, c11, c12, c13, c14, c15, dZ, c17, c18, c19])]) (fun (g : Unit) => True) (fun (g : Unit) => 0) _ () rfl rfl ⟨sk rfl, sk rfl, sk rfl, sk rfl, trivial⟩ HSub.rfl' trivial ?_))))))))))))))))))
  rintro _ _
  refine JD.keep [0, 2, 4, 3] [(0, dP gb 0), (2, dZ), (4, dI 0), (3, dZ)] rfl (JD.norm [.bx gb 38 (.agg [c0, c1, c2, c3, c4, c5, c6, c7, c8, c9, c10, c11, c12, c13, c14, c15, dZ, c17, c18, c19])] rfl (zd _ _ rfl rfl rfl (zd _ _ rfl rfl rfl (zc rfl (za rfl rfl (zb rfl) (za rfl rfl (zb rfl) (za rfl rfl (zF rfl) (za rfl rfl (zn rfl zcn rfl) (za rfl rfl (zy rfl (i := 0) rfl Tryz.isAgg35 rfl) (za rfl rfl (zac (n := 0) rfl ⟨_, _, rfl⟩ Tryz.runUnderlying35) (za rfl rfl (zV rfl rfl rfl) (zg rfl (zf ?_)))))))))))))
  refine zw _ _ rfl rfl rfl rfl (fun hc1 => ?_) (fun hc1 => ?_)
  · replace hc1 := of_decide_eq_true hc1
    exfalso; omega
  · replace hc1 := of_decide_eq_false hc1
    refine zO rfl (zx (zt (zo (zf (JD.keep [2, 3] [(2, dZ), (3, dZ)] rfl (zd _ _ rfl rfl rfl (zc rfl (za rfl rfl (zb rfl) (za rfl rfl (ze rfl) (zg rfl (zf (zE rfl ?_))))))))))))
    exact zA Tryz.results77 (.cons (zC rfl) .nil) rfl HSub.rfl' ⟨rfl, rfl⟩

set_option maxHeartbeats 4000000 in
set_option maxRecDepth 100000 in
theorem markedRows_0   :
    CD Tryz.prog 87 [] [dZ] (isR (dB true)) := by
  refine zB Tryz.func87 rfl (N := 23) rfl rfl (fun C => ?_)
  refine JD.keep [0] [(0, dZ)] rfl (zd _ _ rfl rfl rfl (zc rfl (za rfl rfl (ze rfl) (zg rfl (zf (zd _ _ rfl rfl rfl (zd _ _ rfl rfl rfl (zc rfl (za rfl rfl (ze rfl) (zg rfl (zf (zu _ rfl rfl (zP (fun (g : Unit) => [(0, dZ), (3, dI 0)]) (fun (g : Unit) => []) (fun (g : Unit) => True) (fun (g : Unit) => 0) _ () rfl rfl ⟨sk rfl, sk rfl, trivial⟩ HSub.rfl' trivial ?_)))))))))))))
  rintro _ _
  refine JD.keep [0, 3] [(0, dZ), (3, dI 0)] rfl (JD.norm [] rfl (zd _ _ rfl rfl rfl (zd _ _ rfl rfl rfl (zc rfl (za rfl rfl (zb rfl) (za rfl rfl (zb rfl) (za rfl rfl (zac (n := 0) rfl ⟨_, _, rfl⟩ Tryz.runUnderlying35) (za rfl rfl (zV rfl rfl rfl) (zg rfl (zf ?_))))))))))
  refine zw _ _ rfl rfl rfl rfl (fun hc1 => ?_) (fun hc1 => ?_)
  · replace hc1 := of_decide_eq_true hc1
    exfalso; omega
  · replace hc1 := of_decide_eq_false hc1
    refine zO rfl (zx (zt (zo (zf (zd _ _ rfl rfl rfl (zc rfl (za rfl rfl (ze rfl) (zg rfl (zf (zE rfl ?_))))))))))
    exact zA Tryz.results87 (.cons (zC rfl) .nil) rfl HSub.rfl' ⟨rfl, rfl⟩

set_option maxHeartbeats 4000000 in
set_option maxRecDepth 100000 in
theorem stillSeries_0 (gb : Nat) (c0 c1 c2 c3 c4 c5 c6 c7 c8 c9 c10 c11 c12 c13 c14 c15 c16 c17 c19 : D)  :
    CD Tryz.prog 58 [.bx gb 38 (.agg [c0, c1, c2, c3, c4, c5, c6, c7, c8, c9, c10, c11, c12, c13, c14, c15, c16, c17, dZ, c19])] [dP gb 0] (fun r H' => r = dB true ∧ H' = [.bx gb 38 (.agg [c0, c1, c2, c3, c4, c5, c6, c7, c8, c9, c10, c11, c12, c13, c14, c15, c16, c17, dZ, c19])]) := by
  refine zB Tryz.func58 rfl (N := 29) rfl rfl (fun C => ?_)
  refine JD.keep [0] [(0, dP gb 0)] rfl (zd _ _ rfl rfl rfl (zc rfl (za rfl rfl (ze rfl) (zg rfl (zf (zd _ _ rfl rfl rfl (zd _ _ rfl rfl rfl (zc rfl (za rfl rfl (ze rfl) (zg rfl (zf (zu _ rfl rfl (zP (fun (g : Unit) => [(0, dP gb 0), (3, dI 0)]) (fun (g : Unit) => [.bx gb 38 (.agg [c0, c1, c2, c3, c4, c5, c6, c7, c8, c9, c10, c11, c12, c13, c14, c15, c16, c17, dZ, c19])]) (fun (g : Unit) => True) (fun (g : Unit) => 0) _ () rfl rfl ⟨sk rfl, sk rfl, trivial⟩ HSub.rfl' trivial ?_)))))))))))))
  rintro _ _
  refine JD.keep [0, 3] [(0, dP gb 0), (3, dI 0)] rfl (JD.norm [.bx gb 38 (.agg [c0, c1, c2, c3, c4, c5, c6, c7, c8, c9, c10, c11, c12, c13, c14, c15, c16, c17, dZ, c19])] rfl (zd _ _ rfl rfl rfl (zd _ _ rfl rfl rfl (zc rfl (za rfl rfl (zb rfl) (za rfl rfl (zb rfl) (za rfl rfl (zF rfl) (za rfl rfl (zn rfl fa_38_18 rfl) (za rfl rfl (zy rfl (i := 0) rfl Tryz.isAgg36 rfl) (za rfl rfl (zac (n := 0) rfl ⟨_, _, rfl⟩ Tryz.runUnderlying36) (za rfl rfl (zV rfl rfl rfl) (zg rfl (zf ?_)))))))))))))
  refine zw _ _ rfl rfl rfl rfl (fun hc1 => ?_) (fun hc1 => ?_)
  · replace hc1 := of_decide_eq_true hc1
    exfalso; omega
  · replace hc1 := of_decide_eq_false hc1
    refine zO rfl (zx (zt (zo (zf (JD.keep [] [] rfl (zd _ _ rfl rfl rfl (zc rfl (za rfl rfl (ze rfl) (zg rfl (zf (zE rfl ?_)))))))))))
    exact zA Tryz.results58 (.cons (zC rfl) .nil) rfl HSub.rfl' ⟨rfl, rfl⟩

set_option maxHeartbeats 4000000 in
set_option maxRecDepth 100000 in
theorem putSeries_0 (gb : Nat) (c0 c1 c2 c3 c4 c5 c6 c7 c8 c9 c10 c11 c12 c13 c14 c15 c16 c17 c19 : D)  :
    CD Tryz.prog 60 [.bx gb 38 (.agg [c0, c1, c2, c3, c4, c5, c6, c7, c8, c9, c10, c11, c12, c13, c14, c15, c16, c17, dZ, c19])] [dP gb 0] (fun r H' => r = .tup [] ∧ H' = [.bx gb 38 (.agg [c0, c1, c2, c3, c4, c5, c6, c7, c8, c9, c10, c11, c12, c13, c14, c15, c16, c17, dZ, c19])]) := by
  refine zB Tryz.func60 rfl (N := 43) rfl rfl (fun C => ?_)
  refine JD.keep [0] [(0, dP gb 0)] rfl (zd _ _ rfl rfl rfl (zc rfl (za rfl rfl (ze rfl) (zg rfl (zf (zu _ rfl rfl (zP (fun (g : Unit) => [(0, dP gb 0), (2, dI 0)]) (fun (g : Unit) => [.bx gb 38 (.agg [c0, c1, c2, c3, c4, c5, c6, c7, c8, c9, c10, c11, c12, c13, c14, c15, c16, c17, dZ, c19])]) (fun (g : Unit) => True) (fun (g : Unit) => 0) _ () rfl rfl ⟨sk rfl, sk rfl, trivial⟩ HSub.rfl' trivial ?_)))))))
  rintro _ _
  refine JD.keep [0, 2] [(0, dP gb 0), (2, dI 0)] rfl (JD.norm [.bx gb 38 (.agg [c0, c1, c2, c3, c4, c5, c6, c7, c8, c9, c10, c11, c12, c13, c14, c15, c16, c17, dZ, c19])] rfl (zd _ _ rfl rfl rfl (zd _ _ rfl rfl rfl (zc rfl (za rfl rfl (zb rfl) (za rfl rfl (zb rfl) (za rfl rfl (zF rfl) (za rfl rfl (zn rfl fa_38_18 rfl) (za rfl rfl (zy rfl (i := 0) rfl Tryz.isAgg36 rfl) (za rfl rfl (zac (n := 0) rfl ⟨_, _, rfl⟩ Tryz.runUnderlying36) (za rfl rfl (zV rfl rfl rfl) (zg rfl (zf ?_)))))))))))))
  refine zw _ _ rfl rfl rfl rfl (fun hc1 => ?_) (fun hc1 => ?_)
  · replace hc1 := of_decide_eq_true hc1
    exfalso; omega
  · replace hc1 := of_decide_eq_false hc1
    refine zO rfl (zx (zt (zo ?_)))
    exact zaX Tryz.results60 .nil rfl HSub.rfl' ⟨rfl, rfl⟩

set_option maxHeartbeats 4000000 in
set_option maxRecDepth 100000 in
theorem growSeries_0 (gb : Nat) (c0 c1 c2 c3 c4 c5 c6 c7 c8 c9 c10 c11 c12 c13 c14 c15 c16 c17 c19 : D)  :
    CD Tryz.prog 78 [.bx gb 38 (.agg [c0, c1, c2, c3, c4, c5, c6, c7, c8, c9, c10, c11, c12, c13, c14, c15, c16, c17, dZ, c19])] [dP gb 0] (fun r H' => r = dZ ∧ H' = [.bx gb 38 (.agg [c0, c1, c2, c3, c4, c5, c6, c7, c8, c9, c10, c11, c12, c13, c14, c15, c16, c17, dZ, c19])]) := by
  refine zB Tryz.func78 rfl (N := 43) rfl rfl (fun C => ?_)
  refine JD.keep [0] [(0, dP gb 0)] rfl (zd _ _ rfl rfl rfl (zc rfl (za rfl rfl (ze rfl) (zg rfl (zf (zd _ _ rfl rfl rfl (zc rfl (za rfl rfl (ze rfl) (zg rfl (zf (zd _ _ rfl rfl rfl (zd _ _ rfl rfl rfl (zc rfl (za rfl rfl (ze rfl) (zg rfl (zf (zu _ rfl rfl (zP (fun (g : Unit) => [(0, dP gb 0), (2, dZ), (4, dI 0), (3, dZ)]) (fun (g : Unit) => [.bx gb 38 (.agg [c0, c1, c2, c3, c4, c5, c6, c7, c8, c9, c10, c11, c12, c13, c14, c15, c16, c17, dZ, c19])]) (fun (g : Unit) => True) (fun (g : Unit) => 0) _ () rfl rfl ⟨sk rfl, sk rfl, sk rfl, sk rfl, trivial⟩ HSub.rfl' trivial ?_))))))))))))))))))
  rintro _ _
  refine JD.keep [0, 2, 4, 3] [(0, dP gb 0), (2, dZ), (4, dI 0), (3, dZ)] rfl (JD.norm [.bx gb 38 (.agg [c0, c1, c2, c3, c4, c5, c6, c7, c8, c9, c10, c11, c12, c13, c14, c15, c16, c17, dZ, c19])] rfl (zd _ _ rfl rfl rfl (zd _ _ rfl rfl rfl (zc rfl (za rfl rfl (zb rfl) (za rfl rfl (zb rfl) (za rfl rfl (zF rfl) (za rfl rfl (zn rfl fa_38_18 rfl) (za rfl rfl (zy rfl (i := 0) rfl Tryz.isAgg36 rfl) (za rfl rfl (zac (n := 0) rfl ⟨_, _, rfl⟩ Tryz.runUnderlying36) (za rfl rfl (zV rfl rfl rfl) (zg rfl (zf ?_)))))))))))))
  refine zw _ _ rfl rfl rfl rfl (fun hc1 => ?_) (fun hc1 => ?_)
  · replace hc1 := of_decide_eq_true hc1
    exfalso; omega
  · replace hc1 := of_decide_eq_false hc1
    refine zO rfl (zx (zt (zo (zf (JD.keep [2, 3] [(2, dZ), (3, dZ)] rfl (zd _ _ rfl rfl rfl (zc rfl (za rfl rfl (zb rfl) (za rfl rfl (ze rfl) (zg rfl (zf (zE rfl ?_))))))))))))
    exact zA Tryz.results78 (.cons (zC rfl) .nil) rfl HSub.rfl' ⟨rfl, rfl⟩

set_option maxHeartbeats 4000000 in
set_option maxRecDepth 100000 in
theorem markedSeries_0   :
    CD Tryz.prog 88 [] [dZ] (isR (dB true)) := by
  refine zB Tryz.func88 rfl (N := 23) rfl rfl (fun C => ?_)
  refine JD.keep [0] [(0, dZ)] rfl (zd _ _ rfl rfl rfl (zc rfl (za rfl rfl (ze rfl) (zg rfl (zf (zd _ _ rfl rfl rfl (zd _ _ rfl rfl rfl (zc rfl (za rfl rfl (ze rfl) (zg rfl (zf (zu _ rfl rfl (zP (fun (g : Unit) => [(0, dZ), (3, dI 0)]) (fun (g : Unit) => []) (fun (g : Unit) => True) (fun (g : Unit) => 0) _ () rfl rfl ⟨sk rfl, sk rfl, trivial⟩ HSub.rfl' trivial ?_)))))))))))))
  rintro _ _
  refine JD.keep [0, 3] [(0, dZ), (3, dI 0)] rfl (JD.norm [] rfl (zd _ _ rfl rfl rfl (zd _ _ rfl rfl rfl (zc rfl (za rfl rfl (zb rfl) (za rfl rfl (zb rfl) (za rfl rfl (zac (n := 0) rfl ⟨_, _, rfl⟩ Tryz.runUnderlying36) (za rfl rfl (zV rfl rfl rfl) (zg rfl (zf ?_))))))))))
  refine zw _ _ rfl rfl rfl rfl (fun hc1 => ?_) (fun hc1 => ?_)
  · replace hc1 := of_decide_eq_true hc1
    exfalso; omega
  · replace hc1 := of_decide_eq_false hc1
    refine zO rfl (zx (zt (zo (zf (zd _ _ rfl rfl rfl (zc rfl (za rfl rfl (ze rfl) (zg rfl (zf (zE rfl ?_))))))))))
    exact zA Tryz.results88 (.cons (zC rfl) .nil) rfl HSub.rfl' ⟨rfl, rfl⟩

set_option maxHeartbeats 4000000 in
set_option maxRecDepth 100000 in
theorem Apart_c (gb : Nat) (vLb vLw : Value) (KL : List (Kp Lbl)) (WL : List (List Lbl)) (hKL : KL.length ≤ 250) (hBL : ∀ x ∈ KL, x.l.length ≤ 1000000) (hWL : WL = KL.map (·.l)) :
    CD Tryz.prog 15 ([.bx gb 38 (zH vLb vLw), .sl vLb 1 52 (KL.map Kp.d), .sl vLw 1 52 (WL.map (D.ls 2 Lbl.d))] ++ (KL.map (Kp.h 2 106 Lbl.d))) [dP gb 0] (isR (dB true)) := by
  refine zB Tryz.func15 rfl (N := 191) rfl rfl (fun C => ?_)
  refine JD.keep [0] [(0, dP gb 0)] rfl (zd _ _ rfl rfl rfl (zc rfl (za rfl rfl (ze rfl) (zg rfl (zf (zd _ _ rfl rfl rfl (zd _ _ rfl rfl rfl (zc rfl (za rfl rfl (zb rfl) (zl rfl rfl (zq [.bx gb 38 (zH vLb vLw)] ([.sl vLb 1 52 (KL.map Kp.d), .sl vLw 1 52 (WL.map (D.ls 2 Lbl.d))] ++ (KL.map (Kp.h 2 106 Lbl.d))) [] rfl rfl (.cons ArgC.id .nil) zk Tryz.call49 (stillTexts_0 gb (dZ) (dZ) (dZ) (dZ) (dZ) (.ov vLb) (.ov vLw) (dZ) (dZ) (dZ) (dZ) (dZ) (dZ) (dZ) (dZ) (dZ) (dZ) (dZ) (dZ)) (.inl rfl)) ?_))))))))))
  rintro _ _ ⟨_, ⟨rfl, rfl⟩, rfl⟩
  refine OpsD.norm ([.bx gb 38 (zH vLb vLw), .sl vLb 1 52 (KL.map Kp.d), .sl vLw 1 52 (WL.map (D.ls 2 Lbl.d))] ++ (KL.map (Kp.h 2 106 Lbl.d))) rfl (za rfl rfl (zaw (q := true) rfl) (zg rfl (zf (zah _ rfl rfl rfl (zI rfl (zf (zd _ _ rfl rfl rfl (zd _ _ rfl rfl rfl (zc rfl (za rfl rfl (zb rfl) ?_))))))))))
  refine zl rfl rfl (zq [.bx gb 38 (zH vLb vLw)] ([.sl vLb 1 52 (KL.map Kp.d), .sl vLw 1 52 (WL.map (D.ls 2 Lbl.d))] ++ (KL.map (Kp.h 2 106 Lbl.d))) [] rfl rfl (.cons ArgC.id .nil) zk Tryz.call50 (stillInts_0 gb (dZ) (dZ) (dZ) (dZ) (dZ) (.ov vLb) (.ov vLw) (dZ) (dZ) (dZ) (dZ) (dZ) (dZ) (dZ) (dZ) (dZ) (dZ) (dZ) (dZ)) (.inl rfl)) ?_
  rintro _ _ ⟨_, ⟨rfl, rfl⟩, rfl⟩
  refine OpsD.norm ([.bx gb 38 (zH vLb vLw), .sl vLb 1 52 (KL.map Kp.d), .sl vLw 1 52 (WL.map (D.ls 2 Lbl.d))] ++ (KL.map (Kp.h 2 106 Lbl.d))) rfl (za rfl rfl (zaw (q := true) rfl) (zg rfl (zf (zah _ rfl rfl rfl (zI rfl (zf (zd _ _ rfl rfl rfl (zd _ _ rfl rfl rfl (zc rfl (za rfl rfl (zb rfl) ?_))))))))))
  refine zl rfl rfl (zq [.bx gb 38 (zH vLb vLw)] ([.sl vLb 1 52 (KL.map Kp.d), .sl vLw 1 52 (WL.map (D.ls 2 Lbl.d))] ++ (KL.map (Kp.h 2 106 Lbl.d))) [] rfl rfl (.cons ArgC.id .nil) zk Tryz.call51 (stillRunes_0 gb (dZ) (dZ) (dZ) (dZ) (dZ) (.ov vLb) (.ov vLw) (dZ) (dZ) (dZ) (dZ) (dZ) (dZ) (dZ) (dZ) (dZ) (dZ) (dZ) (dZ)) (.inl rfl)) ?_
  rintro _ _ ⟨_, ⟨rfl, rfl⟩, rfl⟩
  refine OpsD.norm ([.bx gb 38 (zH vLb vLw), .sl vLb 1 52 (KL.map Kp.d), .sl vLw 1 52 (WL.map (D.ls 2 Lbl.d))] ++ (KL.map (Kp.h 2 106 Lbl.d))) rfl (za rfl rfl (zaw (q := true) rfl) (zg rfl (zf (zah _ rfl rfl rfl (zI rfl (zf (JD.keep [0, 2] [(0, dP gb 0), (2, dB false)] rfl (zd _ _ rfl rfl rfl (zd _ _ rfl rfl rfl (zc rfl (za rfl rfl (zb rfl) ?_)))))))))))
  refine OpsD.subH (HSub.perm (zbD (A := [.bx gb 38 (zH vLb vLw), .sl vLb 1 52 (KL.map Kp.d), .sl vLw 1 52 (WL.map (D.ls 2 Lbl.d))]) (B := []) (T := KL.map (Kp.h 2 106 Lbl.d)))) ?_
  refine zl rfl rfl (zq ([.bx gb 38 (zH vLb vLw), .sl vLb 1 52 (KL.map Kp.d), .sl vLw 1 52 (WL.map (D.ls 2 Lbl.d))] ++ (KL.map (Kp.h 2 106 Lbl.d))) [] [] rfl rfl (.cons ArgC.id .nil) zk Tryz.call52 (stillLabels_c gb vLb vLw (dZ) (dZ) (dZ) (dZ) (dZ) (dZ) (dZ) (dZ) (dZ) (dZ) (dZ) (dZ) (dZ) (dZ) (dZ) (dZ) (dZ) (dZ) KL WL (by omega) hWL) (.inl rfl)) ?_
  rintro _ _ ⟨_, ⟨rfl, rfl⟩, rfl⟩
  refine OpsD.subH (HSub.perm (zbD (A := [.bx gb 38 (zH vLb vLw), .sl vLb 1 52 (KL.map Kp.d), .sl vLw 1 52 (WL.map (D.ls 2 Lbl.d))]) (B := []) (T := KL.map (Kp.h 2 106 Lbl.d))).symm) (OpsD.norm ([.bx gb 38 (zH vLb vLw), .sl vLb 1 52 (KL.map Kp.d), .sl vLw 1 52 (WL.map (D.ls 2 Lbl.d))] ++ (KL.map (Kp.h 2 106 Lbl.d))) rfl (za rfl rfl (zaw (q := true) rfl) (zg rfl (zf (zah _ rfl rfl rfl (zI rfl (zf (zd _ _ rfl rfl rfl ?_))))))))
  refine zd _ _ rfl rfl rfl (zc rfl (za rfl rfl (zb rfl) (zl rfl rfl (zq [.bx gb 38 (zH vLb vLw)] ([.sl vLb 1 52 (KL.map Kp.d), .sl vLw 1 52 (WL.map (D.ls 2 Lbl.d))] ++ (KL.map (Kp.h 2 106 Lbl.d))) [] rfl rfl (.cons ArgC.id .nil) zk Tryz.call53 (stillPoints_0 gb (dZ) (dZ) (dZ) (dZ) (dZ) (dZ) (.ov vLb) (.ov vLw) (dZ) (dZ) (dZ) (dZ) (dZ) (dZ) (dZ) (dZ) (dZ) (dZ) (dZ)) (.inl rfl)) ?_)))
  rintro _ _ ⟨_, ⟨rfl, rfl⟩, rfl⟩
  refine OpsD.norm ([.bx gb 38 (zH vLb vLw), .sl vLb 1 52 (KL.map Kp.d), .sl vLw 1 52 (WL.map (D.ls 2 Lbl.d))] ++ (KL.map (Kp.h 2 106 Lbl.d))) rfl (za rfl rfl (zaw (q := true) rfl) (zg rfl (zf (zah _ rfl rfl rfl (zI rfl (zf (zd _ _ rfl rfl rfl (zd _ _ rfl rfl rfl (zc rfl (za rfl rfl (zb rfl) ?_))))))))))
  refine zl rfl rfl (zq [.bx gb 38 (zH vLb vLw)] ([.sl vLb 1 52 (KL.map Kp.d), .sl vLw 1 52 (WL.map (D.ls 2 Lbl.d))] ++ (KL.map (Kp.h 2 106 Lbl.d))) [] rfl rfl (.cons ArgC.id .nil) zk Tryz.call54 (stillTokens_0 gb (dZ) (dZ) (dZ) (dZ) (dZ) (dZ) (.ov vLb) (.ov vLw) (dZ) (dZ) (dZ) (dZ) (dZ) (dZ) (dZ) (dZ) (dZ) (dZ) (dZ)) (.inl rfl)) ?_
  rintro _ _ ⟨_, ⟨rfl, rfl⟩, rfl⟩
  refine OpsD.norm ([.bx gb 38 (zH vLb vLw), .sl vLb 1 52 (KL.map Kp.d), .sl vLw 1 52 (WL.map (D.ls 2 Lbl.d))] ++ (KL.map (Kp.h 2 106 Lbl.d))) rfl (za rfl rfl (zaw (q := true) rfl) (zg rfl (zf (zah _ rfl rfl rfl (zI rfl (zf (JD.keep [0, 2] [(0, dP gb 0), (2, dB false)] rfl (zd _ _ rfl rfl rfl (zd _ _ rfl rfl rfl (zc rfl (za rfl rfl (zb rfl) ?_)))))))))))
  refine zl rfl rfl (zq [.bx gb 38 (zH vLb vLw)] ([.sl vLb 1 52 (KL.map Kp.d), .sl vLw 1 52 (WL.map (D.ls 2 Lbl.d))] ++ (KL.map (Kp.h 2 106 Lbl.d))) [] rfl rfl (.cons ArgC.id .nil) zk Tryz.call55 (stillCursors_0 gb (dZ) (dZ) (dZ) (dZ) (dZ) (dZ) (.ov vLb) (.ov vLw) (dZ) (dZ) (dZ) (dZ) (dZ) (dZ) (dZ) (dZ) (dZ) (dZ) (dZ)) (.inl rfl)) ?_
  rintro _ _ ⟨_, ⟨rfl, rfl⟩, rfl⟩
  refine OpsD.norm ([.bx gb 38 (zH vLb vLw), .sl vLb 1 52 (KL.map Kp.d), .sl vLw 1 52 (WL.map (D.ls 2 Lbl.d))] ++ (KL.map (Kp.h 2 106 Lbl.d))) rfl (za rfl rfl (zaw (q := true) rfl) (zg rfl (zf (zah _ rfl rfl rfl (zI rfl (zf (zd _ _ rfl rfl rfl (zd _ _ rfl rfl rfl (zc rfl (za rfl rfl (zb rfl) ?_))))))))))
  refine zl rfl rfl (zq [.bx gb 38 (zH vLb vLw)] ([.sl vLb 1 52 (KL.map Kp.d), .sl vLw 1 52 (WL.map (D.ls 2 Lbl.d))] ++ (KL.map (Kp.h 2 106 Lbl.d))) [] rfl rfl (.cons ArgC.id .nil) zk Tryz.call56 (stillNotes_0 gb (dZ) (dZ) (dZ) (dZ) (dZ) (dZ) (.ov vLb) (.ov vLw) (dZ) (dZ) (dZ) (dZ) (dZ) (dZ) (dZ) (dZ) (dZ) (dZ) (dZ)) (.inl rfl)) ?_
  rintro _ _ ⟨_, ⟨rfl, rfl⟩, rfl⟩
  refine OpsD.norm ([.bx gb 38 (zH vLb vLw), .sl vLb 1 52 (KL.map Kp.d), .sl vLw 1 52 (WL.map (D.ls 2 Lbl.d))] ++ (KL.map (Kp.h 2 106 Lbl.d))) rfl (za rfl rfl (zaw (q := true) rfl) (zg rfl (zf (zah _ rfl rfl rfl (zI rfl (zf (zd _ _ rfl rfl rfl (zd _ _ rfl rfl rfl (zc rfl (za rfl rfl (zb rfl) ?_))))))))))
  refine zl rfl rfl (zq [.bx gb 38 (zH vLb vLw)] ([.sl vLb 1 52 (KL.map Kp.d), .sl vLw 1 52 (WL.map (D.ls 2 Lbl.d))] ++ (KL.map (Kp.h 2 106 Lbl.d))) [] rfl rfl (.cons ArgC.id .nil) zk Tryz.call57 (stillRows_0 gb (dZ) (dZ) (dZ) (dZ) (dZ) (dZ) (.ov vLb) (.ov vLw) (dZ) (dZ) (dZ) (dZ) (dZ) (dZ) (dZ) (dZ) (dZ) (dZ) (dZ)) (.inl rfl)) ?_
  rintro _ _ ⟨_, ⟨rfl, rfl⟩, rfl⟩
  refine OpsD.norm ([.bx gb 38 (zH vLb vLw), .sl vLb 1 52 (KL.map Kp.d), .sl vLw 1 52 (WL.map (D.ls 2 Lbl.d))] ++ (KL.map (Kp.h 2 106 Lbl.d))) rfl (za rfl rfl (zaw (q := true) rfl) (zg rfl (zf (zah _ rfl rfl rfl (zI rfl (zf (JD.keep [0, 2] [(0, dP gb 0), (2, dB false)] rfl (zd _ _ rfl rfl rfl (zd _ _ rfl rfl rfl (zc rfl (za rfl rfl (zb rfl) ?_)))))))))))
  refine zl rfl rfl (zq [.bx gb 38 (zH vLb vLw)] ([.sl vLb 1 52 (KL.map Kp.d), .sl vLw 1 52 (WL.map (D.ls 2 Lbl.d))] ++ (KL.map (Kp.h 2 106 Lbl.d))) [] rfl rfl (.cons ArgC.id .nil) zk Tryz.call58 (stillSeries_0 gb (dZ) (dZ) (dZ) (dZ) (dZ) (dZ) (.ov vLb) (.ov vLw) (dZ) (dZ) (dZ) (dZ) (dZ) (dZ) (dZ) (dZ) (dZ) (dZ) (dZ)) (.inl rfl)) ?_
  rintro _ _ ⟨_, ⟨rfl, rfl⟩, rfl⟩
  refine OpsD.norm ([.bx gb 38 (zH vLb vLw), .sl vLb 1 52 (KL.map Kp.d), .sl vLw 1 52 (WL.map (D.ls 2 Lbl.d))] ++ (KL.map (Kp.h 2 106 Lbl.d))) rfl (za rfl rfl (zaw (q := true) rfl) (zg rfl (zf (zah _ rfl rfl rfl (zI rfl (zf (zd _ _ rfl rfl rfl (zc rfl (za rfl rfl (zb rfl) ?_)))))))))
  refine zl rfl rfl (zq [.bx gb 38 (zH vLb vLw)] ([.sl vLb 1 52 (KL.map Kp.d), .sl vLw 1 52 (WL.map (D.ls 2 Lbl.d))] ++ (KL.map (Kp.h 2 106 Lbl.d))) [] rfl rfl (.cons ArgC.id .nil) zk Tryz.call59 (putRows_0 gb (dZ) (dZ) (dZ) (dZ) (dZ) (dZ) (.ov vLb) (.ov vLw) (dZ) (dZ) (dZ) (dZ) (dZ) (dZ) (dZ) (dZ) (dZ) (dZ) (dZ)) (.inl rfl)) ?_
  rintro _ _ ⟨_, ⟨rfl, rfl⟩, rfl⟩
  refine OpsD.norm ([.bx gb 38 (zH vLb vLw), .sl vLb 1 52 (KL.map Kp.d), .sl vLw 1 52 (WL.map (D.ls 2 Lbl.d))] ++ (KL.map (Kp.h 2 106 Lbl.d))) rfl (zg rfl (zf (zd _ _ rfl rfl rfl (zc rfl (za rfl rfl (zb rfl) ?_)))))
  refine zl rfl rfl (zq [.bx gb 38 (zH vLb vLw)] ([.sl vLb 1 52 (KL.map Kp.d), .sl vLw 1 52 (WL.map (D.ls 2 Lbl.d))] ++ (KL.map (Kp.h 2 106 Lbl.d))) [] rfl rfl (.cons ArgC.id .nil) zk Tryz.call60 (putSeries_0 gb (dZ) (dZ) (dZ) (dZ) (dZ) (dZ) (.ov vLb) (.ov vLw) (dZ) (dZ) (dZ) (dZ) (dZ) (dZ) (dZ) (dZ) (dZ) (dZ) (dZ)) (.inl rfl)) ?_
  rintro _ _ ⟨_, ⟨rfl, rfl⟩, rfl⟩
  refine OpsD.norm ([.bx gb 38 (zH vLb vLw), .sl vLb 1 52 (KL.map Kp.d), .sl vLw 1 52 (WL.map (D.ls 2 Lbl.d))] ++ (KL.map (Kp.h 2 106 Lbl.d))) rfl (zg rfl (zf (zd _ _ rfl rfl rfl (zc rfl (za rfl rfl (zb rfl) ?_)))))
  refine zl rfl rfl (zq [.bx gb 38 (zH vLb vLw)] ([.sl vLb 1 52 (KL.map Kp.d), .sl vLw 1 52 (WL.map (D.ls 2 Lbl.d))] ++ (KL.map (Kp.h 2 106 Lbl.d))) [] rfl rfl (.cons ArgC.id .nil) zk Tryz.call61 (putTexts_0 gb (dZ) (dZ) (dZ) (dZ) (dZ) (.ov vLb) (.ov vLw) (dZ) (dZ) (dZ) (dZ) (dZ) (dZ) (dZ) (dZ) (dZ) (dZ) (dZ) (dZ)) (.inl rfl)) ?_
  rintro _ _ ⟨_, ⟨rfl, rfl⟩, rfl⟩
  refine OpsD.norm ([.bx gb 38 (zH vLb vLw), .sl vLb 1 52 (KL.map Kp.d), .sl vLw 1 52 (WL.map (D.ls 2 Lbl.d))] ++ (KL.map (Kp.h 2 106 Lbl.d))) rfl (zg rfl (zf (JD.keep [0, 2] [(0, dP gb 0), (2, dB false)] rfl (zd _ _ rfl rfl rfl (zc rfl (za rfl rfl (zb rfl) ?_))))))
  refine zl rfl rfl (zq [.bx gb 38 (zH vLb vLw)] ([.sl vLb 1 52 (KL.map Kp.d), .sl vLw 1 52 (WL.map (D.ls 2 Lbl.d))] ++ (KL.map (Kp.h 2 106 Lbl.d))) [] rfl rfl (.cons ArgC.id .nil) zk Tryz.call62 (putInts_0 gb (dZ) (dZ) (dZ) (dZ) (dZ) (.ov vLb) (.ov vLw) (dZ) (dZ) (dZ) (dZ) (dZ) (dZ) (dZ) (dZ) (dZ) (dZ) (dZ) (dZ)) (.inl rfl)) ?_
  rintro _ _ ⟨_, ⟨rfl, rfl⟩, rfl⟩
  refine OpsD.norm ([.bx gb 38 (zH vLb vLw), .sl vLb 1 52 (KL.map Kp.d), .sl vLw 1 52 (WL.map (D.ls 2 Lbl.d))] ++ (KL.map (Kp.h 2 106 Lbl.d))) rfl (zg rfl (zf (zd _ _ rfl rfl rfl (zc rfl (za rfl rfl (zb rfl) ?_)))))
  refine zl rfl rfl (zq [.bx gb 38 (zH vLb vLw)] ([.sl vLb 1 52 (KL.map Kp.d), .sl vLw 1 52 (WL.map (D.ls 2 Lbl.d))] ++ (KL.map (Kp.h 2 106 Lbl.d))) [] rfl rfl (.cons ArgC.id .nil) zk Tryz.call63 (putRunes_0 gb (dZ) (dZ) (dZ) (dZ) (dZ) (.ov vLb) (.ov vLw) (dZ) (dZ) (dZ) (dZ) (dZ) (dZ) (dZ) (dZ) (dZ) (dZ) (dZ) (dZ)) (.inl rfl)) ?_
  rintro _ _ ⟨_, ⟨rfl, rfl⟩, rfl⟩
  refine OpsD.norm ([.bx gb 38 (zH vLb vLw), .sl vLb 1 52 (KL.map Kp.d), .sl vLw 1 52 (WL.map (D.ls 2 Lbl.d))] ++ (KL.map (Kp.h 2 106 Lbl.d))) rfl (zg rfl (zf (zd _ _ rfl rfl rfl (zc rfl (za rfl rfl (zb rfl) ?_)))))
  refine OpsD.subH (HSub.perm (zbD (A := [.bx gb 38 (zH vLb vLw), .sl vLb 1 52 (KL.map Kp.d)]) (B := [.sl vLw 1 52 (WL.map (D.ls 2 Lbl.d))]) (T := KL.map (Kp.h 2 106 Lbl.d)))) ?_
  refine zl rfl rfl (zq ([.bx gb 38 (zH vLb vLw), .sl vLb 1 52 (KL.map Kp.d)] ++ (KL.map (Kp.h 2 106 Lbl.d))) [.sl vLw 1 52 (WL.map (D.ls 2 Lbl.d))] [] rfl rfl (.cons ArgC.id .nil) zk Tryz.call64 (putLabels_c gb vLb vLw (dZ) (dZ) (dZ) (dZ) (dZ) (dZ) (dZ) (dZ) (dZ) (dZ) (dZ) (dZ) (dZ) (dZ) (dZ) (dZ) (dZ) (dZ) KL (by omega) hBL) (.inl rfl)) ?_
  rintro _ _ ⟨_, ⟨rfl, rfl⟩, rfl⟩
  refine OpsD.subH (HSub.perm (zbD (A := [.bx gb 38 (zH vLb vLw), .sl vLb 1 52 (KL.map Kp.d)]) (B := [.sl vLw 1 52 (WL.map (D.ls 2 Lbl.d))]) (T := (putK gL KL).map (Kp.h 2 106 Lbl.d))).symm) (OpsD.norm ([.bx gb 38 (zH vLb vLw), .sl vLb 1 52 (KL.map Kp.d), .sl vLw 1 52 (WL.map (D.ls 2 Lbl.d))] ++ ((putK gL KL).map (Kp.h 2 106 Lbl.d))) rfl (zg rfl (zf ?_)))
  refine zd _ _ rfl rfl rfl (zc rfl (za rfl rfl (zb rfl) (zl rfl rfl (zq [.bx gb 38 (zH vLb vLw)] ([.sl vLb 1 52 (KL.map Kp.d), .sl vLw 1 52 (WL.map (D.ls 2 Lbl.d))] ++ ((putK gL KL).map (Kp.h 2 106 Lbl.d))) [] rfl rfl (.cons ArgC.id .nil) zk Tryz.call65 (putPoints_0 gb (dZ) (dZ) (dZ) (dZ) (dZ) (dZ) (.ov vLb) (.ov vLw) (dZ) (dZ) (dZ) (dZ) (dZ) (dZ) (dZ) (dZ) (dZ) (dZ) (dZ)) (.inl rfl)) ?_)))
  rintro _ _ ⟨_, ⟨rfl, rfl⟩, rfl⟩
  refine OpsD.norm ([.bx gb 38 (zH vLb vLw), .sl vLb 1 52 (KL.map Kp.d), .sl vLw 1 52 (WL.map (D.ls 2 Lbl.d))] ++ ((putK gL KL).map (Kp.h 2 106 Lbl.d))) rfl (zg rfl (zf (zd _ _ rfl rfl rfl (zc rfl (za rfl rfl (zb rfl) ?_)))))
  refine zl rfl rfl (zq [.bx gb 38 (zH vLb vLw)] ([.sl vLb 1 52 (KL.map Kp.d), .sl vLw 1 52 (WL.map (D.ls 2 Lbl.d))] ++ ((putK gL KL).map (Kp.h 2 106 Lbl.d))) [] rfl rfl (.cons ArgC.id .nil) zk Tryz.call66 (putTokens_0 gb (dZ) (dZ) (dZ) (dZ) (dZ) (dZ) (.ov vLb) (.ov vLw) (dZ) (dZ) (dZ) (dZ) (dZ) (dZ) (dZ) (dZ) (dZ) (dZ) (dZ)) (.inl rfl)) ?_
  rintro _ _ ⟨_, ⟨rfl, rfl⟩, rfl⟩
  refine OpsD.norm ([.bx gb 38 (zH vLb vLw), .sl vLb 1 52 (KL.map Kp.d), .sl vLw 1 52 (WL.map (D.ls 2 Lbl.d))] ++ ((putK gL KL).map (Kp.h 2 106 Lbl.d))) rfl (zg rfl (zf (JD.keep [0, 2] [(0, dP gb 0), (2, dB false)] rfl (zd _ _ rfl rfl rfl (zc rfl (za rfl rfl (zb rfl) ?_))))))
  refine zl rfl rfl (zq [.bx gb 38 (zH vLb vLw)] ([.sl vLb 1 52 (KL.map Kp.d), .sl vLw 1 52 (WL.map (D.ls 2 Lbl.d))] ++ ((putK gL KL).map (Kp.h 2 106 Lbl.d))) [] rfl rfl (.cons ArgC.id .nil) zk Tryz.call67 (putCursors_0 gb (dZ) (dZ) (dZ) (dZ) (dZ) (dZ) (.ov vLb) (.ov vLw) (dZ) (dZ) (dZ) (dZ) (dZ) (dZ) (dZ) (dZ) (dZ) (dZ) (dZ)) (.inl rfl)) ?_
  rintro _ _ ⟨_, ⟨rfl, rfl⟩, rfl⟩
  refine OpsD.norm ([.bx gb 38 (zH vLb vLw), .sl vLb 1 52 (KL.map Kp.d), .sl vLw 1 52 (WL.map (D.ls 2 Lbl.d))] ++ ((putK gL KL).map (Kp.h 2 106 Lbl.d))) rfl (zg rfl (zf (zd _ _ rfl rfl rfl (zc rfl (za rfl rfl (zb rfl) ?_)))))
  refine zl rfl rfl (zq [.bx gb 38 (zH vLb vLw)] ([.sl vLb 1 52 (KL.map Kp.d), .sl vLw 1 52 (WL.map (D.ls 2 Lbl.d))] ++ ((putK gL KL).map (Kp.h 2 106 Lbl.d))) [] rfl rfl (.cons ArgC.id .nil) zk Tryz.call68 (putNotes_0 gb (dZ) (dZ) (dZ) (dZ) (dZ) (dZ) (.ov vLb) (.ov vLw) (dZ) (dZ) (dZ) (dZ) (dZ) (dZ) (dZ) (dZ) (dZ) (dZ) (dZ)) (.inl rfl)) ?_
  rintro _ _ ⟨_, ⟨rfl, rfl⟩, rfl⟩
  refine OpsD.norm ([.bx gb 38 (zH vLb vLw), .sl vLb 1 52 (KL.map Kp.d), .sl vLw 1 52 (WL.map (D.ls 2 Lbl.d))] ++ ((putK gL KL).map (Kp.h 2 106 Lbl.d))) rfl (zg rfl (zf (zd _ _ rfl rfl rfl (zc rfl (za rfl rfl (zb rfl) ?_)))))
  refine zl rfl rfl (zq [.bx gb 38 (zH vLb vLw)] ([.sl vLb 1 52 (KL.map Kp.d), .sl vLw 1 52 (WL.map (D.ls 2 Lbl.d))] ++ ((putK gL KL).map (Kp.h 2 106 Lbl.d))) [] rfl rfl (.cons ArgC.id .nil) zk Tryz.call69 (growTexts_0 gb (dZ) (dZ) (dZ) (dZ) (dZ) (.ov vLb) (.ov vLw) (dZ) (dZ) (dZ) (dZ) (dZ) (dZ) (dZ) (dZ) (dZ) (dZ) (dZ) (dZ)) (.inl rfl)) ?_
  rintro _ _ ⟨_, ⟨rfl, rfl⟩, rfl⟩
  refine OpsD.norm ([.bx gb 38 (zH vLb vLw), .sl vLb 1 52 (KL.map Kp.d), .sl vLw 1 52 (WL.map (D.ls 2 Lbl.d))] ++ ((putK gL KL).map (Kp.h 2 106 Lbl.d))) rfl (za rfl rfl (ze rfl) (zg rfl (zf (zd _ _ rfl rfl rfl (zc rfl (za rfl rfl (zb rfl) ?_))))))
  refine zl rfl rfl (zq [.bx gb 38 (zH vLb vLw)] ([.sl vLb 1 52 (KL.map Kp.d), .sl vLw 1 52 (WL.map (D.ls 2 Lbl.d))] ++ ((putK gL KL).map (Kp.h 2 106 Lbl.d))) [] rfl rfl (.cons ArgC.id .nil) zk Tryz.call70 (growInts_0 gb (dZ) (dZ) (dZ) (dZ) (dZ) (.ov vLb) (.ov vLw) (dZ) (dZ) (dZ) (dZ) (dZ) (dZ) (dZ) (dZ) (dZ) (dZ) (dZ) (dZ)) (.inl rfl)) ?_
  rintro _ _ ⟨_, ⟨rfl, rfl⟩, rfl⟩
  refine OpsD.norm ([.bx gb 38 (zH vLb vLw), .sl vLb 1 52 (KL.map Kp.d), .sl vLw 1 52 (WL.map (D.ls 2 Lbl.d))] ++ ((putK gL KL).map (Kp.h 2 106 Lbl.d))) rfl (za rfl rfl (ze rfl) (zg rfl (zf (zd _ _ rfl rfl rfl (zc rfl (za rfl rfl (zb rfl) ?_))))))
  refine zl rfl rfl (zq [.bx gb 38 (zH vLb vLw)] ([.sl vLb 1 52 (KL.map Kp.d), .sl vLw 1 52 (WL.map (D.ls 2 Lbl.d))] ++ ((putK gL KL).map (Kp.h 2 106 Lbl.d))) [] rfl rfl (.cons ArgC.id .nil) zk Tryz.call71 (growRunes_0 gb (dZ) (dZ) (dZ) (dZ) (dZ) (.ov vLb) (.ov vLw) (dZ) (dZ) (dZ) (dZ) (dZ) (dZ) (dZ) (dZ) (dZ) (dZ) (dZ) (dZ)) (.inl rfl)) ?_
  rintro _ _ ⟨_, ⟨rfl, rfl⟩, rfl⟩
  refine OpsD.norm ([.bx gb 38 (zH vLb vLw), .sl vLb 1 52 (KL.map Kp.d), .sl vLw 1 52 (WL.map (D.ls 2 Lbl.d))] ++ ((putK gL KL).map (Kp.h 2 106 Lbl.d))) rfl (za rfl rfl (ze rfl) (zg rfl (zf (JD.keep [0, 2, 3, 4, 5] [(0, dP gb 0), (2, dB false), (3, dZ), (4, dZ), (5, dZ)] rfl (zd _ _ rfl rfl rfl (zc rfl (za rfl rfl (zb rfl) ?_)))))))
  refine OpsD.norm ([.bx gb 38 (zH vLb vLw), .sl vLb 1 52 ((putK gL KL).map Kp.d), .sl vLw 1 52 (WL.map (D.ls 2 Lbl.d))] ++ ((putK gL KL).map (Kp.h 2 106 Lbl.d))) (by rw [putK_d]) (OpsD.subH (HSub.perm (zbD (A := [.bx gb 38 (zH vLb vLw), .sl vLb 1 52 ((putK gL KL).map Kp.d)]) (B := [.sl vLw 1 52 (WL.map (D.ls 2 Lbl.d))]) (T := (putK gL KL).map (Kp.h 2 106 Lbl.d)))) ?_)
  refine zl rfl rfl (zq ([.bx gb 38 (zH vLb vLw), .sl vLb 1 52 ((putK gL KL).map Kp.d)] ++ ((putK gL KL).map (Kp.h 2 106 Lbl.d))) [.sl vLw 1 52 (WL.map (D.ls 2 Lbl.d))] [] rfl rfl (.cons ArgC.id .nil) zk Tryz.call72 (growLabels_c gb vLb vLw (dZ) (dZ) (dZ) (dZ) (dZ) (dZ) (dZ) (dZ) (dZ) (dZ) (dZ) (dZ) (dZ) (dZ) (dZ) (dZ) (dZ) (dZ) (putK gL KL) (by rw [putK_len]; omega) (putK_light hBL) putK_marked) (.inl rfl)) ?_
  rintro _ _ ⟨_, ⟨goL, GL, rfl, rfl, hGL⟩, rfl⟩
  refine OpsD.subH (HSub.perm (zbD (A := [.bx gb 38 (zH vLb vLw), .sl vLb 1 52 (GL.map K2.d0), .sl goL 1 52 (GL.map K2.d1)]) (B := [.sl vLw 1 52 (WL.map (D.ls 2 Lbl.d))]) (T := GL.map (K2.h 2 106 Lbl.d))).symm) (OpsD.norm ([.bx gb 38 (zH vLb vLw), .sl vLb 1 52 (GL.map K2.d0), .sl goL 1 52 (GL.map K2.d1), .sl vLw 1 52 (WL.map (D.ls 2 Lbl.d))] ++ (GL.map (K2.h 2 106 Lbl.d))) rfl (za rfl rfl (ze rfl) (zg rfl (zf ?_))))
  refine zd _ _ rfl rfl rfl (zc rfl (za rfl rfl (zb rfl) ?_))
  refine zl rfl rfl (zq [.bx gb 38 (zH vLb vLw)] ([.sl vLb 1 52 (GL.map K2.d0), .sl goL 1 52 (GL.map K2.d1), .sl vLw 1 52 (WL.map (D.ls 2 Lbl.d))] ++ (GL.map (K2.h 2 106 Lbl.d))) [] rfl rfl (.cons ArgC.id .nil) zk Tryz.call73 (growPoints_0 gb (dZ) (dZ) (dZ) (dZ) (dZ) (dZ) (.ov vLb) (.ov vLw) (dZ) (dZ) (dZ) (dZ) (dZ) (dZ) (dZ) (dZ) (dZ) (dZ) (dZ)) (.inl rfl)) ?_
  rintro _ _ ⟨_, ⟨rfl, rfl⟩, rfl⟩
  refine OpsD.norm ([.bx gb 38 (zH vLb vLw), .sl vLb 1 52 (GL.map K2.d0), .sl goL 1 52 (GL.map K2.d1), .sl vLw 1 52 (WL.map (D.ls 2 Lbl.d))] ++ (GL.map (K2.h 2 106 Lbl.d))) rfl (za rfl rfl (ze rfl) (zg rfl (zf (zd _ _ rfl rfl rfl (zc rfl (za rfl rfl (zb rfl) ?_))))))
  refine zl rfl rfl (zq [.bx gb 38 (zH vLb vLw)] ([.sl vLb 1 52 (GL.map K2.d0), .sl goL 1 52 (GL.map K2.d1), .sl vLw 1 52 (WL.map (D.ls 2 Lbl.d))] ++ (GL.map (K2.h 2 106 Lbl.d))) [] rfl rfl (.cons ArgC.id .nil) zk Tryz.call74 (growTokens_0 gb (dZ) (dZ) (dZ) (dZ) (dZ) (dZ) (.ov vLb) (.ov vLw) (dZ) (dZ) (dZ) (dZ) (dZ) (dZ) (dZ) (dZ) (dZ) (dZ) (dZ)) (.inl rfl)) ?_
  rintro _ _ ⟨_, ⟨rfl, rfl⟩, rfl⟩
  refine OpsD.norm ([.bx gb 38 (zH vLb vLw), .sl vLb 1 52 (GL.map K2.d0), .sl goL 1 52 (GL.map K2.d1), .sl vLw 1 52 (WL.map (D.ls 2 Lbl.d))] ++ (GL.map (K2.h 2 106 Lbl.d))) rfl (za rfl rfl (ze rfl) (zg rfl (zf (zd _ _ rfl rfl rfl (zc rfl (za rfl rfl (zb rfl) ?_))))))
  refine zl rfl rfl (zq [.bx gb 38 (zH vLb vLw)] ([.sl vLb 1 52 (GL.map K2.d0), .sl goL 1 52 (GL.map K2.d1), .sl vLw 1 52 (WL.map (D.ls 2 Lbl.d))] ++ (GL.map (K2.h 2 106 Lbl.d))) [] rfl rfl (.cons ArgC.id .nil) zk Tryz.call75 (growCursors_0 gb (dZ) (dZ) (dZ) (dZ) (dZ) (dZ) (.ov vLb) (.ov vLw) (dZ) (dZ) (dZ) (dZ) (dZ) (dZ) (dZ) (dZ) (dZ) (dZ) (dZ)) (.inl rfl)) ?_
  rintro _ _ ⟨_, ⟨rfl, rfl⟩, rfl⟩
  refine OpsD.norm ([.bx gb 38 (zH vLb vLw), .sl vLb 1 52 (GL.map K2.d0), .sl goL 1 52 (GL.map K2.d1), .sl vLw 1 52 (WL.map (D.ls 2 Lbl.d))] ++ (GL.map (K2.h 2 106 Lbl.d))) rfl (za rfl rfl (ze rfl) (zg rfl (zf (zd _ _ rfl rfl rfl (zc rfl (za rfl rfl (zb rfl) ?_))))))
  refine zl rfl rfl (zq [.bx gb 38 (zH vLb vLw)] ([.sl vLb 1 52 (GL.map K2.d0), .sl goL 1 52 (GL.map K2.d1), .sl vLw 1 52 (WL.map (D.ls 2 Lbl.d))] ++ (GL.map (K2.h 2 106 Lbl.d))) [] rfl rfl (.cons ArgC.id .nil) zk Tryz.call76 (growNotes_0 gb (dZ) (dZ) (dZ) (dZ) (dZ) (dZ) (.ov vLb) (.ov vLw) (dZ) (dZ) (dZ) (dZ) (dZ) (dZ) (dZ) (dZ) (dZ) (dZ) (dZ)) (.inl rfl)) ?_
  rintro _ _ ⟨_, ⟨rfl, rfl⟩, rfl⟩
  refine OpsD.norm ([.bx gb 38 (zH vLb vLw), .sl vLb 1 52 (GL.map K2.d0), .sl goL 1 52 (GL.map K2.d1), .sl vLw 1 52 (WL.map (D.ls 2 Lbl.d))] ++ (GL.map (K2.h 2 106 Lbl.d))) rfl (za rfl rfl (ze rfl) (zg rfl (zf (JD.keep [0, 2, 3, 4, 5, 6, 7, 8, 9, 10] [(0, dP gb 0), (2, dB false), (3, dZ), (4, dZ), (5, dZ), (6, .ov goL), (7, dZ), (8, dZ), (9, dZ), (10, dZ)] rfl (zd _ _ rfl rfl rfl (zc rfl (za rfl rfl (zb rfl) ?_)))))))
  refine zl rfl rfl (zq [.bx gb 38 (zH vLb vLw)] ([.sl vLb 1 52 (GL.map K2.d0), .sl goL 1 52 (GL.map K2.d1), .sl vLw 1 52 (WL.map (D.ls 2 Lbl.d))] ++ (GL.map (K2.h 2 106 Lbl.d))) [] rfl rfl (.cons ArgC.id .nil) zk Tryz.call77 (growRows_0 gb (dZ) (dZ) (dZ) (dZ) (dZ) (dZ) (.ov vLb) (.ov vLw) (dZ) (dZ) (dZ) (dZ) (dZ) (dZ) (dZ) (dZ) (dZ) (dZ) (dZ)) (.inl rfl)) ?_
  rintro _ _ ⟨_, ⟨rfl, rfl⟩, rfl⟩
  refine OpsD.norm ([.bx gb 38 (zH vLb vLw), .sl vLb 1 52 (GL.map K2.d0), .sl goL 1 52 (GL.map K2.d1), .sl vLw 1 52 (WL.map (D.ls 2 Lbl.d))] ++ (GL.map (K2.h 2 106 Lbl.d))) rfl (za rfl rfl (ze rfl) (zg rfl (zf (zd _ _ rfl rfl rfl (zc rfl (za rfl rfl (zb rfl) ?_))))))
  refine zl rfl rfl (zq [.bx gb 38 (zH vLb vLw)] ([.sl vLb 1 52 (GL.map K2.d0), .sl goL 1 52 (GL.map K2.d1), .sl vLw 1 52 (WL.map (D.ls 2 Lbl.d))] ++ (GL.map (K2.h 2 106 Lbl.d))) [] rfl rfl (.cons ArgC.id .nil) zk Tryz.call78 (growSeries_0 gb (dZ) (dZ) (dZ) (dZ) (dZ) (dZ) (.ov vLb) (.ov vLw) (dZ) (dZ) (dZ) (dZ) (dZ) (dZ) (dZ) (dZ) (dZ) (dZ) (dZ)) (.inl rfl)) ?_
  rintro _ _ ⟨_, ⟨rfl, rfl⟩, rfl⟩
  refine OpsD.norm ([.bx gb 38 (zH vLb vLw), .sl vLb 1 52 (GL.map K2.d0), .sl goL 1 52 (GL.map K2.d1), .sl vLw 1 52 (WL.map (D.ls 2 Lbl.d))] ++ (GL.map (K2.h 2 106 Lbl.d))) rfl (za rfl rfl (ze rfl) (zg rfl (zf (zd _ _ rfl rfl rfl (zc rfl (za rfl rfl (zb rfl) ?_))))))
  refine zl rfl rfl (zq [] ([.bx gb 38 (zH vLb vLw), .sl vLb 1 52 (GL.map K2.d0), .sl goL 1 52 (GL.map K2.d1), .sl vLw 1 52 (WL.map (D.ls 2 Lbl.d))] ++ (GL.map (K2.h 2 106 Lbl.d))) [] rfl rfl (.cons ArgC.id .nil) zk Tryz.call79 (markedTexts_0) (.inl rfl)) ?_
  rintro _ _ ⟨_, ⟨rfl, rfl⟩, rfl⟩
  refine OpsD.norm ([.bx gb 38 (zH vLb vLw), .sl vLb 1 52 (GL.map K2.d0), .sl goL 1 52 (GL.map K2.d1), .sl vLw 1 52 (WL.map (D.ls 2 Lbl.d))] ++ (GL.map (K2.h 2 106 Lbl.d))) rfl (za rfl rfl (zb rfl) (zh rfl rfl rfl rfl rfl (zb rfl) (zh rfl rfl rfl rfl rfl (zF rfl) (zh rfl rfl rfl rfl rfl (zn rfl zc1 rfl) (zh rfl rfl rfl rfl rfl (zy rfl (i := 0) rfl Tryz.isAgg27 rfl) ?_)))))
  refine z2 rfl rfl rfl rfl rfl (zq [] ([.bx gb 38 (zH vLb vLw), .sl vLb 1 52 (GL.map K2.d0), .sl goL 1 52 (GL.map K2.d1), .sl vLw 1 52 (WL.map (D.ls 2 Lbl.d))] ++ (GL.map (K2.h 2 106 Lbl.d))) [] rfl rfl (.cons ArgC.id .nil) zk Tryz.call79 (markedTexts_0) (.inl rfl)) ?_
  rintro _ _ ⟨_, ⟨rfl, rfl⟩, rfl⟩
  refine OpsD.norm ([.bx gb 38 (zH vLb vLw), .sl vLb 1 52 (GL.map K2.d0), .sl goL 1 52 (GL.map K2.d1), .sl vLw 1 52 (WL.map (D.ls 2 Lbl.d))] ++ (GL.map (K2.h 2 106 Lbl.d))) rfl (za rfl rfl (zm rfl rfl) (za rfl rfl (zb rfl) (zh rfl rfl rfl rfl rfl (zb rfl) (z2 rfl rfl rfl rfl rfl (zq [] ([.bx gb 38 (zH vLb vLw), .sl vLb 1 52 (GL.map K2.d0), .sl goL 1 52 (GL.map K2.d1), .sl vLw 1 52 (WL.map (D.ls 2 Lbl.d))] ++ (GL.map (K2.h 2 106 Lbl.d))) [] rfl rfl (.cons ArgC.id .nil) zk Tryz.call80 (markedInts_0) (.inl rfl)) ?_))))
  rintro _ _ ⟨_, ⟨rfl, rfl⟩, rfl⟩
  refine OpsD.norm ([.bx gb 38 (zH vLb vLw), .sl vLb 1 52 (GL.map K2.d0), .sl goL 1 52 (GL.map K2.d1), .sl vLw 1 52 (WL.map (D.ls 2 Lbl.d))] ++ (GL.map (K2.h 2 106 Lbl.d))) rfl (za rfl rfl (zm rfl rfl) (za rfl rfl (zb rfl) (zh rfl rfl rfl rfl rfl (zb rfl) (zh rfl rfl rfl rfl rfl (zF rfl) (zh rfl rfl rfl rfl rfl (zn rfl zcP rfl) (zh rfl rfl rfl rfl rfl (zy rfl (i := 0) rfl Tryz.isAgg28 rfl) ?_))))))
  refine z2 rfl rfl rfl rfl rfl (zq [] ([.bx gb 38 (zH vLb vLw), .sl vLb 1 52 (GL.map K2.d0), .sl goL 1 52 (GL.map K2.d1), .sl vLw 1 52 (WL.map (D.ls 2 Lbl.d))] ++ (GL.map (K2.h 2 106 Lbl.d))) [] rfl rfl (.cons ArgC.id .nil) zk Tryz.call80 (markedInts_0) (.inl rfl)) ?_
  rintro _ _ ⟨_, ⟨rfl, rfl⟩, rfl⟩
  refine OpsD.norm ([.bx gb 38 (zH vLb vLw), .sl vLb 1 52 (GL.map K2.d0), .sl goL 1 52 (GL.map K2.d1), .sl vLw 1 52 (WL.map (D.ls 2 Lbl.d))] ++ (GL.map (K2.h 2 106 Lbl.d))) rfl (za rfl rfl (zm rfl rfl) (za rfl rfl (zb rfl) (zh rfl rfl rfl rfl rfl (zb rfl) (z2 rfl rfl rfl rfl rfl (zq [] ([.bx gb 38 (zH vLb vLw), .sl vLb 1 52 (GL.map K2.d0), .sl goL 1 52 (GL.map K2.d1), .sl vLw 1 52 (WL.map (D.ls 2 Lbl.d))] ++ (GL.map (K2.h 2 106 Lbl.d))) [] rfl rfl (.cons ArgC.id .nil) zk Tryz.call81 (markedRunes_0) (.inl rfl)) ?_))))
  rintro _ _ ⟨_, ⟨rfl, rfl⟩, rfl⟩
  refine OpsD.norm ([.bx gb 38 (zH vLb vLw), .sl vLb 1 52 (GL.map K2.d0), .sl goL 1 52 (GL.map K2.d1), .sl vLw 1 52 (WL.map (D.ls 2 Lbl.d))] ++ (GL.map (K2.h 2 106 Lbl.d))) rfl (za rfl rfl (zm rfl rfl) (za rfl rfl (zb rfl) (zh rfl rfl rfl rfl rfl (zb rfl) (zh rfl rfl rfl rfl rfl (zF rfl) (zh rfl rfl rfl rfl rfl (zn rfl fa_38_4 rfl) (zh rfl rfl rfl rfl rfl (zy rfl (i := 0) rfl Tryz.isAgg29 rfl) ?_))))))
  refine z2 rfl rfl rfl rfl rfl (zq [] ([.bx gb 38 (zH vLb vLw), .sl vLb 1 52 (GL.map K2.d0), .sl goL 1 52 (GL.map K2.d1), .sl vLw 1 52 (WL.map (D.ls 2 Lbl.d))] ++ (GL.map (K2.h 2 106 Lbl.d))) [] rfl rfl (.cons ArgC.id .nil) zk Tryz.call81 (markedRunes_0) (.inl rfl)) ?_
  rintro _ _ ⟨_, ⟨rfl, rfl⟩, rfl⟩
  refine OpsD.norm ([.bx gb 38 (zH vLb vLw), .sl vLb 1 52 (GL.map K2.d0), .sl goL 1 52 (GL.map K2.d1), .sl vLw 1 52 (WL.map (D.ls 2 Lbl.d))] ++ (GL.map (K2.h 2 106 Lbl.d))) rfl (za rfl rfl (zm rfl rfl) (za rfl rfl (zb rfl) (zh rfl rfl rfl rfl rfl (zb rfl) (OpsD.subH (HSub.perm (zr (i := 2) rfl)) (OpsD.norm ([.sl goL 1 52 (GL.map K2.d1), .bx gb 38 (zH vLb vLw), .sl vLb 1 52 (GL.map K2.d0), .sl vLw 1 52 (WL.map (D.ls 2 Lbl.d))] ++ (GL.map (K2.h 2 106 Lbl.d))) rfl ?_)))))
  refine OpsD.subH (HSub.perm (zbD (A := [.sl goL 1 52 (GL.map K2.d1)]) (B := [.bx gb 38 (zH vLb vLw), .sl vLb 1 52 (GL.map K2.d0), .sl vLw 1 52 (WL.map (D.ls 2 Lbl.d))]) (T := GL.map (K2.h 2 106 Lbl.d)))) (z2 rfl rfl rfl rfl rfl (zq ([.sl goL 1 52 (GL.map K2.d1)] ++ (GL.map (K2.h 2 106 Lbl.d))) [.bx gb 38 (zH vLb vLw), .sl vLb 1 52 (GL.map K2.d0), .sl vLw 1 52 (WL.map (D.ls 2 Lbl.d))] [] rfl rfl (.cons ArgC.id .nil) zk Tryz.call82 (markedLabelsN_c goL GL (by have e := hGL.len; rw [putK_len] at e; omega) hGL.at_) (.inl rfl)) ?_)
  rintro _ _ ⟨_, ⟨rfl, rfl⟩, rfl⟩
  refine OpsD.subH (HSub.perm (zbD (A := [.sl goL 1 52 (GL.map K2.d1)]) (B := [.bx gb 38 (zH vLb vLw), .sl vLb 1 52 (GL.map K2.d0), .sl vLw 1 52 (WL.map (D.ls 2 Lbl.d))]) (T := GL.map (K2.h 2 106 Lbl.d))).symm) (OpsD.norm ([.sl goL 1 52 (GL.map K2.d1), .bx gb 38 (zH vLb vLw), .sl vLb 1 52 (GL.map K2.d0), .sl vLw 1 52 (WL.map (D.ls 2 Lbl.d))] ++ (GL.map (K2.h 2 106 Lbl.d))) rfl (za rfl rfl (zm rfl rfl) (za rfl rfl (zb rfl) (zh rfl rfl rfl rfl rfl (zb rfl) (zh rfl rfl rfl rfl rfl (zF rfl) (zh rfl rfl rfl rfl rfl (zn rfl zbh rfl) ?_))))))
  refine zh rfl rfl rfl rfl rfl (zy rfl (i := 1) rfl Tryz.isAgg30 rfl) (OpsD.subH (HSub.perm (zr (i := 2) rfl)) (OpsD.norm ([.sl vLb 1 52 (GL.map K2.d0), .sl goL 1 52 (GL.map K2.d1), .bx gb 38 (zH vLb vLw), .sl vLw 1 52 (WL.map (D.ls 2 Lbl.d))] ++ (GL.map (K2.h 2 106 Lbl.d))) rfl (OpsD.subH (HSub.perm (zbD (A := [.sl vLb 1 52 (GL.map K2.d0)]) (B := [.sl goL 1 52 (GL.map K2.d1), .bx gb 38 (zH vLb vLw), .sl vLw 1 52 (WL.map (D.ls 2 Lbl.d))]) (T := GL.map (K2.h 2 106 Lbl.d)))) ?_)))
  refine z2 rfl rfl rfl rfl rfl (zq ([.sl vLb 1 52 (GL.map K2.d0)] ++ (GL.map (K2.h 2 106 Lbl.d))) [.sl goL 1 52 (GL.map K2.d1), .bx gb 38 (zH vLb vLw), .sl vLw 1 52 (WL.map (D.ls 2 Lbl.d))] [] rfl rfl (.cons ArgC.id .nil) zk Tryz.call82 (markedLabelsW_c vLb GL (by have e := hGL.len; rw [putK_len] at e; omega) hGL.at_) (.inl rfl)) ?_
  rintro _ _ ⟨_, ⟨rfl, rfl⟩, rfl⟩
  refine OpsD.subH (HSub.perm (zbD (A := [.sl vLb 1 52 (GL.map K2.d0)]) (B := [.sl goL 1 52 (GL.map K2.d1), .bx gb 38 (zH vLb vLw), .sl vLw 1 52 (WL.map (D.ls 2 Lbl.d))]) (T := GL.map (K2.h 2 106 Lbl.d))).symm) (OpsD.norm ([.sl vLb 1 52 (GL.map K2.d0), .sl goL 1 52 (GL.map K2.d1), .bx gb 38 (zH vLb vLw), .sl vLw 1 52 (WL.map (D.ls 2 Lbl.d))] ++ (GL.map (K2.h 2 106 Lbl.d))) rfl (za rfl rfl (zm rfl rfl) (za rfl rfl (zb rfl) (zh rfl rfl rfl rfl rfl (zb rfl) ?_))))
  refine z2 rfl rfl rfl rfl rfl (zq [] ([.sl vLb 1 52 (GL.map K2.d0), .sl goL 1 52 (GL.map K2.d1), .bx gb 38 (zH vLb vLw), .sl vLw 1 52 (WL.map (D.ls 2 Lbl.d))] ++ (GL.map (K2.h 2 106 Lbl.d))) [] rfl rfl (.cons ArgC.id .nil) zk Tryz.call83 (markedPoints_0) (.inl rfl)) ?_
  rintro _ _ ⟨_, ⟨rfl, rfl⟩, rfl⟩
  refine OpsD.norm ([.sl vLb 1 52 (GL.map K2.d0), .sl goL 1 52 (GL.map K2.d1), .bx gb 38 (zH vLb vLw), .sl vLw 1 52 (WL.map (D.ls 2 Lbl.d))] ++ (GL.map (K2.h 2 106 Lbl.d))) rfl (za rfl rfl (zm rfl rfl) (za rfl rfl (zb rfl) (zh rfl rfl rfl rfl rfl (zb rfl) (zh rfl rfl rfl rfl rfl (zF rfl) (zh rfl rfl rfl rfl rfl (zn rfl fa_38_8 rfl) (zh rfl rfl rfl rfl rfl (zy rfl (i := 2) rfl Tryz.isAgg31 rfl) ?_))))))
  refine z2 rfl rfl rfl rfl rfl (zq [] ([.sl vLb 1 52 (GL.map K2.d0), .sl goL 1 52 (GL.map K2.d1), .bx gb 38 (zH vLb vLw), .sl vLw 1 52 (WL.map (D.ls 2 Lbl.d))] ++ (GL.map (K2.h 2 106 Lbl.d))) [] rfl rfl (.cons ArgC.id .nil) zk Tryz.call83 (markedPoints_0) (.inl rfl)) ?_
  rintro _ _ ⟨_, ⟨rfl, rfl⟩, rfl⟩
  refine OpsD.norm ([.sl vLb 1 52 (GL.map K2.d0), .sl goL 1 52 (GL.map K2.d1), .bx gb 38 (zH vLb vLw), .sl vLw 1 52 (WL.map (D.ls 2 Lbl.d))] ++ (GL.map (K2.h 2 106 Lbl.d))) rfl (za rfl rfl (zm rfl rfl) (za rfl rfl (zb rfl) (zh rfl rfl rfl rfl rfl (zb rfl) (z2 rfl rfl rfl rfl rfl (zq [] ([.sl vLb 1 52 (GL.map K2.d0), .sl goL 1 52 (GL.map K2.d1), .bx gb 38 (zH vLb vLw), .sl vLw 1 52 (WL.map (D.ls 2 Lbl.d))] ++ (GL.map (K2.h 2 106 Lbl.d))) [] rfl rfl (.cons ArgC.id .nil) zk Tryz.call84 (markedTokens_0) (.inl rfl)) ?_))))
  rintro _ _ ⟨_, ⟨rfl, rfl⟩, rfl⟩
  refine OpsD.norm ([.sl vLb 1 52 (GL.map K2.d0), .sl goL 1 52 (GL.map K2.d1), .bx gb 38 (zH vLb vLw), .sl vLw 1 52 (WL.map (D.ls 2 Lbl.d))] ++ (GL.map (K2.h 2 106 Lbl.d))) rfl (za rfl rfl (zm rfl rfl) (za rfl rfl (zb rfl) (zh rfl rfl rfl rfl rfl (zb rfl) (zh rfl rfl rfl rfl rfl (zF rfl) (zh rfl rfl rfl rfl rfl (zn rfl fa_38_10 rfl) (zh rfl rfl rfl rfl rfl (zy rfl (i := 2) rfl Tryz.isAgg32 rfl) ?_))))))
  refine z2 rfl rfl rfl rfl rfl (zq [] ([.sl vLb 1 52 (GL.map K2.d0), .sl goL 1 52 (GL.map K2.d1), .bx gb 38 (zH vLb vLw), .sl vLw 1 52 (WL.map (D.ls 2 Lbl.d))] ++ (GL.map (K2.h 2 106 Lbl.d))) [] rfl rfl (.cons ArgC.id .nil) zk Tryz.call84 (markedTokens_0) (.inl rfl)) ?_
  rintro _ _ ⟨_, ⟨rfl, rfl⟩, rfl⟩
  refine OpsD.norm ([.sl vLb 1 52 (GL.map K2.d0), .sl goL 1 52 (GL.map K2.d1), .bx gb 38 (zH vLb vLw), .sl vLw 1 52 (WL.map (D.ls 2 Lbl.d))] ++ (GL.map (K2.h 2 106 Lbl.d))) rfl (za rfl rfl (zm rfl rfl) (za rfl rfl (zb rfl) (zh rfl rfl rfl rfl rfl (zb rfl) (z2 rfl rfl rfl rfl rfl (zq [] ([.sl vLb 1 52 (GL.map K2.d0), .sl goL 1 52 (GL.map K2.d1), .bx gb 38 (zH vLb vLw), .sl vLw 1 52 (WL.map (D.ls 2 Lbl.d))] ++ (GL.map (K2.h 2 106 Lbl.d))) [] rfl rfl (.cons ArgC.id .nil) zk Tryz.call85 (markedCursors_0) (.inl rfl)) ?_))))
  rintro _ _ ⟨_, ⟨rfl, rfl⟩, rfl⟩
  refine OpsD.norm ([.sl vLb 1 52 (GL.map K2.d0), .sl goL 1 52 (GL.map K2.d1), .bx gb 38 (zH vLb vLw), .sl vLw 1 52 (WL.map (D.ls 2 Lbl.d))] ++ (GL.map (K2.h 2 106 Lbl.d))) rfl (za rfl rfl (zm rfl rfl) (za rfl rfl (zb rfl) (zh rfl rfl rfl rfl rfl (zb rfl) (zh rfl rfl rfl rfl rfl (zF rfl) (zh rfl rfl rfl rfl rfl (zn rfl fa_38_12 rfl) (zh rfl rfl rfl rfl rfl (zy rfl (i := 2) rfl Tryz.isAgg33 rfl) ?_))))))
  refine z2 rfl rfl rfl rfl rfl (zq [] ([.sl vLb 1 52 (GL.map K2.d0), .sl goL 1 52 (GL.map K2.d1), .bx gb 38 (zH vLb vLw), .sl vLw 1 52 (WL.map (D.ls 2 Lbl.d))] ++ (GL.map (K2.h 2 106 Lbl.d))) [] rfl rfl (.cons ArgC.id .nil) zk Tryz.call85 (markedCursors_0) (.inl rfl)) ?_
  rintro _ _ ⟨_, ⟨rfl, rfl⟩, rfl⟩
  refine OpsD.norm ([.sl vLb 1 52 (GL.map K2.d0), .sl goL 1 52 (GL.map K2.d1), .bx gb 38 (zH vLb vLw), .sl vLw 1 52 (WL.map (D.ls 2 Lbl.d))] ++ (GL.map (K2.h 2 106 Lbl.d))) rfl (za rfl rfl (zm rfl rfl) (za rfl rfl (zb rfl) (zh rfl rfl rfl rfl rfl (zb rfl) (z2 rfl rfl rfl rfl rfl (zq [] ([.sl vLb 1 52 (GL.map K2.d0), .sl goL 1 52 (GL.map K2.d1), .bx gb 38 (zH vLb vLw), .sl vLw 1 52 (WL.map (D.ls 2 Lbl.d))] ++ (GL.map (K2.h 2 106 Lbl.d))) [] rfl rfl (.cons ArgC.id .nil) zk Tryz.call86 (markedNotes_0) (.inl rfl)) ?_))))
  rintro _ _ ⟨_, ⟨rfl, rfl⟩, rfl⟩
  refine OpsD.norm ([.sl vLb 1 52 (GL.map K2.d0), .sl goL 1 52 (GL.map K2.d1), .bx gb 38 (zH vLb vLw), .sl vLw 1 52 (WL.map (D.ls 2 Lbl.d))] ++ (GL.map (K2.h 2 106 Lbl.d))) rfl (za rfl rfl (zm rfl rfl) (za rfl rfl (zb rfl) (zh rfl rfl rfl rfl rfl (zb rfl) (zh rfl rfl rfl rfl rfl (zF rfl) (zh rfl rfl rfl rfl rfl (zn rfl fa_38_14 rfl) (zh rfl rfl rfl rfl rfl (zy rfl (i := 2) rfl Tryz.isAgg34 rfl) ?_))))))
  refine z2 rfl rfl rfl rfl rfl (zq [] ([.sl vLb 1 52 (GL.map K2.d0), .sl goL 1 52 (GL.map K2.d1), .bx gb 38 (zH vLb vLw), .sl vLw 1 52 (WL.map (D.ls 2 Lbl.d))] ++ (GL.map (K2.h 2 106 Lbl.d))) [] rfl rfl (.cons ArgC.id .nil) zk Tryz.call86 (markedNotes_0) (.inl rfl)) ?_
  rintro _ _ ⟨_, ⟨rfl, rfl⟩, rfl⟩
  refine OpsD.norm ([.sl vLb 1 52 (GL.map K2.d0), .sl goL 1 52 (GL.map K2.d1), .bx gb 38 (zH vLb vLw), .sl vLw 1 52 (WL.map (D.ls 2 Lbl.d))] ++ (GL.map (K2.h 2 106 Lbl.d))) rfl (za rfl rfl (zm rfl rfl) (za rfl rfl (zb rfl) (zh rfl rfl rfl rfl rfl (zb rfl) (z2 rfl rfl rfl rfl rfl (zq [] ([.sl vLb 1 52 (GL.map K2.d0), .sl goL 1 52 (GL.map K2.d1), .bx gb 38 (zH vLb vLw), .sl vLw 1 52 (WL.map (D.ls 2 Lbl.d))] ++ (GL.map (K2.h 2 106 Lbl.d))) [] rfl rfl (.cons ArgC.id .nil) zk Tryz.call87 (markedRows_0) (.inl rfl)) ?_))))
  rintro _ _ ⟨_, ⟨rfl, rfl⟩, rfl⟩
  refine OpsD.norm ([.sl vLb 1 52 (GL.map K2.d0), .sl goL 1 52 (GL.map K2.d1), .bx gb 38 (zH vLb vLw), .sl vLw 1 52 (WL.map (D.ls 2 Lbl.d))] ++ (GL.map (K2.h 2 106 Lbl.d))) rfl (za rfl rfl (zm rfl rfl) (za rfl rfl (zb rfl) (zh rfl rfl rfl rfl rfl (zb rfl) (zh rfl rfl rfl rfl rfl (zF rfl) (zh rfl rfl rfl rfl rfl (zn rfl zcn rfl) (zh rfl rfl rfl rfl rfl (zy rfl (i := 2) rfl Tryz.isAgg35 rfl) ?_))))))
  refine z2 rfl rfl rfl rfl rfl (zq [] ([.sl vLb 1 52 (GL.map K2.d0), .sl goL 1 52 (GL.map K2.d1), .bx gb 38 (zH vLb vLw), .sl vLw 1 52 (WL.map (D.ls 2 Lbl.d))] ++ (GL.map (K2.h 2 106 Lbl.d))) [] rfl rfl (.cons ArgC.id .nil) zk Tryz.call87 (markedRows_0) (.inl rfl)) ?_
  rintro _ _ ⟨_, ⟨rfl, rfl⟩, rfl⟩
  refine OpsD.norm ([.sl vLb 1 52 (GL.map K2.d0), .sl goL 1 52 (GL.map K2.d1), .bx gb 38 (zH vLb vLw), .sl vLw 1 52 (WL.map (D.ls 2 Lbl.d))] ++ (GL.map (K2.h 2 106 Lbl.d))) rfl (za rfl rfl (zm rfl rfl) (za rfl rfl (zb rfl) (zh rfl rfl rfl rfl rfl (zb rfl) (z2 rfl rfl rfl rfl rfl (zq [] ([.sl vLb 1 52 (GL.map K2.d0), .sl goL 1 52 (GL.map K2.d1), .bx gb 38 (zH vLb vLw), .sl vLw 1 52 (WL.map (D.ls 2 Lbl.d))] ++ (GL.map (K2.h 2 106 Lbl.d))) [] rfl rfl (.cons ArgC.id .nil) zk Tryz.call88 (markedSeries_0) (.inl rfl)) ?_))))
  rintro _ _ ⟨_, ⟨rfl, rfl⟩, rfl⟩
  refine OpsD.norm ([.sl vLb 1 52 (GL.map K2.d0), .sl goL 1 52 (GL.map K2.d1), .bx gb 38 (zH vLb vLw), .sl vLw 1 52 (WL.map (D.ls 2 Lbl.d))] ++ (GL.map (K2.h 2 106 Lbl.d))) rfl (za rfl rfl (zm rfl rfl) (za rfl rfl (zb rfl) (zh rfl rfl rfl rfl rfl (zb rfl) (zh rfl rfl rfl rfl rfl (zF rfl) (zh rfl rfl rfl rfl rfl (zn rfl fa_38_18 rfl) (zh rfl rfl rfl rfl rfl (zy rfl (i := 2) rfl Tryz.isAgg36 rfl) ?_))))))
  refine z2 rfl rfl rfl rfl rfl (zq [] ([.sl vLb 1 52 (GL.map K2.d0), .sl goL 1 52 (GL.map K2.d1), .bx gb 38 (zH vLb vLw), .sl vLw 1 52 (WL.map (D.ls 2 Lbl.d))] ++ (GL.map (K2.h 2 106 Lbl.d))) [] rfl rfl (.cons ArgC.id .nil) zk Tryz.call88 (markedSeries_0) (.inl rfl)) ?_
  rintro _ _ ⟨_, ⟨rfl, rfl⟩, rfl⟩
  refine OpsD.norm ([.sl vLb 1 52 (GL.map K2.d0), .sl goL 1 52 (GL.map K2.d1), .bx gb 38 (zH vLb vLw), .sl vLw 1 52 (WL.map (D.ls 2 Lbl.d))] ++ (GL.map (K2.h 2 106 Lbl.d))) rfl (za rfl rfl (zm rfl rfl) (za rfl rfl (ze rfl) (zg rfl (zf (JD.keep [2] [(2, dB true)] rfl (zE rfl ?_))))))
  exact zA Tryz.results15 (.cons (zC rfl) .nil) rfl HSub.none ⟨rfl, rfl⟩
end Lp
