/- Walks, printed by a program of mine. -/
import Derived.Test.YtheccaeefigajaaGreatDoorV102
set_option linter.unusedSimpArgs false
set_option linter.unusedVariables false
set_option maxHeartbeats 4000000
set_option maxRecDepth 100000
namespace Lp
open Go Go.RowKit Go.Proofs

namespace HdYtheccaeefigajaaGreatDoorV103
theorem bd_143 : ∀ w, ((#[⟨"kind", 3, 0, false, "", "leporello/kind", 0⟩] : Array Field).mapM fun f => do pure (f.offset, ← Go.sizeOf f.type) : Sem (Array (Nat × Nat))).run Tryz.prog w = .ok ([(0, 1)] : List (Nat × Nat)).toArray w := fun _ => by kernel_rfl
theorem bd_146 : ∀ w, ((#[⟨"kid", 3, 0, false, "", "leporello/kind", 0⟩, ⟨"is", 3, 1, false, "", "leporello/kind", 8⟩] : Array Field).mapM fun f => do pure (f.offset, ← Go.sizeOf f.type) : Sem (Array (Nat × Nat))).run Tryz.prog w = .ok ([(0, 1), (1, 1)] : List (Nat × Nat)).toArray w := fun _ => by kernel_rfl
theorem bd_149 : ∀ w, ((#[⟨"mode", 3, 0, false, "", "leporello/kind", 0⟩] : Array Field).mapM fun f => do pure (f.offset, ← Go.sizeOf f.type) : Sem (Array (Nat × Nat))).run Tryz.prog w = .ok ([(0, 1)] : List (Nat × Nat)).toArray w := fun _ => by kernel_rfl
theorem bd_153 : ∀ w, ((#[] : Array Field).mapM fun f => do pure (f.offset, ← Go.sizeOf f.type) : Sem (Array (Nat × Nat))).run Tryz.prog w = .ok ([] : List (Nat × Nat)).toArray w := fun _ => by kernel_rfl
theorem fa_143_0 (b o : Nat) : ∀ w, (Instr.fieldAt 143 (.pointer (some ⟨b, o, none⟩)) 0).run Tryz.prog w = .ok (.pointer (some ⟨b, o + 0, none⟩)) w := fun _ => by kernel_rfl
theorem fa_146_0 (b o : Nat) : ∀ w, (Instr.fieldAt 146 (.pointer (some ⟨b, o, none⟩)) 0).run Tryz.prog w = .ok (.pointer (some ⟨b, o + 0, none⟩)) w := fun _ => by kernel_rfl
theorem fa_146_1 (b o : Nat) : ∀ w, (Instr.fieldAt 146 (.pointer (some ⟨b, o, none⟩)) 1).run Tryz.prog w = .ok (.pointer (some ⟨b, o + 1, none⟩)) w := fun _ => by kernel_rfl
theorem fa_149_0 (b o : Nat) : ∀ w, (Instr.fieldAt 149 (.pointer (some ⟨b, o, none⟩)) 0).run Tryz.prog w = .ok (.pointer (some ⟨b, o + 0, none⟩)) w := fun _ => by kernel_rfl
theorem zaR (b o : Nat) : ∀ w, (Instr.fieldAt 27 (.pointer (some ⟨b, o, none⟩)) 0).run Tryz.prog w = .ok (.pointer (some ⟨b, o + 0, none⟩)) w := fun _ => by kernel_rfl
theorem zcf (b o : Nat) : ∀ w, (Instr.fieldAt 27 (.pointer (some ⟨b, o, none⟩)) 1).run Tryz.prog w = .ok (.pointer (some ⟨b, o + 1, none⟩)) w := fun _ => by kernel_rfl
theorem zbM (b o : Nat) : ∀ w, (Instr.fieldAt 27 (.pointer (some ⟨b, o, none⟩)) 2).run Tryz.prog w = .ok (.pointer (some ⟨b, o + 2, none⟩)) w := fun _ => by kernel_rfl
theorem fa_27_3 (b o : Nat) : ∀ w, (Instr.fieldAt 27 (.pointer (some ⟨b, o, none⟩)) 3).run Tryz.prog w = .ok (.pointer (some ⟨b, o + 3, none⟩)) w := fun _ => by kernel_rfl
theorem zbL (b o : Nat) : ∀ w, (Instr.fieldAt 27 (.pointer (some ⟨b, o, none⟩)) 6).run Tryz.prog w = .ok (.pointer (some ⟨b, o + 6, none⟩)) w := fun _ => by kernel_rfl
theorem zbK (b o : Nat) : ∀ w, (Instr.fieldAt 29 (.pointer (some ⟨b, o, none⟩)) 0).run Tryz.prog w = .ok (.pointer (some ⟨b, o + 0, none⟩)) w := fun _ => by kernel_rfl
theorem infz_3 : ∃ i, Tryz.prog.info? 3 = some i ∧ i.zero = some (.int .i64 0) ∧ i.size = 1 ∧ i.bytes = 8 := zbi (by kernel_rfl)
theorem und_55 : Tryz.prog.underlying 55 = some (.slice 3) := by kernel_rfl
end HdYtheccaeefigajaaGreatDoorV103
open HdYtheccaeefigajaaGreatDoorV103

theorem right_c (op text : ByteArray) (n mode : Int) (names : List ByteArray) (ms : List MatD) (kids : List Nd)  :
    CD Tryz.prog 116 [] [.agg [.s op, .s text, dI n, dI mode, .sh 1 (names.map D.s), .sh 3 (ms.map MatD.d), .sh 7 (kids.map Nd.d)]] (isR (dB (zcI text n))) := by
  refine zr Tryz.func116 rfl (N := 25) rfl rfl (fun C => ?_)
  refine jk [0] rfl ?_
  refine JD.bd 0 rfl (fun bd0 => ?_)
  refine jT rfl (oE rfl (zbz rfl (CellD.agg)) ?_)
  rintro _ _ ⟨g1, rfl, rfl⟩
  refine oR 1 rfl (oZ rfl (jS rfl (jT rfl (oP rfl (zd rfl zcf rfl) (oP rfl (zg rfl (i := 0) rfl Tryz.isAgg9 rfl) (oZ rfl (jB rfl (jT rfl (oP rfl (zaq rfl rfl rfl) (oR 1 rfl (oZ rfl ?_)))))))))))
  refine jD rfl (fun hc2 => ?_) (fun hc2 => ?_)
  · skip
    refine jS rfl (jk [1] rfl ?_)
    refine zM 2 ((decide ((0 : Int) ≤ n) && decide (n ≤ (100 : Int)))) [.bx g1 27 (.agg [.s op, .s text, dI n, dI mode, .sh 1 (names.map D.s), .sh 3 (ms.map MatD.d), .sh 7 (kids.map Nd.d)])] (fun _ hQ3 => ?_) ?_
    · skip
      by_cases hg4 : (0 : Int) ≤ n
      · skip
        refine ze rfl (oP rfl (zd rfl zbM rfl) (oP rfl (zg rfl (i := 0) rfl Tryz.isAgg3 rfl) (oP rfl (zai rfl rfl (decide_eq_true hg4)) (oR 1 rfl (oG rfl (zd rfl zbM rfl) (oG rfl (zg rfl (i := 0) rfl Tryz.isAgg3 rfl) (oG rfl (zaX rfl rfl rfl) (oR 2 rfl (zp rfl ?_)))))))))
        exact PD.sub ((2, dB (decide ((0 : Int) ≤ n) && decide (n ≤ (100 : Int)))) :: [(1, dP g1 0)]) ⟨sc rfl (Cv.eq (congrArg (fun b => D.v (.bool b)) (by first | (simp [hc2, hg4]; done) | (simp_all; done) | (simp_all; exact Iff.rfl)))), sk rfl, trivial⟩ hQ3
      · skip
        refine ze rfl (oP rfl (zd rfl zbM rfl) (oP rfl (zg rfl (i := 0) rfl Tryz.isAgg3 rfl) (oP rfl (zai rfl rfl (decide_eq_false hg4)) (oR 6 rfl (zp rfl ?_)))))
        exact PD.sub ((2, dB (decide ((0 : Int) ≤ n) && decide (n ≤ (100 : Int)))) :: [(1, dP g1 0)]) ⟨sc rfl (Cv.eq (congrArg (fun b => D.v (.bool b)) (by first | (simp [hc2, hg4]; done) | (simp_all; done) | (simp_all; exact Iff.rfl)))), sk rfl, trivial⟩ hQ3
    · skip
      refine zm (zn rfl (zk (zi ?_)))
      exact zh Tryz.results116 (.cons (zt (zl rfl) (Cv.eq (congrArg (fun b => D.v (.bool b)) (by unfold zcI; rw [if_pos hc2]; simp)))) .nil) rfl HSub.none ⟨rfl, rfl⟩
  · skip
    refine jT rfl (oP rfl (zaq rfl rfl rfl) (oR 1 rfl (oZ rfl ?_)))
    refine jD rfl (fun hc5 => ?_) (fun hc5 => ?_)
    · skip
      refine jS rfl (jk [1] rfl ?_)
      refine zM 2 ((decide ((1 : Int) ≤ n) && decide (n ≤ (2000 : Int)))) [.bx g1 27 (.agg [.s op, .s text, dI n, dI mode, .sh 1 (names.map D.s), .sh 3 (ms.map MatD.d), .sh 7 (kids.map Nd.d)])] (fun _ hQ6 => ?_) ?_
      · skip
        by_cases hg7 : (1 : Int) ≤ n
        · skip
          refine ze rfl (oP rfl (zd rfl zbM rfl) (oP rfl (zg rfl (i := 0) rfl Tryz.isAgg3 rfl) (oP rfl (zai rfl rfl (decide_eq_true hg7)) (oR 1 rfl (oG rfl (zd rfl zbM rfl) (oG rfl (zg rfl (i := 0) rfl Tryz.isAgg3 rfl) (oG rfl (zaX rfl rfl rfl) (oR 2 rfl (zp rfl ?_)))))))))
          exact PD.sub ((2, dB (decide ((1 : Int) ≤ n) && decide (n ≤ (2000 : Int)))) :: [(1, dP g1 0)]) ⟨sc rfl (Cv.eq (congrArg (fun b => D.v (.bool b)) (by first | (simp [hc2, hc5, hg7]; done) | (simp_all; done) | (simp_all; exact Iff.rfl)))), sk rfl, trivial⟩ hQ6
        · skip
          refine ze rfl (oP rfl (zd rfl zbM rfl) (oP rfl (zg rfl (i := 0) rfl Tryz.isAgg3 rfl) (oP rfl (zai rfl rfl (decide_eq_false hg7)) (oR 6 rfl (zp rfl ?_)))))
          exact PD.sub ((2, dB (decide ((1 : Int) ≤ n) && decide (n ≤ (2000 : Int)))) :: [(1, dP g1 0)]) ⟨sc rfl (Cv.eq (congrArg (fun b => D.v (.bool b)) (by first | (simp [hc2, hc5, hg7]; done) | (simp_all; done) | (simp_all; exact Iff.rfl)))), sk rfl, trivial⟩ hQ6
      · skip
        refine zm (zn rfl (zk (zi ?_)))
        exact zh Tryz.results116 (.cons (zt (zl rfl) (Cv.eq (congrArg (fun b => D.v (.bool b)) (by unfold zcI; rw [if_neg hc2, if_pos hc5]; simp)))) .nil) rfl HSub.none ⟨rfl, rfl⟩
    · skip
      refine zq rfl (zA (zm (jT rfl (oR 1 rfl (oZ rfl (zn rfl ?_))))))
      exact zh Tryz.results116 (.cons (zt (zl rfl) (Cv.eq (congrArg (fun b => D.v (.bool b)) (by unfold zcI; rw [if_neg hc2, if_neg hc5])))) .nil) rfl HSub.none ⟨rfl, rfl⟩

theorem asks_c (op text : ByteArray) (n mode : Int) (names : List ByteArray) (ms : List MatD) (kids : List Nd)  :
    CD Tryz.prog 45 [] [.agg [.s op, .s text, dI n, dI mode, .sh 1 (names.map D.s), .sh 3 (ms.map MatD.d), .sh 7 (kids.map Nd.d)]] (isR (zbf op text n mode kids.length).d) := by
  refine zr Tryz.func45 rfl (N := 80) rfl rfl (fun C => ?_)
  refine jk [0] rfl ?_
  refine JD.bd 0 rfl (fun bd0 => ?_)
  have hkl := zdo kids
  refine jT rfl (oE rfl (zbz rfl (CellD.agg)) ?_)
  rintro _ _ ⟨g1, rfl, rfl⟩
  refine oR 1 rfl (oZ rfl (jS rfl (jB rfl (jT rfl (oP rfl (zd rfl zaR rfl) (oP rfl (zg rfl (i := 0) rfl Tryz.isAgg9 rfl) (oP rfl (zaq rfl rfl rfl) (oR 1 rfl (oZ rfl ?_)))))))))
  refine jD rfl (fun hc2 => ?_) (fun hc2 => ?_)
  · skip
    refine jT rfl (oP rfl (zB [0] [.const (.int .i64 1)] (zv := (.agg #[(.int .i64 0)])) rfl rfl (.cons (CellD.v rfl) .nil) (Tryz.runUnderlying143) Tryz.zeroValue143 bd_143 ⟨rfl, trivial⟩ rfl) (oP rfl (zS rfl (fun _ _ => by kernel_rfl)) (oR 1 rfl (oZ rfl (zn rfl (zk (zi ?_)))))))
    have hak : (D.ifc 143 (.agg [dI 1]) : D) = (zbf op text n mode kids.length).d := by unfold zbf; rw [if_pos hc2]; rfl
    exact zh Tryz.results45 (.cons (zt (zl rfl) (Cv.eq hak)) .nil) rfl HSub.none ⟨rfl, rfl⟩
  · skip
    refine jS rfl (jk [1, 2] rfl ?_)
    refine zM 9 ((decide (op = (⟨#[115, 101, 108]⟩ : ByteArray)) && decide ((0 : Int) < n))) [.bx g1 27 (.agg [.s op, .s text, dI n, dI mode, .sh 1 (names.map D.s), .sh 3 (ms.map MatD.d), .sh 7 (kids.map Nd.d)])] (fun _ hQ3 => ?_) ?_
    · skip
      by_cases hg4 : op = (⟨#[115, 101, 108]⟩ : ByteArray)
      · skip
        refine ze rfl (oP rfl (zd rfl zaR rfl) (oP rfl (zg rfl (i := 0) rfl Tryz.isAgg9 rfl) (oP rfl (zaq rfl rfl (decide_eq_true hg4)) (oR 1 rfl (oG rfl (zd rfl zbM rfl) (oG rfl (zg rfl (i := 0) rfl Tryz.isAgg3 rfl) (oG rfl (zas rfl rfl rfl) (oR 2 rfl (zp rfl ?_)))))))))
        exact PD.sub ((9, dB (decide (op = (⟨#[115, 101, 108]⟩ : ByteArray)) && decide ((0 : Int) < n))) :: [(1, dP g1 0), (2, .v .nilIface)]) ⟨sc rfl (Cv.eq (congrArg (fun b => D.v (.bool b)) (by first | (simp [hc2, hg4]; done) | (simp_all; done) | (simp_all; exact Iff.rfl)))), sk rfl, sk rfl, trivial⟩ hQ3
      · skip
        refine ze rfl (oP rfl (zd rfl zaR rfl) (oP rfl (zg rfl (i := 0) rfl Tryz.isAgg9 rfl) (oP rfl (zaq rfl rfl (decide_eq_false hg4)) (oR 6 rfl (zp rfl ?_)))))
        exact PD.sub ((9, dB (decide (op = (⟨#[115, 101, 108]⟩ : ByteArray)) && decide ((0 : Int) < n))) :: [(1, dP g1 0), (2, .v .nilIface)]) ⟨sc rfl (Cv.eq (congrArg (fun b => D.v (.bool b)) (by first | (simp [hc2, hg4]; done) | (simp_all; done) | (simp_all; exact Iff.rfl)))), sk rfl, sk rfl, trivial⟩ hQ3
    · skip
      refine zm ?_
      refine jC rfl (fun hc5 => ?_) (fun hc5 => ?_)
      · simp only [bA, bB, bC, bD, bE, bF, bG, bH, bI, bJ] at hc5
        refine jT rfl (oP rfl (zB [0] [.const (.int .i64 3)] (zv := (.agg #[(.int .i64 0)])) rfl rfl (.cons (CellD.v rfl) .nil) (Tryz.runUnderlying143) Tryz.zeroValue143 bd_143 ⟨rfl, trivial⟩ rfl) (oP rfl (zS rfl (fun _ _ => by kernel_rfl)) (oR 1 rfl (oZ rfl (zn rfl (zk (zi ?_)))))))
        have hak : (D.ifc 143 (.agg [dI 3]) : D) = (zbf op text n mode kids.length).d := by unfold zbf; rw [if_neg hc2, if_pos hc5]; rfl
        exact zh Tryz.results45 (.cons (zt (zl rfl) (Cv.eq hak)) .nil) rfl HSub.none ⟨rfl, rfl⟩
      · simp only [bA, bB, bC, bD, bE, bF, bG, bH, bI, bJ] at hc5
        refine jT rfl (oP rfl (zd rfl zaR rfl) (oP rfl (zg rfl (i := 0) rfl Tryz.isAgg9 rfl) (oP rfl (zaq rfl rfl rfl) (oR 1 rfl (oZ rfl ?_)))))
        refine jD rfl (fun hc6 => ?_) (fun hc6 => ?_)
        · skip
          refine jT rfl (oP rfl (zB [0] [.const (.int .i64 2)] (zv := (.agg #[(.int .i64 0)])) rfl rfl (.cons (CellD.v rfl) .nil) (Tryz.runUnderlying143) Tryz.zeroValue143 bd_143 ⟨rfl, trivial⟩ rfl) (oP rfl (zS rfl (fun _ _ => by kernel_rfl)) (oR 1 rfl (oZ rfl (zn rfl (zk (zi ?_)))))))
          have hak : (D.ifc 143 (.agg [dI 2]) : D) = (zbf op text n mode kids.length).d := by unfold zbf; rw [if_neg hc2, if_neg (fun e => by have h := hc5; rcases h with h | h; exact h e.1; exact h e.2), if_pos hc6]; rfl
          exact zh Tryz.results45 (.cons (zt (zl rfl) (Cv.eq hak)) .nil) rfl HSub.none ⟨rfl, rfl⟩
        · skip
          refine jS rfl (jk [1, 2] rfl ?_)
          refine zM 26 ((decide (op = (⟨#[102, 110]⟩ : ByteArray)) && decide (((kids.length : Nat) : Int) = (1 : Int)))) [.bx g1 27 (.agg [.s op, .s text, dI n, dI mode, .sh 1 (names.map D.s), .sh 3 (ms.map MatD.d), .sh 7 (kids.map Nd.d)])] (fun _ hQ7 => ?_) ?_
          · skip
            by_cases hg8 : op = (⟨#[102, 110]⟩ : ByteArray)
            · skip
              refine ze rfl (oP rfl (zd rfl zaR rfl) (oP rfl (zg rfl (i := 0) rfl Tryz.isAgg9 rfl) (oP rfl (zaq rfl rfl (decide_eq_true hg8)) (oR 1 rfl (oG rfl (zd rfl zbL rfl) (oG rfl (zg rfl (i := 0) rfl Tryz.isAgg25 rfl) (oG rfl (zaQ (n := kids.length) rfl Tryz.runUnderlying25 (by simp only [lm, lc, ln])) (oG rfl (zD rfl rfl rfl) (oR 2 rfl (zp rfl ?_))))))))))
              exact PD.sub ((26, dB (decide (op = (⟨#[102, 110]⟩ : ByteArray)) && decide (((kids.length : Nat) : Int) = (1 : Int)))) :: [(1, dP g1 0), (2, .v .nilIface)]) ⟨sc rfl (Cv.eq (congrArg (fun b => D.v (.bool b)) (by first | (simp [hc2, hc6, hg8]; done) | (simp_all; done) | (simp_all; exact Iff.rfl)))), sk rfl, sk rfl, trivial⟩ hQ7
            · skip
              refine ze rfl (oP rfl (zd rfl zaR rfl) (oP rfl (zg rfl (i := 0) rfl Tryz.isAgg9 rfl) (oP rfl (zaq rfl rfl (decide_eq_false hg8)) (oR 7 rfl (zp rfl ?_)))))
              exact PD.sub ((26, dB (decide (op = (⟨#[102, 110]⟩ : ByteArray)) && decide (((kids.length : Nat) : Int) = (1 : Int)))) :: [(1, dP g1 0), (2, .v .nilIface)]) ⟨sc rfl (Cv.eq (congrArg (fun b => D.v (.bool b)) (by first | (simp [hc2, hc6, hg8]; done) | (simp_all; done) | (simp_all; exact Iff.rfl)))), sk rfl, sk rfl, trivial⟩ hQ7
          · skip
            refine zm ?_
            refine jC rfl (fun hc9 => ?_) (fun hc9 => ?_)
            · simp only [bA, bB, bC, bD, bE, bF, bG, bH, bI, bJ] at hc9
              refine jT rfl (oP rfl (zB [0, 1] [.const (.int .i64 3), .const (.int .i64 2)] (zv := (.agg #[(.int .i64 0), (.int .i64 0)])) rfl rfl (.cons (CellD.v rfl) (.cons (CellD.v rfl) .nil)) (Tryz.runUnderlying146) Tryz.zeroValue146 bd_146 ⟨rfl, rfl, trivial⟩ rfl) (oP rfl (zS rfl (fun _ _ => by kernel_rfl)) (oR 1 rfl (oZ rfl (zn rfl (zk (zi ?_)))))))
              have hak : (D.ifc 146 (.agg [dI 3, dI 2]) : D) = (zbf op text n mode kids.length).d := by unfold zbf; rw [if_neg hc2, if_neg (fun e => by have h := hc5; rcases h with h | h; exact h e.1; exact h e.2), if_neg hc6, if_pos ⟨hc9.1, by have := hc9.2; omega⟩]; rfl
              exact zh Tryz.results45 (.cons (zt (zl rfl) (Cv.eq hak)) .nil) rfl HSub.none ⟨rfl, rfl⟩
            · simp only [bA, bB, bC, bD, bE, bF, bG, bH, bI, bJ] at hc9
              refine jS rfl (jk [1, 2] rfl ?_)
              refine zM 38 (((decide (op = (⟨#[97, 103, 103]⟩ : ByteArray)) && decide (((kids.length : Nat) : Int) = (1 : Int))) && zcI text n)) [.bx g1 27 (.agg [.s op, .s text, dI n, dI mode, .sh 1 (names.map D.s), .sh 3 (ms.map MatD.d), .sh 7 (kids.map Nd.d)])] (fun _ hQ10 => ?_) ?_
              · skip
                by_cases hg11 : op = (⟨#[97, 103, 103]⟩ : ByteArray)
                · skip
                  by_cases hg12 : ((kids.length : Nat) : Int) = (1 : Int)
                  · skip
                    refine ze rfl (oP rfl (zd rfl zaR rfl) (oP rfl (zg rfl (i := 0) rfl Tryz.isAgg9 rfl) (oP rfl (zaq rfl rfl (decide_eq_true hg11)) (oR 1 rfl (oG rfl (zd rfl zbL rfl) (oG rfl (zg rfl (i := 0) rfl Tryz.isAgg25 rfl) (oG rfl (zaQ (n := kids.length) rfl Tryz.runUnderlying25 (by simp only [lm, lc, ln])) (oG rfl (zD rfl rfl (decide_eq_true hg12)) (oR 2 rfl (oG rfl (zz (d := .agg [.s op, .s text, dI n, dI mode, .sh 1 (names.map D.s), .sh 3 (ms.map MatD.d), .sh 7 (kids.map Nd.d)]) rfl (i := 0) rfl Tryz.isAgg27 Tryz.sizeOf27 rfl rfl) (oV rfl rfl acs Tryz.call116 (right_c op text n mode names ms kids ) (oR 2 rfl (zp rfl ?_)))))))))))))
                    exact PD.sub ((38, dB ((decide (op = (⟨#[97, 103, 103]⟩ : ByteArray)) && decide (((kids.length : Nat) : Int) = (1 : Int))) && zcI text n)) :: [(1, dP g1 0), (2, .v .nilIface)]) ⟨sc rfl (Cv.eq (congrArg (fun b => D.v (.bool b)) (by first | (simp [hc2, hc6, hg11, hg12]; done) | (simp_all; done) | (simp_all; exact Iff.rfl)))), sk rfl, sk rfl, trivial⟩ hQ10
                  · skip
                    refine ze rfl (oP rfl (zd rfl zaR rfl) (oP rfl (zg rfl (i := 0) rfl Tryz.isAgg9 rfl) (oP rfl (zaq rfl rfl (decide_eq_true hg11)) (oR 1 rfl (oG rfl (zd rfl zbL rfl) (oG rfl (zg rfl (i := 0) rfl Tryz.isAgg25 rfl) (oG rfl (zaQ (n := kids.length) rfl Tryz.runUnderlying25 (by simp only [lm, lc, ln])) (oG rfl (zD rfl rfl (decide_eq_false hg12)) (oR 6 rfl (zp rfl ?_))))))))))
                    exact PD.sub ((38, dB ((decide (op = (⟨#[97, 103, 103]⟩ : ByteArray)) && decide (((kids.length : Nat) : Int) = (1 : Int))) && zcI text n)) :: [(1, dP g1 0), (2, .v .nilIface)]) ⟨sc rfl (Cv.eq (congrArg (fun b => D.v (.bool b)) (by first | (simp [hc2, hc6, hg11, hg12]; done) | (simp_all; done) | (simp_all; exact Iff.rfl)))), sk rfl, sk rfl, trivial⟩ hQ10
                · skip
                  refine ze rfl (oP rfl (zd rfl zaR rfl) (oP rfl (zg rfl (i := 0) rfl Tryz.isAgg9 rfl) (oP rfl (zaq rfl rfl (decide_eq_false hg11)) (oR 11 rfl (zp rfl ?_)))))
                  exact PD.sub ((38, dB ((decide (op = (⟨#[97, 103, 103]⟩ : ByteArray)) && decide (((kids.length : Nat) : Int) = (1 : Int))) && zcI text n)) :: [(1, dP g1 0), (2, .v .nilIface)]) ⟨sc rfl (Cv.eq (congrArg (fun b => D.v (.bool b)) (by first | (simp [hc2, hc6, hg11]; done) | (simp_all; done) | (simp_all; exact Iff.rfl)))), sk rfl, sk rfl, trivial⟩ hQ10
              · skip
                refine zm ?_
                refine jC rfl (fun hc13 => ?_) (fun hc13 => ?_)
                · simp only [bA, bB, bC, bD, bE, bF, bG, bH, bI, bJ] at hc13
                  refine jT rfl (oP rfl (zB [0, 1] [.const (.int .i64 2), .const (.int .i64 2)] (zv := (.agg #[(.int .i64 0), (.int .i64 0)])) rfl rfl (.cons (CellD.v rfl) (.cons (CellD.v rfl) .nil)) (Tryz.runUnderlying146) Tryz.zeroValue146 bd_146 ⟨rfl, rfl, trivial⟩ rfl) (oP rfl (zS rfl (fun _ _ => by kernel_rfl)) (oR 1 rfl (oZ rfl (zn rfl (zk (zi ?_)))))))
                  have hak : (D.ifc 146 (.agg [dI 2, dI 2]) : D) = (zbf op text n mode kids.length).d := by unfold zbf; rw [if_neg hc2, if_neg (fun e => by have h := hc5; rcases h with h | h; exact h e.1; exact h e.2), if_neg hc6, if_neg (fun e => by have h := hc9; rcases h with h | h; exact h e.1; (have := e.2; omega)), if_pos ⟨hc13.1.1, by have := hc13.1.2; omega, hc13.2⟩]; rfl
                  exact zh Tryz.results45 (.cons (zt (zl rfl) (Cv.eq hak)) .nil) rfl HSub.none ⟨rfl, rfl⟩
                · simp only [bA, bB, bC, bD, bE, bF, bG, bH, bI, bJ] at hc13
                  refine jS rfl (jk [1, 2] rfl ?_)
                  refine zM 54 ((decide (op = (⟨#[110, 101, 103]⟩ : ByteArray)) && decide (((kids.length : Nat) : Int) = (1 : Int)))) [.bx g1 27 (.agg [.s op, .s text, dI n, dI mode, .sh 1 (names.map D.s), .sh 3 (ms.map MatD.d), .sh 7 (kids.map Nd.d)])] (fun _ hQ14 => ?_) ?_
                  · skip
                    by_cases hg15 : op = (⟨#[110, 101, 103]⟩ : ByteArray)
                    · skip
                      refine ze rfl (oP rfl (zd rfl zaR rfl) (oP rfl (zg rfl (i := 0) rfl Tryz.isAgg9 rfl) (oP rfl (zaq rfl rfl (decide_eq_true hg15)) (oR 1 rfl (oG rfl (zd rfl zbL rfl) (oG rfl (zg rfl (i := 0) rfl Tryz.isAgg25 rfl) (oG rfl (zaQ (n := kids.length) rfl Tryz.runUnderlying25 (by simp only [lm, lc, ln])) (oG rfl (zD rfl rfl rfl) (oR 2 rfl (zp rfl ?_))))))))))
                      exact PD.sub ((54, dB (decide (op = (⟨#[110, 101, 103]⟩ : ByteArray)) && decide (((kids.length : Nat) : Int) = (1 : Int)))) :: [(1, dP g1 0), (2, .v .nilIface)]) ⟨sc rfl (Cv.eq (congrArg (fun b => D.v (.bool b)) (by first | (simp [hc2, hc6, hg15]; done) | (simp_all; done) | (simp_all; exact Iff.rfl)))), sk rfl, sk rfl, trivial⟩ hQ14
                    · skip
                      refine ze rfl (oP rfl (zd rfl zaR rfl) (oP rfl (zg rfl (i := 0) rfl Tryz.isAgg9 rfl) (oP rfl (zaq rfl rfl (decide_eq_false hg15)) (oR 7 rfl (zp rfl ?_)))))
                      exact PD.sub ((54, dB (decide (op = (⟨#[110, 101, 103]⟩ : ByteArray)) && decide (((kids.length : Nat) : Int) = (1 : Int)))) :: [(1, dP g1 0), (2, .v .nilIface)]) ⟨sc rfl (Cv.eq (congrArg (fun b => D.v (.bool b)) (by first | (simp [hc2, hc6, hg15]; done) | (simp_all; done) | (simp_all; exact Iff.rfl)))), sk rfl, sk rfl, trivial⟩ hQ14
                  · skip
                    refine zm ?_
                    refine jC rfl (fun hc16 => ?_) (fun hc16 => ?_)
                    · simp only [bA, bB, bC, bD, bE, bF, bG, bH, bI, bJ] at hc16
                      refine jT rfl (oP rfl (zB [] [] (zv := (.agg #[])) rfl rfl (.nil) (Tryz.runUnderlying153) Tryz.zeroValue153 bd_153 trivial rfl) (oP rfl (zS rfl (fun _ _ => by kernel_rfl)) (oR 1 rfl (oZ rfl (zn rfl (zk (zi ?_)))))))
                      have hak : (D.ifc 153 (.agg []) : D) = (zbf op text n mode kids.length).d := by unfold zbf; rw [if_neg hc2, if_neg (fun e => by have h := hc5; rcases h with h | h; exact h e.1; exact h e.2), if_neg hc6, if_neg (fun e => by have h := hc9; rcases h with h | h; exact h e.1; (have := e.2; omega)), if_neg (fun e => by have h := hc13; rcases h with (h | h) | h; exact h e.1; (have := e.2.1; omega); (rw [e.2.2] at h; cases h)), if_pos ⟨hc16.1, by have := hc16.2; omega⟩]; rfl
                      exact zh Tryz.results45 (.cons (zt (zl rfl) (Cv.eq hak)) .nil) rfl HSub.none ⟨rfl, rfl⟩
                    · simp only [bA, bB, bC, bD, bE, bF, bG, bH, bI, bJ] at hc16
                      refine jS rfl (jk [1, 2] rfl ?_)
                      refine zM 66 ((decide (op = (⟨#[98, 105, 110]⟩ : ByteArray)) && decide (((kids.length : Nat) : Int) = (2 : Int)))) [.bx g1 27 (.agg [.s op, .s text, dI n, dI mode, .sh 1 (names.map D.s), .sh 3 (ms.map MatD.d), .sh 7 (kids.map Nd.d)])] (fun _ hQ17 => ?_) ?_
                      · skip
                        by_cases hg18 : op = (⟨#[98, 105, 110]⟩ : ByteArray)
                        · skip
                          refine ze rfl (oP rfl (zd rfl zaR rfl) (oP rfl (zg rfl (i := 0) rfl Tryz.isAgg9 rfl) (oP rfl (zaq rfl rfl (decide_eq_true hg18)) (oR 1 rfl (oG rfl (zd rfl zbL rfl) (oG rfl (zg rfl (i := 0) rfl Tryz.isAgg25 rfl) (oG rfl (zaQ (n := kids.length) rfl Tryz.runUnderlying25 (by simp only [lm, lc, ln])) (oG rfl (zD rfl rfl rfl) (oR 2 rfl (zp rfl ?_))))))))))
                          exact PD.sub ((66, dB (decide (op = (⟨#[98, 105, 110]⟩ : ByteArray)) && decide (((kids.length : Nat) : Int) = (2 : Int)))) :: [(1, dP g1 0), (2, .v .nilIface)]) ⟨sc rfl (Cv.eq (congrArg (fun b => D.v (.bool b)) (by first | (simp [hc2, hc6, hg18]; done) | (simp_all; done) | (simp_all; exact Iff.rfl)))), sk rfl, sk rfl, trivial⟩ hQ17
                        · skip
                          refine ze rfl (oP rfl (zd rfl zaR rfl) (oP rfl (zg rfl (i := 0) rfl Tryz.isAgg9 rfl) (oP rfl (zaq rfl rfl (decide_eq_false hg18)) (oR 7 rfl (zp rfl ?_)))))
                          exact PD.sub ((66, dB (decide (op = (⟨#[98, 105, 110]⟩ : ByteArray)) && decide (((kids.length : Nat) : Int) = (2 : Int)))) :: [(1, dP g1 0), (2, .v .nilIface)]) ⟨sc rfl (Cv.eq (congrArg (fun b => D.v (.bool b)) (by first | (simp [hc2, hc6, hg18]; done) | (simp_all; done) | (simp_all; exact Iff.rfl)))), sk rfl, sk rfl, trivial⟩ hQ17
                      · skip
                        refine zm ?_
                        refine jC rfl (fun hc19 => ?_) (fun hc19 => ?_)
                        · simp only [bA, bB, bC, bD, bE, bF, bG, bH, bI, bJ] at hc19
                          refine jT rfl (oP rfl (zd rfl fa_27_3 rfl) (oP rfl (zg rfl (i := 0) rfl Tryz.isAgg3 rfl) (oP rfl (zB [0] [.tmp 77] (zv := (.agg #[(.int .i64 0)])) rfl rfl (.cons (CellD.v rfl) .nil) (Tryz.runUnderlying149) Tryz.zeroValue149 bd_149 ⟨rfl, trivial⟩ rfl) (oP rfl (zS rfl (fun _ _ => by kernel_rfl)) (oR 1 rfl (oZ rfl (zn rfl (zk (zi ?_)))))))))
                          have hak : (D.ifc 149 (.agg [dI mode]) : D) = (zbf op text n mode kids.length).d := by unfold zbf; rw [if_neg hc2, if_neg (fun e => by have h := hc5; rcases h with h | h; exact h e.1; exact h e.2), if_neg hc6, if_neg (fun e => by have h := hc9; rcases h with h | h; exact h e.1; (have := e.2; omega)), if_neg (fun e => by have h := hc13; rcases h with (h | h) | h; exact h e.1; (have := e.2.1; omega); (rw [e.2.2] at h; cases h)), if_neg (fun e => by have h := hc16; rcases h with h | h; exact h e.1; (have := e.2; omega)), if_pos ⟨hc19.1, by have := hc19.2; omega⟩]; rfl
                          exact zh Tryz.results45 (.cons (zt (zl rfl) (Cv.eq hak)) .nil) rfl HSub.none ⟨rfl, rfl⟩
                        · simp only [bA, bB, bC, bD, bE, bF, bG, bH, bI, bJ] at hc19
                          refine zq rfl (zA (zm (jT rfl (oR 1 rfl (oZ rfl (zn rfl ?_))))))
                          have hak : (D.v .nilIface : D) = (zbf op text n mode kids.length).d := by unfold zbf; rw [if_neg hc2, if_neg (fun e => by have h := hc5; rcases h with h | h; exact h e.1; exact h e.2), if_neg hc6, if_neg (fun e => by have h := hc9; rcases h with h | h; exact h e.1; (have := e.2; omega)), if_neg (fun e => by have h := hc13; rcases h with (h | h) | h; exact h e.1; (have := e.2.1; omega); (rw [e.2.2] at h; cases h)), if_neg (fun e => by have h := hc16; rcases h with h | h; exact h e.1; (have := e.2; omega)), if_neg (fun e => by have h := hc19; rcases h with h | h; exact h e.1; (have := e.2; omega))]; rfl
                          exact zh Tryz.results45 (.cons (zt (zl rfl) (Cv.eq hak)) .nil) rfl HSub.none ⟨rfl, rfl⟩

theorem pairof_c (m a b : Int)  :
    CD Tryz.prog 115 [] [.agg [dI m], dI a, dI b] (isR (dI (zd4 m a b))) := by
  refine zr Tryz.func115 rfl (N := 28) rfl rfl (fun C => ?_)
  refine jk [0, 1, 2] rfl ?_
  refine JD.bd 0 rfl (fun bd0 => ?_)
  refine jT rfl (oE rfl (zbz rfl (CellD.agg)) ?_)
  rintro _ _ ⟨g1, rfl, rfl⟩
  refine oR 1 rfl (oZ rfl (jS rfl (jB rfl (jS rfl (jk [1, 2, 3, 6] rfl ?_)))))
  refine zM 7 ((decide (a = (3 : Int)) || decide (b = (3 : Int)))) [.bx g1 149 (.agg [dI m])] (fun _ hQ2 => ?_) ?_
  · skip
    by_cases hg3 : a = (3 : Int)
    · skip
      refine ze rfl (oR 1 rfl (oP rfl (zD rfl rfl (decide_eq_true hg3)) (oR 5 rfl (zp rfl ?_))))
      exact PD.sub ((7, dB (decide (a = (3 : Int)) || decide (b = (3 : Int)))) :: [(1, dI a), (2, dI b), (3, dP g1 0), (6, dI 0)]) ⟨sc rfl (Cv.eq (congrArg (fun b => D.v (.bool b)) (by first | (simp [hg3]; done) | (simp_all; done) | (simp_all; exact Iff.rfl)))), sk rfl, sk rfl, sk rfl, sk rfl, trivial⟩ hQ2
    · skip
      refine ze rfl (oR 1 rfl (oP rfl (zD rfl rfl (decide_eq_false hg3)) (oR 2 rfl (oG rfl (zD rfl rfl rfl) (oR 2 rfl (zp rfl ?_))))))
      exact PD.sub ((7, dB (decide (a = (3 : Int)) || decide (b = (3 : Int)))) :: [(1, dI a), (2, dI b), (3, dP g1 0), (6, dI 0)]) ⟨sc rfl (Cv.eq (congrArg (fun b => D.v (.bool b)) (by first | (simp [hg3]; done) | (simp_all; done) | (simp_all; exact Iff.rfl)))), sk rfl, sk rfl, sk rfl, sk rfl, trivial⟩ hQ2
  · skip
    refine zm ?_
    refine jC rfl (fun hc4 => ?_) (fun hc4 => ?_)
    · simp only [bA, bB, bC, bD, bE, bF, bG, bH, bI, bJ] at hc4
      refine jT rfl (oR 1 rfl (oZ rfl (zn rfl (zk (zi ?_)))))
      exact zh Tryz.results115 (.cons (zt (zl rfl) (Cv.eq (congrArg (fun n => D.v (.int .i64 n)) (by unfold zd4; rw [if_pos hc4])))) .nil) rfl HSub.none ⟨rfl, rfl⟩
    · simp only [bA, bB, bC, bD, bE, bF, bG, bH, bI, bJ] at hc4
      refine jS rfl (jk [1, 2, 3, 6] rfl ?_)
      refine zM 14 ((decide (a = (2 : Int)) && decide (b = (2 : Int)))) [.bx g1 149 (.agg [dI m])] (fun _ hQ5 => ?_) ?_
      · skip
        by_cases hg6 : a = (2 : Int)
        · skip
          refine ze rfl (oR 1 rfl (oP rfl (zD rfl rfl (decide_eq_true hg6)) (oR 2 rfl (oG rfl (zD rfl rfl rfl) (oR 2 rfl (zp rfl ?_))))))
          exact PD.sub ((14, dB (decide (a = (2 : Int)) && decide (b = (2 : Int)))) :: [(1, dI a), (2, dI b), (3, dP g1 0), (6, dI 0)]) ⟨sc rfl (Cv.eq (congrArg (fun b => D.v (.bool b)) (by first | (simp [hg6]; done) | (simp_all; done) | (simp_all; exact Iff.rfl)))), sk rfl, sk rfl, sk rfl, sk rfl, trivial⟩ hQ5
        · skip
          refine ze rfl (oR 1 rfl (oP rfl (zD rfl rfl (decide_eq_false hg6)) (oR 5 rfl (zp rfl ?_))))
          exact PD.sub ((14, dB (decide (a = (2 : Int)) && decide (b = (2 : Int)))) :: [(1, dI a), (2, dI b), (3, dP g1 0), (6, dI 0)]) ⟨sc rfl (Cv.eq (congrArg (fun b => D.v (.bool b)) (by first | (simp [hg6]; done) | (simp_all; done) | (simp_all; exact Iff.rfl)))), sk rfl, sk rfl, sk rfl, sk rfl, trivial⟩ hQ5
      · skip
        refine zm ?_
        refine jC rfl (fun hc7 => ?_) (fun hc7 => ?_)
        · simp only [bA, bB, bC, bD, bE, bF, bG, bH, bI, bJ] at hc7
          refine jT rfl (oR 1 rfl (oZ rfl (zn rfl (zk (zi ?_)))))
          exact zh Tryz.results115 (.cons (zt (zl rfl) (Cv.eq (congrArg (fun n => D.v (.int .i64 n)) (by unfold zd4; rw [if_neg (fun e => by have h := hc4; rcases e with e | e; exact h.1 e; exact h.2 e), if_pos hc7])))) .nil) rfl HSub.none ⟨rfl, rfl⟩
        · simp only [bA, bB, bC, bD, bE, bF, bG, bH, bI, bJ] at hc7
          refine jT rfl (oP rfl (zd rfl fa_149_0 rfl) (oP rfl (zg rfl (i := 0) rfl Tryz.isAgg3 rfl) (oP rfl (zbj rfl rfl rfl) (oR 1 rfl (oZ rfl ?_)))))
          refine jD rfl (fun hc8 => ?_) (fun hc8 => ?_)
          · skip
            refine jT rfl (oR 1 rfl (oZ rfl (zn rfl (zk (zi ?_)))))
            exact zh Tryz.results115 (.cons (zt (zl rfl) (Cv.eq (congrArg (fun n => D.v (.int .i64 n)) (by unfold zd4; rw [if_neg (fun e => by have h := hc4; rcases e with e | e; exact h.1 e; exact h.2 e), if_neg (fun e => by have h := hc7; rcases h with h | h; exact h e.1; exact h e.2), if_pos hc8])))) .nil) rfl HSub.none ⟨rfl, rfl⟩
          · skip
            refine zq rfl (zA (zm (jT rfl (oR 2 rfl (oP rfl (p_max rfl rfl rfl) (oR 1 rfl (oZ rfl (jk [6] rfl (zn rfl ?_)))))))))
            exact zh Tryz.results115 (.cons (zt (zl rfl) (Cv.eq (congrArg (fun n => D.v (.int .i64 n)) (by unfold zd4; rw [if_neg (fun e => by have h := hc4; rcases e with e | e; exact h.1 e; exact h.2 e), if_neg (fun e => by have h := hc7; rcases h with h | h; exact h e.1; exact h e.2), if_neg (by simpa using hc8)])))) .nil) rfl HSub.none ⟨rfl, rfl⟩

theorem kof_leaf (k : Int) (l : List Int)  :
    CD Tryz.prog 44 [] [.ifc 143 (.agg [dI k]), .sh 1 (l.map dI)] (isR (dI (Ask.kind (.leaf k) l))) := by
  refine zr Tryz.func44 rfl (N := 64) rfl rfl (fun C => ?_)
  refine jk [0, 1] rfl ?_
  refine JD.bd 1 rfl (fun bd1 => ?_)
  have nl1 := zbB bd1
  refine jT rfl (oR 1 rfl (oZ rfl (jS rfl (jT rfl (oR 1 rfl (oP rfl (zbv rfl (fun _ _ => by kernel_rfl)) (oR 3 rfl (oE rfl (zx (zv := (.agg #[(.int .i64 0)])) Tryz.zeroValue143 ⟨rfl, trivial⟩ (Cv.vagg (by decide))) ?_))))))))
  rintro _ _ ⟨g1, rfl, rfl⟩
  refine oE rfl (zf (i := 0) (X' := .agg [dI k]) rfl rfl rfl (CellD.agg) Tryz.sizeOf143 rfl rfl rfl) ?_
  rintro _ _ ⟨rfl, rfl⟩
  refine on rfl (oR 1 rfl (oZ rfl (jT rfl (oR 1 rfl (oZ rfl (jCt rfl (jT rfl (oP rfl (zd rfl fa_143_0 rfl) (oP rfl (zg rfl (i := 0) rfl Tryz.isAgg3 rfl) (oR 1 rfl (oZ rfl (jk [0, 1, 4] rfl (zn rfl (zi ?_))))))))))))))
  exact zh Tryz.results44 (.cons (zt (zl rfl) (Cv.eq (congrArg (fun n => D.v (.int .i64 n)) (by rfl)))) .nil) rfl HSub.none ⟨rfl, rfl⟩

theorem kof_whole (a b : Int) (l : List Int) (hl : l.length = 1) :
    CD Tryz.prog 44 [] [.ifc 146 (.agg [dI a, dI b]), .sh 1 (l.map dI)] (isR (dI (Ask.kind (.whole a b) l))) := by
  refine zr Tryz.func44 rfl (N := 64) rfl rfl (fun C => ?_)
  refine jk [0, 1] rfl ?_
  refine JD.bd 1 rfl (fun bd1 => ?_)
  have nl1 := zbB bd1
  refine jT rfl (oR 1 rfl (oZ rfl (jS rfl (jT rfl (oR 1 rfl (oP rfl ((zaA (zv := (.agg #[(.int .i64 0)])) rfl (fun _ _ => by kernel_rfl)).cv (Cv.tup (.cons (Cv.vagg (by decide)) (.cons Cv.rfl' .nil)))) (oR 3 rfl (oE rfl (zx (zv := (.agg #[(.int .i64 0)])) Tryz.zeroValue143 ⟨rfl, trivial⟩ (Cv.vagg (by decide))) ?_))))))))
  rintro _ _ ⟨g1, rfl, rfl⟩
  refine oE rfl (zf (i := 0) (X' := .agg [dI 0]) rfl rfl rfl (CellD.agg) Tryz.sizeOf143 rfl rfl rfl) ?_
  rintro _ _ ⟨rfl, rfl⟩
  refine on rfl (oR 1 rfl (oZ rfl (jT rfl (oR 1 rfl (oZ rfl (jCf rfl (zq rfl (zm (jS rfl (jT rfl (oR 1 rfl (oP rfl (zbv rfl (fun _ _ => by kernel_rfl)) (oR 3 rfl (oE rfl (zx (zv := (.agg #[(.int .i64 0), (.int .i64 0)])) Tryz.zeroValue146 ⟨rfl, rfl, trivial⟩ (Cv.vagg (by decide))) ?_))))))))))))))
  rintro _ _ ⟨g2, rfl, rfl⟩
  refine oE rfl (zf (i := 0) (X' := .agg [dI a, dI b]) rfl rfl rfl (CellD.agg) Tryz.sizeOf146 rfl rfl rfl) ?_
  rintro _ _ ⟨rfl, rfl⟩
  refine on rfl (oR 1 rfl (oZ rfl (jk [0, 1, 4, 7, 8] rfl (jT rfl (oR 1 rfl (oZ rfl (jCt rfl (jS rfl (jS rfl (jk [0, 1, 4, 7, 8, 26] rfl (jn rfl ?_)))))))))))
  obtain ⟨x1, hx1⟩ := z7 l 0 (by omega)
  refine zbu 5 [(27, .sh 1 (l.map dI), none), (28, .el (dI x1) 0, none), (29, dI x1, none), (30, dP g2 0, none), (31, dI a, none)] [.bx g2 146 (.agg [dI a, dI b]), .bx g1 143 (.agg [dI 0])] (Hn := [.bx g2 146 (.agg [dI a, dI b]), .bx g1 143 (.agg [dI 0])]) mixed rfl rfl rfl rfl HSub.rfl' rfl ⟨sa_p rfl rfl rfl (zao rfl), sa_p rfl rfl rfl (zK (k := 0) rfl rfl Tryz.runUnderlying55 Tryz.sizeOf3 (by first | rfl | omega) (zV hx1)), sa_p rfl rfl rfl (z1 rfl Tryz.isAgg3 rfl), sa_p rfl rfl rfl (zd rfl fa_146_0 rfl), sa_p rfl rfl rfl (zg rfl (i := 0) rfl Tryz.isAgg3 rfl), trivial⟩ (ok [0, 1, 4, 7, 8, 26, 27, 28, 29, 30, 31] rfl (oP rfl (zbj rfl rfl rfl) (oZ rfl ?_)))
  refine jD rfl (fun hc3 => ?_) (fun hc3 => ?_)
  · skip
    refine jT rfl (oR 1 rfl (oZ rfl (zn rfl (zi (zi ?_)))))
    exact zh Tryz.results44 (.cons (zt (zl rfl) (Cv.eq (congrArg (fun n => D.v (.int .i64 n)) (by show _ = (if l.headD 0 = a then b else 0); rw [hd_0 hx1]; first | rw [if_neg (by simpa using hc3)] | rw [if_pos (by simpa using hc3)])))) .nil) rfl HSub.none ⟨rfl, rfl⟩
  · skip
    refine zq rfl (zm (jT rfl (oP rfl (zd rfl fa_146_1 rfl) (oP rfl (zg rfl (i := 0) rfl Tryz.isAgg3 rfl) (oR 1 rfl (oZ rfl (jk [0, 1, 4] rfl (zn rfl (zi ?_)))))))))
    exact zh Tryz.results44 (.cons (zt (zl rfl) (Cv.eq (congrArg (fun n => D.v (.int .i64 n)) (by show _ = (if l.headD 0 = a then b else 0); rw [hd_0 hx1]; first | rw [if_neg (by simpa using hc3)] | rw [if_pos (by simpa using hc3)])))) .nil) rfl HSub.none ⟨rfl, rfl⟩

theorem kof_plain  (l : List Int) (hl : l.length = 1) :
    CD Tryz.prog 44 [] [.ifc 153 (.agg []), .sh 1 (l.map dI)] (isR (dI (Ask.kind (.plain) l))) := by
  refine zr Tryz.func44 rfl (N := 64) rfl rfl (fun C => ?_)
  refine jk [0, 1] rfl ?_
  refine JD.bd 1 rfl (fun bd1 => ?_)
  have nl1 := zbB bd1
  obtain ⟨x1, hx1⟩ := z7 l 0 (by omega)
  refine jT rfl (oR 1 rfl (oZ rfl (jS rfl (jT rfl (oR 1 rfl (oP rfl ((zaA (zv := (.agg #[(.int .i64 0)])) rfl (fun _ _ => by kernel_rfl)).cv (Cv.tup (.cons (Cv.vagg (by decide)) (.cons Cv.rfl' .nil)))) (oR 3 rfl (oE rfl (zx (zv := (.agg #[(.int .i64 0)])) Tryz.zeroValue143 ⟨rfl, trivial⟩ (Cv.vagg (by decide))) ?_))))))))
  rintro _ _ ⟨g1, rfl, rfl⟩
  refine oE rfl (zf (i := 0) (X' := .agg [dI 0]) rfl rfl rfl (CellD.agg) Tryz.sizeOf143 rfl rfl rfl) ?_
  rintro _ _ ⟨rfl, rfl⟩
  refine on rfl (oR 1 rfl (oZ rfl (jT rfl (oR 1 rfl (oZ rfl (jCf rfl (zq rfl (zm (jS rfl (jT rfl (oR 1 rfl (oP rfl ((zaA (zv := (.agg #[(.int .i64 0), (.int .i64 0)])) rfl (fun _ _ => by kernel_rfl)).cv (Cv.tup (.cons (Cv.vagg (by decide)) (.cons Cv.rfl' .nil)))) (oR 3 rfl (oE rfl (zx (zv := (.agg #[(.int .i64 0), (.int .i64 0)])) Tryz.zeroValue146 ⟨rfl, rfl, trivial⟩ (Cv.vagg (by decide))) ?_))))))))))))))
  rintro _ _ ⟨g2, rfl, rfl⟩
  refine oE rfl (zf (i := 0) (X' := .agg [dI 0, dI 0]) rfl rfl rfl (CellD.agg) Tryz.sizeOf146 rfl rfl rfl) ?_
  rintro _ _ ⟨rfl, rfl⟩
  refine on rfl (oR 1 rfl (oZ rfl (jk [0, 1, 4, 7, 8] rfl (jT rfl (oR 1 rfl (oZ rfl (jCf rfl (zq rfl (zm (jS rfl (jT rfl (oR 1 rfl (oP rfl ((zaA (zv := (.agg #[(.int .i64 0)])) rfl (fun _ _ => by kernel_rfl)).cv (Cv.tup (.cons (Cv.vagg (by decide)) (.cons Cv.rfl' .nil)))) (oR 3 rfl (oE rfl (zx (zv := (.agg #[(.int .i64 0)])) Tryz.zeroValue149 ⟨rfl, trivial⟩ (Cv.vagg (by decide))) ?_)))))))))))))))
  rintro _ _ ⟨g3, rfl, rfl⟩
  refine oE rfl (zf (i := 0) (X' := .agg [dI 0]) rfl rfl rfl (CellD.agg) Tryz.sizeOf149 rfl rfl rfl) ?_
  rintro _ _ ⟨rfl, rfl⟩
  refine on rfl (oR 1 rfl (oZ rfl (jT rfl (oR 1 rfl (oZ rfl (jk [0, 1, 4, 9, 40] rfl (jCf rfl (zq rfl (zm (jS rfl (jT rfl (oR 1 rfl (oP rfl (zbv rfl (fun _ _ => by kernel_rfl)) (oR 3 rfl (oE rfl (zx (zv := (.agg #[])) Tryz.zeroValue153 trivial (Cv.vagg (by decide))) ?_)))))))))))))))
  rintro _ _ ⟨g4, rfl, rfl⟩
  refine oE rfl (zf (i := 0) (X' := .agg []) rfl rfl rfl (CellD.agg) Tryz.sizeOf153 rfl rfl rfl) ?_
  rintro _ _ ⟨rfl, rfl⟩
  refine on rfl (oR 1 rfl (oZ rfl (jk [1, 4, 12] rfl (jS rfl (jk [1, 4, 12] rfl ?_)))))
  refine zM 60 (decide (x1 ≠ (3 : Int))) [.bx g4 153 (.agg []), .bx g3 149 (.agg [dI 0]), .bx g2 146 (.agg [dI 0, dI 0]), .bx g1 143 (.agg [dI 0])] (fun _ hQ5 => ?_) ?_
  · skip
    refine ze rfl (oR 3 rfl (oG rfl (zK (k := 0) rfl rfl Tryz.runUnderlying55 Tryz.sizeOf3 (by first | rfl | omega) (zV hx1)) (oG rfl (z1 rfl Tryz.isAgg3 rfl) (oG rfl (zbj rfl rfl rfl) (oR 1 rfl (zp rfl ?_))))))
    exact PD.sub ((60, dB (decide (x1 ≠ (3 : Int)))) :: [(1, .sh 1 (l.map dI)), (4, dI 0), (12, dB true)]) ⟨sc rfl (Cv.eq (congrArg (fun b => D.v (.bool b)) (by first | (simp []; done) | (simp_all; done)))), sk rfl, sk rfl, sk rfl, trivial⟩ hQ5
  · skip
    refine zm ?_
    refine jD rfl (fun hc6 => ?_) (fun hc6 => ?_)
    · skip
      refine jT rfl (oR 1 rfl (oP rfl (zK (k := 0) rfl rfl Tryz.runUnderlying55 Tryz.sizeOf3 (by first | rfl | omega) (zV hx1)) (oP rfl (z1 rfl Tryz.isAgg3 rfl) (oR 1 rfl (oZ rfl (zn rfl (zi ?_)))))))
      exact zh Tryz.results44 (.cons (zt (zl rfl) (Cv.eq (congrArg (fun n => D.v (.int .i64 n)) (by show _ = (if l.headD 0 = 3 then 0 else l.headD 0); first | (rw [hd_0 hx1]; first | rw [if_neg (by simpa using hc6)] | rw [if_pos (by simpa using hc6)]))))) .nil) rfl HSub.none ⟨rfl, rfl⟩
    · skip
      refine zq rfl (zm (jT rfl (oR 1 rfl (oZ rfl (zn rfl ?_)))))
      exact zh Tryz.results44 (.cons (zt (zl rfl) (Cv.eq (congrArg (fun n => D.v (.int .i64 n)) (by show _ = (if l.headD 0 = 3 then 0 else l.headD 0); first | (rw [hd_0 hx1]; first | rw [if_neg (by simpa using hc6)] | rw [if_pos (by simpa using hc6)]))))) .nil) rfl HSub.none ⟨rfl, rfl⟩

theorem kof_pair (m : Int) (l : List Int) (hl : l.length = 2) :
    CD Tryz.prog 44 [] [.ifc 149 (.agg [dI m]), .sh 1 (l.map dI)] (isR (dI (Ask.kind (.pair m) l))) := by
  refine zr Tryz.func44 rfl (N := 64) rfl rfl (fun C => ?_)
  refine jk [0, 1] rfl ?_
  refine JD.bd 1 rfl (fun bd1 => ?_)
  have nl1 := zbB bd1
  refine jT rfl (oR 1 rfl (oZ rfl (jS rfl (jT rfl (oR 1 rfl (oP rfl ((zaA (zv := (.agg #[(.int .i64 0)])) rfl (fun _ _ => by kernel_rfl)).cv (Cv.tup (.cons (Cv.vagg (by decide)) (.cons Cv.rfl' .nil)))) (oR 3 rfl (oE rfl (zx (zv := (.agg #[(.int .i64 0)])) Tryz.zeroValue143 ⟨rfl, trivial⟩ (Cv.vagg (by decide))) ?_))))))))
  rintro _ _ ⟨g1, rfl, rfl⟩
  refine oE rfl (zf (i := 0) (X' := .agg [dI 0]) rfl rfl rfl (CellD.agg) Tryz.sizeOf143 rfl rfl rfl) ?_
  rintro _ _ ⟨rfl, rfl⟩
  refine on rfl (oR 1 rfl (oZ rfl (jT rfl (oR 1 rfl (oZ rfl (jCf rfl (zq rfl (zm (jS rfl (jT rfl (oR 1 rfl (oP rfl ((zaA (zv := (.agg #[(.int .i64 0), (.int .i64 0)])) rfl (fun _ _ => by kernel_rfl)).cv (Cv.tup (.cons (Cv.vagg (by decide)) (.cons Cv.rfl' .nil)))) (oR 3 rfl (oE rfl (zx (zv := (.agg #[(.int .i64 0), (.int .i64 0)])) Tryz.zeroValue146 ⟨rfl, rfl, trivial⟩ (Cv.vagg (by decide))) ?_))))))))))))))
  rintro _ _ ⟨g2, rfl, rfl⟩
  refine oE rfl (zf (i := 0) (X' := .agg [dI 0, dI 0]) rfl rfl rfl (CellD.agg) Tryz.sizeOf146 rfl rfl rfl) ?_
  rintro _ _ ⟨rfl, rfl⟩
  refine on rfl (oR 1 rfl (oZ rfl (jk [0, 1, 4, 7, 8] rfl (jT rfl (oR 1 rfl (oZ rfl (jCf rfl (zq rfl (zm (jS rfl (jT rfl (oR 1 rfl (oP rfl (zbv rfl (fun _ _ => by kernel_rfl)) (oR 3 rfl (oE rfl (zx (zv := (.agg #[(.int .i64 0)])) Tryz.zeroValue149 ⟨rfl, trivial⟩ (Cv.vagg (by decide))) ?_)))))))))))))))
  rintro _ _ ⟨g3, rfl, rfl⟩
  refine oE rfl (zf (i := 0) (X' := .agg [dI m]) rfl rfl rfl (CellD.agg) Tryz.sizeOf149 rfl rfl rfl) ?_
  rintro _ _ ⟨rfl, rfl⟩
  refine on rfl (oR 1 rfl (oZ rfl (jT rfl (oR 1 rfl (oZ rfl (jk [0, 1, 4, 9, 40] rfl (jCt rfl (jS rfl (jk [0, 1, 4, 9, 40] rfl (jn rfl ?_))))))))))
  obtain ⟨x1, hx1⟩ := z7 l 0 (by omega)
  obtain ⟨x2, hx2⟩ := z7 l 1 (by omega)
  refine zbu 7 [(41, .agg [dI m], none), (42, .sh 1 (l.map dI), none), (43, .el (dI x1) 0, none), (44, dI x1, none), (45, .sh 1 (l.map dI), none), (46, .el (dI x2) 0, none), (47, dI x2, none)] [.bx g3 149 (.agg [dI m]), .bx g2 146 (.agg [dI 0, dI 0]), .bx g1 143 (.agg [dI 0])] (Hn := [.bx g3 149 (.agg [dI m]), .bx g2 146 (.agg [dI 0, dI 0]), .bx g1 143 (.agg [dI 0])]) mixed rfl rfl rfl rfl HSub.rfl' rfl ⟨sa_p rfl rfl rfl (zz (d := .agg [dI m]) rfl (i := 0) rfl Tryz.isAgg149 Tryz.sizeOf149 rfl rfl), sa_p rfl rfl rfl (zao rfl), sa_p rfl rfl rfl (zK (k := 0) rfl rfl Tryz.runUnderlying55 Tryz.sizeOf3 (by first | rfl | omega) (zV hx1)), sa_p rfl rfl rfl (z1 rfl Tryz.isAgg3 rfl), sa_p rfl rfl rfl (zao rfl), sa_p rfl rfl rfl (zK (k := 1) rfl rfl Tryz.runUnderlying55 Tryz.sizeOf3 (by first | rfl | omega) (zV hx2)), sa_p rfl rfl rfl (z1 rfl Tryz.isAgg3 rfl), trivial⟩ (ok [0, 1, 4, 9, 40, 41, 42, 43, 44, 45, 46, 47] rfl (oW rfl rfl acs Tryz.call115 (pairof_c m x1 x2) (oR 1 rfl (oZ rfl (jk [0, 1, 4] rfl (zn rfl (zi ?_)))))))
  exact zh Tryz.results44 (.cons (zt (zl rfl) (Cv.eq (congrArg (fun n => D.v (.int .i64 n)) (by show _ = zd4 m (l.headD 0) (l.tail.headD 0); rw [hd_0 hx1, hd_1 hx2])))) .nil) rfl HSub.none ⟨rfl, rfl⟩

theorem kof_none  (l : List Int)  :
    CD Tryz.prog 44 [] [.v .nilIface, .sh 1 (l.map dI)] (isR (dI (Ask.kind (.none) l))) := by
  refine zr Tryz.func44 rfl (N := 64) rfl rfl (fun C => ?_)
  refine jk [0, 1] rfl ?_
  refine JD.bd 1 rfl (fun bd1 => ?_)
  have nl1 := zbB bd1
  refine jT rfl (oR 1 rfl (oZ rfl (jS rfl (jT rfl (oR 1 rfl (oP rfl ((p_assert_n (zv := (.agg #[(.int .i64 0)])) rfl (fun _ => by kernel_rfl)).cv (Cv.tup (.cons (Cv.vagg (by decide)) (.cons Cv.rfl' .nil)))) (oR 3 rfl (oE rfl (zx (zv := (.agg #[(.int .i64 0)])) Tryz.zeroValue143 ⟨rfl, trivial⟩ (Cv.vagg (by decide))) ?_))))))))
  rintro _ _ ⟨g1, rfl, rfl⟩
  refine oE rfl (zf (i := 0) (X' := .agg [dI 0]) rfl rfl rfl (CellD.agg) Tryz.sizeOf143 rfl rfl rfl) ?_
  rintro _ _ ⟨rfl, rfl⟩
  refine on rfl (oR 1 rfl (oZ rfl (jT rfl (oR 1 rfl (oZ rfl (jCf rfl (zq rfl (zm (jS rfl (jT rfl (oR 1 rfl (oP rfl ((p_assert_n (zv := (.agg #[(.int .i64 0), (.int .i64 0)])) rfl (fun _ => by kernel_rfl)).cv (Cv.tup (.cons (Cv.vagg (by decide)) (.cons Cv.rfl' .nil)))) (oR 3 rfl (oE rfl (zx (zv := (.agg #[(.int .i64 0), (.int .i64 0)])) Tryz.zeroValue146 ⟨rfl, rfl, trivial⟩ (Cv.vagg (by decide))) ?_))))))))))))))
  rintro _ _ ⟨g2, rfl, rfl⟩
  refine oE rfl (zf (i := 0) (X' := .agg [dI 0, dI 0]) rfl rfl rfl (CellD.agg) Tryz.sizeOf146 rfl rfl rfl) ?_
  rintro _ _ ⟨rfl, rfl⟩
  refine on rfl (oR 1 rfl (oZ rfl (jk [0, 1, 4, 7, 8] rfl (jT rfl (oR 1 rfl (oZ rfl (jCf rfl (zq rfl (zm (jS rfl (jT rfl (oR 1 rfl (oP rfl ((p_assert_n (zv := (.agg #[(.int .i64 0)])) rfl (fun _ => by kernel_rfl)).cv (Cv.tup (.cons (Cv.vagg (by decide)) (.cons Cv.rfl' .nil)))) (oR 3 rfl (oE rfl (zx (zv := (.agg #[(.int .i64 0)])) Tryz.zeroValue149 ⟨rfl, trivial⟩ (Cv.vagg (by decide))) ?_)))))))))))))))
  rintro _ _ ⟨g3, rfl, rfl⟩
  refine oE rfl (zf (i := 0) (X' := .agg [dI 0]) rfl rfl rfl (CellD.agg) Tryz.sizeOf149 rfl rfl rfl) ?_
  rintro _ _ ⟨rfl, rfl⟩
  refine on rfl (oR 1 rfl (oZ rfl (jT rfl (oR 1 rfl (oZ rfl (jk [0, 1, 4, 9, 40] rfl (jCf rfl (zq rfl (zm (jS rfl (jT rfl (oR 1 rfl (oP rfl ((p_assert_n (zv := (.agg #[])) rfl (fun _ => by kernel_rfl)).cv (Cv.tup (.cons (Cv.vagg (by decide)) (.cons Cv.rfl' .nil)))) (oR 3 rfl (oE rfl (zx (zv := (.agg #[])) Tryz.zeroValue153 trivial (Cv.vagg (by decide))) ?_)))))))))))))))
  rintro _ _ ⟨g4, rfl, rfl⟩
  refine oE rfl (zf (i := 0) (X' := .agg []) rfl rfl rfl (CellD.agg) Tryz.sizeOf153 rfl rfl rfl) ?_
  rintro _ _ ⟨rfl, rfl⟩
  refine on rfl (oR 1 rfl (oZ rfl (jk [1, 4, 12] rfl (jT rfl (oR 7 rfl (oZ rfl (jCf rfl (zq rfl (zm (jk [4] rfl (jT rfl (oR 1 rfl (oZ rfl (zn rfl ?_))))))))))))))
  exact zh Tryz.results44 (.cons (zt (zl rfl) (Cv.eq (congrArg (fun n => D.v (.int .i64 n)) (by rfl)))) .nil) rfl HSub.none ⟨rfl, rfl⟩

theorem kof_c (a : Ask) (l : List Int) (h : a.fits l.length) : CD Tryz.prog 44 [] [a.d, .sh 1 (l.map dI)] (isR (dI (a.kind l))) := by
  cases a with
  | leaf k => exact kof_leaf k l
  | whole a b => exact kof_whole a b l h
  | plain => exact kof_plain l h
  | pair m => exact kof_pair m l h
  | none => exact kof_none l

theorem kids_s (op text : ByteArray) (n mode : Int) (names : List ByteArray) (ms : List MatD) (kids : List Nd) (ih : ∀ x ∈ kids, CD Tryz.prog 15 [] [Nd.d x] (isR (.tup [dI x.kind, dI x.kindE]))) (hc : Nd.cntL kids ≤ 100000) :
    CD Tryz.prog 43 [] [.agg [.s op, .s text, dI n, dI mode, .sh 1 (names.map D.s), .sh 3 (ms.map MatD.d), .sh 7 (kids.map Nd.d)]] (fun r H' => ∃ v0_, r = .tup [.ov v0_, dI (zcK kids)] ∧ H' = [.sl v0_ 1 3 ((zby kids).map dI)]) := by
  refine zr Tryz.func43 rfl (N := 30) rfl rfl (fun C => ?_)
  refine jk [0] rfl ?_
  refine JD.bd 0 rfl (fun bd0 => ?_)
  have hkl := zdo kids
  refine jT rfl (oE rfl (zbz rfl (CellD.agg)) ?_)
  rintro _ _ ⟨g1, rfl, rfl⟩
  refine oR 2 rfl (oZ rfl (jT rfl (oR 1 rfl (oZ rfl (jS rfl (jT rfl (oP rfl (zd rfl zbL rfl) (oP rfl (zg rfl (i := 0) rfl Tryz.isAgg25 rfl) (oP rfl (zaQ (n := kids.length) rfl Tryz.runUnderlying25 (by simp only [lm, lc, ln])) (oR 1 rfl (oZ rfl (jB rfl (jl3 (fun (a_ : Nat) (b_ : Value) (c_ : List Int) => [(10, .sh 7 (kids.map Nd.d)), (11, dN kids.length), (12, dN a_), (4, .ov b_)]) (fun a_ b_ c_ => [.sl b_ 1 3 (c_.map dI), .bx g1 27 (.agg [.s op, .s text, dI n, dI mode, .sh 1 (names.map D.s), .sh 3 (ms.map MatD.d), .sh 7 (kids.map Nd.d)])]) (fun a_ b_ c_ => (a_ ≤ kids.length) ∧ (Nd.kinds (kids.take a_) = some c_) ∧ (c_.length ≤ a_)) (fun a_ b_ c_ => kids.length - a_) 0 (.slice none 0 0) [] rfl ⟨sk rfl, sk rfl, sk rfl, sc rfl (Cv.ov rfl), trivial⟩ (HSub.nil 1 3) ⟨Nat.zero_le _, rfl, Nat.le_refl _⟩ ?_)))))))))))))
  rintro k ov o ⟨hk, hks, hol⟩
  refine ja rfl (jn rfl (jT rfl (oP rfl (zaW rfl rfl rfl) (oZ rfl (jS rfl ?_)))))
  refine jD rfl (fun hc2 => ?_) (fun hc2 => ?_)
  · skip
    refine zq rfl (zm (jS rfl (jB rfl (jT rfl ?_))))
    obtain ⟨x1, hx1⟩ := z7 kids k (by omega)
    obtain ⟨yax1, ybx1, ycx1, ydx1, yex1, yfx1, ygx1⟩ := x1
    have hmcx1 := zc4 (List.mem_of_getElem? hx1)
    refine oP rfl (zK (k := k) rfl rfl Tryz.runUnderlying25 Tryz.sizeOf27 (by first | rfl | omega) (zV hx1)) (oP rfl (zcj (d := .agg [.s yax1, .s ybx1, dI ycx1, dI ydx1, .sh 1 (yex1.map D.s), .sh 3 (yfx1.map MatD.d), .sh 7 (Nd.ds ygx1)]) rfl Tryz.isAgg27 Tryz.sizeOf27 rfl rfl) (oE rfl (zx (zv := (.agg #[(.string ByteArray.empty), (.string ByteArray.empty), (.int .i64 0), (.int .i64 0), (.slice none 0 0), (.slice none 0 0), (.slice none 0 0)])) Tryz.zeroValue27 ⟨rfl, rfl, rfl, rfl, rfl, rfl, rfl, trivial⟩ (Cv.vagg (by decide))) ?_))
    rintro _ _ ⟨g3, rfl, rfl⟩
    refine oE rfl (zf (i := 0) (X' := .agg [.s yax1, .s ybx1, dI ycx1, dI ydx1, .sh 1 (yex1.map D.s), .sh 3 (yfx1.map MatD.d), .sh 7 (Nd.ds ygx1)]) rfl rfl rfl (CellD.agg) Tryz.sizeOf27 rfl rfl rfl) ?_
    rintro _ _ ⟨rfl, rfl⟩
    refine on rfl (oZ rfl (jT rfl (oP rfl (zz (d := .agg [.s yax1, .s ybx1, dI ycx1, dI ydx1, .sh 1 (yex1.map D.s), .sh 3 (yfx1.map MatD.d), .sh 7 (Nd.ds ygx1)]) rfl (i := 0) rfl Tryz.isAgg27 Tryz.sizeOf27 rfl rfl) (oE rfl (zo [] [.bx g3 27 (.agg [.s yax1, .s ybx1, dI ycx1, dI ydx1, .sh 1 (yex1.map D.s), .sh 3 (yfx1.map MatD.d), .sh 7 (Nd.ds ygx1)]), .sl ov 1 3 (o.map dI), .bx g1 27 (.agg [.s op, .s text, dI n, dI mode, .sh 1 (names.map D.s), .sh 3 (ms.map MatD.d), .sh 7 (kids.map Nd.d)])] [] rfl rfl (.cons ArgC.id .nil) zj Tryz.call15 (ih (Nd.mk yax1 ybx1 ycx1 ydx1 yex1 yfx1 ygx1) (List.mem_of_getElem? hx1)) (.inl rfl)) ?_))))
    rintro _ _ ⟨_, ⟨rfl, rfl⟩, rfl⟩
    refine on rfl (oR 5 rfl (oZ rfl (jS rfl (jT rfl (oR 1 rfl (oP rfl (zbj rfl rfl rfl) (oZ rfl ?_)))))))
    refine jD rfl (fun hc4 => ?_) (fun hc4 => ?_)
    · skip
      have hkb : (Nd.mk yax1 ybx1 ycx1 ydx1 yex1 yfx1 ygx1).kind = 0 := by have h := hc4; unfold Nd.kindE at h; split at h; assumption; exact absurd rfl h
      obtain ⟨hr1, hr2⟩ := kinds_no (kinds_bad hx1 hks hkb)
      have hr3 : (Nd.mk yax1 ybx1 ycx1 ydx1 yex1 yfx1 ygx1).kindE = zcK kids := by rw [← hr2]; unfold Nd.kindE; rw [if_pos hkb]
      refine jT rfl (oR 3 rfl (oZ rfl (zn rfl (zi (zk (zi (zac (zk (zi (PD.subH (HSub.nil 1 3) (PD.norm [.sl (.slice none 0 0) 1 3 ((zby kids).map dI), .bx g3 27 (.agg [.s yax1, .s ybx1, dI ycx1, dI ydx1, .sh 1 (yex1.map D.s), .sh 3 (yfx1.map MatD.d), .sh 7 (Nd.ds ygx1)]), .sl ov 1 3 (o.map dI), .bx g1 27 (.agg [.s op, .s text, dI n, dI mode, .sh 1 (names.map D.s), .sh 3 (ms.map MatD.d), .sh 7 (kids.map Nd.d)])] (by have hw : [] = zby kids := (by first | exact hr1 | exact hr3 | exact hr2); rw [show ([] : List D) = List.map dI (zby kids) from congrArg (List.map dI) hw]) ?_)))))))))))
      exact zh Tryz.results43 (.cons (zt (zl rfl) (Cv.ov rfl)) (.cons (zt (zl rfl) (Cv.eq (congrArg (fun n => D.v (.int .i64 n)) (by first | exact hr1 | exact hr3 | exact hr2)))) .nil)) rfl (HSub.fst 1 rfl) ⟨(.slice none 0 0), rfl, rfl⟩
    · skip
      have hkg : ¬ (Nd.mk yax1 ybx1 ycx1 ydx1 yex1 yfx1 ygx1).kind = 0 := by have h : (Nd.mk yax1 ybx1 ycx1 ydx1 yex1 yfx1 ygx1).kindE = 0 := (by simpa using hc4); intro e; unfold Nd.kindE at h; rw [if_pos e] at h; cases h
      refine zq rfl (zm (ze rfl (oR 2 rfl (oE rfl (zF [.tmp 25] rfl rfl (.cons (CellD.v rfl) .nil) rfl Tryz.runUnderlying55 Tryz.sizeOf3 Tryz.zeroValue3 rfl rfl rfl rfl) ?_))))
      rintro _ _ ⟨g5, rfl, rfl⟩
      refine oE rfl (zL (f := dI) (l := o) (l' := [(Nd.mk yax1 ybx1 ycx1 ydx1 yex1 yfx1 ygx1).kind]) (i := 2) rfl rfl rfl (SrcD.own (j := 0) rfl rfl) und_55 infz_3 rfl rfl (by unfold maxLen; (try simp only [la, lc, ln, lm, lt', ld, ls, lr]); omega) (by (try simp only [la, lc, ln, lm, lt', ld, ls, lr]); omega)) ?_
      rintro _ _ ⟨v6, rfl, rfl⟩
      refine on rfl (oR 1 rfl (zp rfl (zA (zm (ze rfl (oP rfl (za4 (c := ((k + 1 : Nat) : Int)) rfl rfl (zau (by omega) (by omega))) (oR 1 rfl (zp rfl (PD.subH (HSub.perm (zc (i := 3) rfl)) (pn rfl (PD.subH (HSub.perm (zc (i := 3) rfl)) (pn rfl (PD.subH (HSub.fst 2 rfl) (pn rfl ?_))))))))))))))
      exact pl3 (k + 1) v6 (o ++ [(Nd.mk yax1 ybx1 ycx1 ydx1 yex1 yfx1 ygx1).kind]) (sa rfl) HSub.rfl' ⟨by show k + 1 ≤ kids.length; omega, kinds_go hx1 hks hkg, by simp only [la, List.length_singleton]; omega⟩ (by omega)
  · skip
    obtain ⟨hr1, hr2⟩ := kinds_yes (by rw [← hks, List.take_of_length_le (by omega)] : Nd.kinds kids = some o)
    have hr3 := hr2
    refine zaf rfl (zG (zE (zC (zm (jT rfl (oR 3 rfl (oZ rfl (zn rfl (PD.norm [.sl ov 1 3 ((zby kids).map dI), .bx g1 27 (.agg [.s op, .s text, dI n, dI mode, .sh 1 (names.map D.s), .sh 3 (ms.map MatD.d), .sh 7 (kids.map Nd.d)])] (by have hw : o = zby kids := (by first | exact hr1 | exact hr3 | exact hr2); rw [hw]) ?_)))))))))
    exact zh Tryz.results43 (.cons (zl rfl) (.cons (zt (zl rfl) (Cv.eq (congrArg (fun n => D.v (.int .i64 n)) (by first | exact hr1 | exact hr3 | exact hr2)))) .nil)) rfl (HSub.fst 1 rfl) ⟨ov, rfl, rfl⟩

theorem of_s (op text : ByteArray) (n mode : Int) (names : List ByteArray) (ms : List MatD) (kids : List Nd) (ih : ∀ x ∈ kids, CD Tryz.prog 15 [] [Nd.d x] (isR (.tup [dI x.kind, dI x.kindE]))) (hc : Nd.cntL kids ≤ 100000) :
    CD Tryz.prog 15 [] [.agg [.s op, .s text, dI n, dI mode, .sh 1 (names.map D.s), .sh 3 (ms.map MatD.d), .sh 7 (kids.map Nd.d)]] (isR (.tup [dI ((Nd.mk op text n mode names ms kids).kind), dI ((Nd.mk op text n mode names ms kids).kindE)])) := by
  refine zr Tryz.func15 rfl (N := 22) rfl rfl (fun C => ?_)
  refine jk [0] rfl ?_
  refine JD.bd 0 rfl (fun bd0 => ?_)
  refine jT rfl (oE rfl (zbz rfl (CellD.agg)) ?_)
  rintro _ _ ⟨g1, rfl, rfl⟩
  refine oR 2 rfl (oZ rfl (jT rfl (oP rfl (zz (d := .agg [.s op, .s text, dI n, dI mode, .sh 1 (names.map D.s), .sh 3 (ms.map MatD.d), .sh 7 (kids.map Nd.d)]) rfl (i := 0) rfl Tryz.isAgg27 Tryz.sizeOf27 rfl rfl) (oE rfl (zo [] [.bx g1 27 (.agg [.s op, .s text, dI n, dI mode, .sh 1 (names.map D.s), .sh 3 (ms.map MatD.d), .sh 7 (kids.map Nd.d)])] [] rfl rfl (.cons ArgC.id .nil) zj Tryz.call43 (kids_s op text n mode names ms kids ih (by omega)) (.inl rfl)) ?_))))
  rintro _ _ ⟨_, ⟨kv2, rfl, rfl⟩, rfl⟩
  have hkc := kindE_c kids
  refine on rfl (oR 5 rfl (oZ rfl (jS rfl (jT rfl (oR 1 rfl (oP rfl (zbj rfl rfl rfl) (oZ rfl ?_)))))))
  refine jD rfl (fun hc3 => ?_) (fun hc3 => ?_)
  · skip
    have hkn := (hkc.resolve_left (fun e => hc3 e.1))
    have hq0 : (Nd.mk op text n mode names ms kids).kind = 0 := kind_no hkn.2
    refine jT rfl (oR 3 rfl (oZ rfl (jk [1, 2, 3, 4] rfl (zn rfl (zi ?_)))))
    exact zh Tryz.results15 (.cons (zt (zl rfl) (Cv.eq (congrArg (fun n => D.v (.int .i64 n)) (by first | exact hq0.symm | (unfold Nd.kindE; rw [if_pos hq0]; try exact hkn.1))))) (.cons (zt (zl rfl) (Cv.eq (congrArg (fun n => D.v (.int .i64 n)) (by first | exact hq0.symm | (unfold Nd.kindE; rw [if_pos hq0]; try exact hkn.1))))) .nil)) rfl HSub.none ⟨rfl, rfl⟩
  · skip
    have hky := (hkc.resolve_right (fun e => by have h : zcK kids = 0 := (by simpa using hc3); rw [e.1] at h; cases h))
    have hkk := kind_yes (op := op) (text := text) (n := n) (mode := mode) (names := names) (ms := ms) hky.2
    have hfit : (zbf op text n mode kids.length).fits (zby kids).length := by rw [kinds_len hky.2]; exact ask_fits op text n mode kids.length
    refine zq rfl (zm (jk [1, 2, 3, 4] rfl (jT rfl (oP rfl (zz (d := .agg [.s op, .s text, dI n, dI mode, .sh 1 (names.map D.s), .sh 3 (ms.map MatD.d), .sh 7 (kids.map Nd.d)]) rfl (i := 1) rfl Tryz.isAgg27 Tryz.sizeOf27 rfl rfl) (oW rfl rfl acs Tryz.call45 (asks_c op text n mode names ms kids) (oR 1 rfl (oE rfl (zo [] _ [.sl kv2 1 3 ((zby kids).map dI)] rfl rfl (.cons ArgC.id (.cons (ArgC.own (j := 0) rfl rfl) .nil)) (zcS (j := 0) rfl zj) Tryz.call44 (kof_c _ (zby kids) hfit) (.inr (zdm rfl))) ?_)))))))
    rintro _ _ ⟨_, ⟨rfl, rfl⟩, rfl⟩
    refine on rfl (oR 1 rfl (oZ rfl (jS rfl (jT rfl (oR 1 rfl (oP rfl (zD rfl rfl rfl) (oZ rfl ?_)))))))
    refine jD rfl (fun hc4 => ?_) (fun hc4 => ?_)
    · skip
      have hq0 : (Nd.mk op text n mode names ms kids).kind = 0 := hkk.trans hc4
      refine jT rfl (oR 2 rfl (oZ rfl (zn rfl (zi ?_))))
      exact zh Tryz.results15 (.cons (zt (zl rfl) (Cv.eq (congrArg (fun n => D.v (.int .i64 n)) (by first | exact hq0.symm | (unfold Nd.kindE; rw [if_pos hq0]; try exact hkn.1))))) (.cons (zt (zl rfl) (Cv.eq (congrArg (fun n => D.v (.int .i64 n)) (by first | exact hq0.symm | (unfold Nd.kindE; rw [if_pos hq0]; try exact hkn.1))))) .nil)) rfl HSub.none ⟨rfl, rfl⟩
    · skip
      refine zq rfl (zm (jT rfl (oR 3 rfl (oZ rfl (jk [2, 3] rfl (zn rfl ?_))))))
      exact zh Tryz.results15 (.cons (zt (zl rfl) (Cv.eq (congrArg (fun n => D.v (.int .i64 n)) (by first | exact hkk.symm | (unfold Nd.kindE; rw [if_neg (fun e => hc4 (hkk.symm.trans e))]))))) (.cons (zt (zl rfl) (Cv.eq (congrArg (fun n => D.v (.int .i64 n)) (by first | exact hkk.symm | (unfold Nd.kindE; rw [if_neg (fun e => hc4 (hkk.symm.trans e))]))))) .nil)) rfl HSub.none ⟨rfl, rfl⟩

theorem of_c : ∀ q : Nd, q.cnt ≤ 100000 → CD Tryz.prog 15 [] [Nd.d q] (isR (.tup [dI q.kind, dI q.kindE])) := Nd.ind (fun op text n mode names ms kids ih hc => by
  simp only [Nd.cnt] at hc
  rw [Nd.d_mk]
  exact of_s op text n mode names ms kids (fun x hx => ih x hx (by have := zc4 hx; omega)) (by omega))

theorem check_c (op text : ByteArray) (n mode : Int) (names : List ByteArray) (ms : List MatD) (kids : List Nd) (o a b : Int) (hc : Nd.cntL kids ≤ 10000) :
    CD Tryz.prog 23 [] [.agg [.s op, .s text, dI n, dI mode, .sh 1 (names.map D.s), .sh 3 (ms.map MatD.d), .sh 7 (Nd.ds kids), dI o, dI a, dI b]] (isR (dI ((Nd.mk op text n mode names ms kids).checkE))) := by
  refine zr Tryz.func23 rfl (N := 18) rfl rfl (fun C => ?_)
  refine jk [0] rfl ?_
  refine JD.bd 0 rfl (fun bd0 => ?_)
  refine jT rfl (oE rfl (zbz rfl (CellD.agg)) ?_)
  rintro _ _ ⟨g1, rfl, rfl⟩
  refine oR 1 rfl (oZ rfl (jT rfl (oP rfl (zd rfl zbK rfl) (oP rfl (zz (d := .agg [.s op, .s text, dI n, dI mode, .sh 1 (names.map D.s), .sh 3 (ms.map MatD.d), .sh 7 (Nd.ds kids)]) rfl (i := 0) rfl Tryz.isAgg27 Tryz.sizeOf27 rfl rfl) (oW rfl rfl acs Tryz.call15 (of_c (Nd.mk op text n mode names ms kids) (by simp only [Nd.cnt]; omega)) (oR 5 rfl (oZ rfl (jS rfl (jS rfl (jk [2, 3, 4] rfl ?_))))))))))
  refine zM 16 ((decide ((Nd.mk op text n mode names ms kids).kindE = (0 : Int)) && decide ((Nd.mk op text n mode names ms kids).kind = (3 : Int)))) [.bx g1 29 (.agg [.s op, .s text, dI n, dI mode, .sh 1 (names.map D.s), .sh 3 (ms.map MatD.d), .sh 7 (Nd.ds kids), dI o, dI a, dI b])] (fun _ hQ2 => ?_) ?_
  · skip
    by_cases hg3 : (Nd.mk op text n mode names ms kids).kindE = (0 : Int)
    · skip
      refine ze rfl (oR 1 rfl (oP rfl (zD rfl rfl (decide_eq_true hg3)) (oR 2 rfl (oG rfl (zD rfl rfl rfl) (oR 1 rfl (zp rfl ?_))))))
      exact PD.sub ((16, dB (decide ((Nd.mk op text n mode names ms kids).kindE = (0 : Int)) && decide ((Nd.mk op text n mode names ms kids).kind = (3 : Int)))) :: [(2, dI 0), (3, dI ((Nd.mk op text n mode names ms kids).kind)), (4, dI ((Nd.mk op text n mode names ms kids).kindE))]) ⟨sc rfl (Cv.eq (congrArg (fun b => D.v (.bool b)) (by first | (simp [hg3]; done) | (simp_all; done)))), sk rfl, sk rfl, sk rfl, trivial⟩ hQ2
    · skip
      refine ze rfl (oR 1 rfl (oP rfl (zD rfl rfl (decide_eq_false hg3)) (oR 4 rfl (zp rfl ?_))))
      exact PD.sub ((16, dB (decide ((Nd.mk op text n mode names ms kids).kindE = (0 : Int)) && decide ((Nd.mk op text n mode names ms kids).kind = (3 : Int)))) :: [(2, dI 0), (3, dI ((Nd.mk op text n mode names ms kids).kind)), (4, dI ((Nd.mk op text n mode names ms kids).kindE))]) ⟨sc rfl (Cv.eq (congrArg (fun b => D.v (.bool b)) (by first | (simp [hg3]; done) | (simp_all; done)))), sk rfl, sk rfl, sk rfl, trivial⟩ hQ2
  · skip
    refine zm ?_
    refine jC rfl (fun hc4 => ?_) (fun hc4 => ?_)
    · simp only [bA, bB, bC, bD, bE, bF, bG, bH, bI, bJ] at hc4
      refine jT rfl (oR 1 rfl (oZ rfl (zn rfl (zi ?_))))
      exact zh Tryz.results23 (.cons (zt (zl rfl) (Cv.eq (congrArg (fun n => D.v (.int .i64 n)) (by unfold Nd.checkE; unfold Nd.kindE at *; have h := hc4; split <;> simp_all)))) .nil) rfl HSub.none ⟨rfl, rfl⟩
    · simp only [bA, bB, bC, bD, bE, bF, bG, bH, bI, bJ] at hc4
      refine zq rfl (zm (jT rfl (oR 2 rfl (oZ rfl (zn rfl ?_)))))
      exact zh Tryz.results23 (.cons (zt (zl rfl) (Cv.eq (congrArg (fun n => D.v (.int .i64 n)) (by unfold Nd.checkE; unfold Nd.kindE at *; have h := hc4; split <;> simp_all)))) .nil) rfl HSub.none ⟨rfl, rfl⟩
end Lp
