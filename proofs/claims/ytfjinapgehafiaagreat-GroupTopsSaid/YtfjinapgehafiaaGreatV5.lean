/- Walks, printed by a program of mine. -/
import Derived.Test.YtfjinapgehafiaaGreatV1
set_option linter.unusedSimpArgs false
set_option linter.unusedVariables false
set_option maxHeartbeats 4000000
set_option maxRecDepth 100000
namespace Lp
open Go Go.RowKit Go.Proofs

namespace HdYtfjinapgehafiaaGreatV5
theorem infz_21 : ∃ i, Tryz.prog.info? 21 = some i ∧ i.zero = some (.int .i32 0) ∧ i.size = 1 ∧ i.bytes = 4 := za3 (by kernel_rfl)
theorem und_124 : Tryz.prog.underlying 124 = some (.slice 21) := by kernel_rfl
end HdYtfjinapgehafiaaGreatV5
open HdYtfjinapgehafiaaGreatV5

theorem Kind_c (r : Int)  :
    CD Tryz.prog 206 [] [.v (.int .i32 r)] (isR (dI (z7 r))) := by
  refine zq Tryz.func206 rfl (N := 51) rfl rfl (fun C => ?_)
  refine jk [0] rfl (jT rfl (oR 1 rfl (oZ rfl (jS rfl (jB rfl (jS rfl (jk [0, 2] rfl ?_)))))))
  refine zal 3 ((decide (r < (0 : Int)) || decide (r = (65533 : Int)))) [] (fun _ hQ1 => ?_) ?_
  · skip
    by_cases hg2 : r < (0 : Int)
    · skip
      refine za rfl (oR 1 rfl (oP rfl (zQ rfl rfl (decide_eq_true hg2)) (oR 5 rfl (ze rfl ?_))))
      exact PD.sub ((3, dB (decide (r < (0 : Int)) || decide (r = (65533 : Int)))) :: [(0, .v (.int .i32 r)), (2, dI 0)]) ⟨sc rfl (Cv.eq (congrArg (fun b => D.v (.bool b)) (by first | (simp [hg2]; done) | (simp_all; done)))), sk rfl, sk rfl, trivial⟩ hQ1
    · skip
      refine za rfl (oR 1 rfl (oP rfl (zQ rfl rfl (decide_eq_false hg2)) (oR 2 rfl (oG rfl (zR rfl rfl rfl) (oR 2 rfl (ze rfl ?_))))))
      exact PD.sub ((3, dB (decide (r < (0 : Int)) || decide (r = (65533 : Int)))) :: [(0, .v (.int .i32 r)), (2, dI 0)]) ⟨sc rfl (Cv.eq (congrArg (fun b => D.v (.bool b)) (by first | (simp [hg2]; done) | (simp_all; done)))), sk rfl, sk rfl, trivial⟩ hQ1
  · skip
    refine zb ?_
    refine jC rfl (fun hc3 => ?_) (fun hc3 => ?_)
    · simp only [bA, bB, bC, bD, bE, bF, bG, bH, bI, bJ] at hc3
      refine jT rfl (oR 1 rfl (oZ rfl (zm rfl (zf (zd ?_)))))
      exact zl Tryz.results206 (.cons (zx (zh rfl) (Cv.eq (congrArg (fun n => D.v (.int .i64 n)) (by unfold z7; (repeat (any_goals split)) <;> omega)))) .nil) rfl HSub.none ⟨rfl, rfl⟩
    · simp only [bA, bB, bC, bD, bE, bF, bG, bH, bI, bJ] at hc3
      refine jS rfl (jk [0, 2] rfl ?_)
      refine zal 10 (((((decide ((97 : Int) ≤ r) && decide (r ≤ (122 : Int))) || (decide ((65 : Int) ≤ r) && decide (r ≤ (90 : Int)))) || decide (r = (95 : Int))) || decide ((128 : Int) ≤ r))) [] (fun _ hQ4 => ?_) ?_
      · skip
        by_cases hg5 : (97 : Int) ≤ r
        · skip
          by_cases hg6 : r ≤ (122 : Int)
          · skip
            refine za rfl (oR 1 rfl (oP rfl (zV rfl rfl (decide_eq_true hg5)) (oR 2 rfl (oG rfl (zaA rfl rfl (decide_eq_true hg6)) (oR 18 rfl (ze rfl ?_))))))
            exact PD.sub ((10, dB ((((decide ((97 : Int) ≤ r) && decide (r ≤ (122 : Int))) || (decide ((65 : Int) ≤ r) && decide (r ≤ (90 : Int)))) || decide (r = (95 : Int))) || decide ((128 : Int) ≤ r))) :: [(0, .v (.int .i32 r)), (2, dI 0)]) ⟨sc rfl (Cv.eq (congrArg (fun b => D.v (.bool b)) (by first | (simp [hg5, hg6]; done) | (simp_all; done)))), sk rfl, sk rfl, trivial⟩ hQ4
          · skip
            by_cases hg7 : (65 : Int) ≤ r
            · skip
              by_cases hg8 : r ≤ (90 : Int)
              · skip
                refine za rfl (oR 1 rfl (oP rfl (zV rfl rfl (decide_eq_true hg5)) (oR 2 rfl (oG rfl (zaA rfl rfl (decide_eq_false hg6)) (oR 3 rfl (oG rfl (zV rfl rfl (decide_eq_true hg7)) (oR 2 rfl (oG rfl (zaA rfl rfl (decide_eq_true hg8)) (oR 11 rfl (ze rfl ?_))))))))))
                exact PD.sub ((10, dB ((((decide ((97 : Int) ≤ r) && decide (r ≤ (122 : Int))) || (decide ((65 : Int) ≤ r) && decide (r ≤ (90 : Int)))) || decide (r = (95 : Int))) || decide ((128 : Int) ≤ r))) :: [(0, .v (.int .i32 r)), (2, dI 0)]) ⟨sc rfl (Cv.eq (congrArg (fun b => D.v (.bool b)) (by first | (simp [hg5, hg6, hg7, hg8]; done) | (simp_all; done)))), sk rfl, sk rfl, trivial⟩ hQ4
              · skip
                by_cases hg9 : r = (95 : Int)
                · skip
                  refine za rfl (oR 1 rfl (oP rfl (zV rfl rfl (decide_eq_true hg5)) (oR 2 rfl (oG rfl (zaA rfl rfl (decide_eq_false hg6)) (oR 3 rfl (oG rfl (zV rfl rfl (decide_eq_true hg7)) (oR 2 rfl (oG rfl (zaA rfl rfl (decide_eq_false hg8)) (oR 4 rfl (oG rfl (zR rfl rfl (decide_eq_true hg9)) (oR 6 rfl (ze rfl ?_))))))))))))
                  exact PD.sub ((10, dB ((((decide ((97 : Int) ≤ r) && decide (r ≤ (122 : Int))) || (decide ((65 : Int) ≤ r) && decide (r ≤ (90 : Int)))) || decide (r = (95 : Int))) || decide ((128 : Int) ≤ r))) :: [(0, .v (.int .i32 r)), (2, dI 0)]) ⟨sc rfl (Cv.eq (congrArg (fun b => D.v (.bool b)) (by first | (simp [hg5, hg6, hg7, hg8, hg9]; done) | (simp_all; done)))), sk rfl, sk rfl, trivial⟩ hQ4
                · skip
                  refine za rfl (oR 1 rfl (oP rfl (zV rfl rfl (decide_eq_true hg5)) (oR 2 rfl (oG rfl (zaA rfl rfl (decide_eq_false hg6)) (oR 3 rfl (oG rfl (zV rfl rfl (decide_eq_true hg7)) (oR 2 rfl (oG rfl (zaA rfl rfl (decide_eq_false hg8)) (oR 4 rfl (oG rfl (zR rfl rfl (decide_eq_false hg9)) (oR 3 rfl (oG rfl (zV rfl rfl rfl) (oR 2 rfl (ze rfl ?_))))))))))))))
                  exact PD.sub ((10, dB ((((decide ((97 : Int) ≤ r) && decide (r ≤ (122 : Int))) || (decide ((65 : Int) ≤ r) && decide (r ≤ (90 : Int)))) || decide (r = (95 : Int))) || decide ((128 : Int) ≤ r))) :: [(0, .v (.int .i32 r)), (2, dI 0)]) ⟨sc rfl (Cv.eq (congrArg (fun b => D.v (.bool b)) (by first | (simp [hg5, hg6, hg7, hg8, hg9]; done) | (simp_all; done)))), sk rfl, sk rfl, trivial⟩ hQ4
            · skip
              by_cases hg10 : r = (95 : Int)
              · skip
                refine za rfl (oR 1 rfl (oP rfl (zV rfl rfl (decide_eq_true hg5)) (oR 2 rfl (oG rfl (zaA rfl rfl (decide_eq_false hg6)) (oR 3 rfl (oG rfl (zV rfl rfl (decide_eq_false hg7)) (oR 7 rfl (oG rfl (zR rfl rfl (decide_eq_true hg10)) (oR 6 rfl (ze rfl ?_))))))))))
                exact PD.sub ((10, dB ((((decide ((97 : Int) ≤ r) && decide (r ≤ (122 : Int))) || (decide ((65 : Int) ≤ r) && decide (r ≤ (90 : Int)))) || decide (r = (95 : Int))) || decide ((128 : Int) ≤ r))) :: [(0, .v (.int .i32 r)), (2, dI 0)]) ⟨sc rfl (Cv.eq (congrArg (fun b => D.v (.bool b)) (by first | (simp [hg10, hg5, hg6, hg7]; done) | (simp_all; done)))), sk rfl, sk rfl, trivial⟩ hQ4
              · skip
                refine za rfl (oR 1 rfl (oP rfl (zV rfl rfl (decide_eq_true hg5)) (oR 2 rfl (oG rfl (zaA rfl rfl (decide_eq_false hg6)) (oR 3 rfl (oG rfl (zV rfl rfl (decide_eq_false hg7)) (oR 7 rfl (oG rfl (zR rfl rfl (decide_eq_false hg10)) (oR 3 rfl (oG rfl (zV rfl rfl rfl) (oR 2 rfl (ze rfl ?_))))))))))))
                exact PD.sub ((10, dB ((((decide ((97 : Int) ≤ r) && decide (r ≤ (122 : Int))) || (decide ((65 : Int) ≤ r) && decide (r ≤ (90 : Int)))) || decide (r = (95 : Int))) || decide ((128 : Int) ≤ r))) :: [(0, .v (.int .i32 r)), (2, dI 0)]) ⟨sc rfl (Cv.eq (congrArg (fun b => D.v (.bool b)) (by first | (simp [hg10, hg5, hg6, hg7]; done) | (simp_all; done)))), sk rfl, sk rfl, trivial⟩ hQ4
        · skip
          by_cases hg11 : (65 : Int) ≤ r
          · skip
            by_cases hg12 : r ≤ (90 : Int)
            · skip
              refine za rfl (oR 1 rfl (oP rfl (zV rfl rfl (decide_eq_false hg5)) (oR 6 rfl (oG rfl (zV rfl rfl (decide_eq_true hg11)) (oR 2 rfl (oG rfl (zaA rfl rfl (decide_eq_true hg12)) (oR 11 rfl (ze rfl ?_))))))))
              exact PD.sub ((10, dB ((((decide ((97 : Int) ≤ r) && decide (r ≤ (122 : Int))) || (decide ((65 : Int) ≤ r) && decide (r ≤ (90 : Int)))) || decide (r = (95 : Int))) || decide ((128 : Int) ≤ r))) :: [(0, .v (.int .i32 r)), (2, dI 0)]) ⟨sc rfl (Cv.eq (congrArg (fun b => D.v (.bool b)) (by first | (simp [hg11, hg12, hg5]; done) | (simp_all; done)))), sk rfl, sk rfl, trivial⟩ hQ4
            · skip
              by_cases hg13 : r = (95 : Int)
              · skip
                refine za rfl (oR 1 rfl (oP rfl (zV rfl rfl (decide_eq_false hg5)) (oR 6 rfl (oG rfl (zV rfl rfl (decide_eq_true hg11)) (oR 2 rfl (oG rfl (zaA rfl rfl (decide_eq_false hg12)) (oR 4 rfl (oG rfl (zR rfl rfl (decide_eq_true hg13)) (oR 6 rfl (ze rfl ?_))))))))))
                exact PD.sub ((10, dB ((((decide ((97 : Int) ≤ r) && decide (r ≤ (122 : Int))) || (decide ((65 : Int) ≤ r) && decide (r ≤ (90 : Int)))) || decide (r = (95 : Int))) || decide ((128 : Int) ≤ r))) :: [(0, .v (.int .i32 r)), (2, dI 0)]) ⟨sc rfl (Cv.eq (congrArg (fun b => D.v (.bool b)) (by first | (simp [hg11, hg12, hg13, hg5]; done) | (simp_all; done)))), sk rfl, sk rfl, trivial⟩ hQ4
              · skip
                refine za rfl (oR 1 rfl (oP rfl (zV rfl rfl (decide_eq_false hg5)) (oR 6 rfl (oG rfl (zV rfl rfl (decide_eq_true hg11)) (oR 2 rfl (oG rfl (zaA rfl rfl (decide_eq_false hg12)) (oR 4 rfl (oG rfl (zR rfl rfl (decide_eq_false hg13)) (oR 3 rfl (oG rfl (zV rfl rfl rfl) (oR 2 rfl (ze rfl ?_))))))))))))
                exact PD.sub ((10, dB ((((decide ((97 : Int) ≤ r) && decide (r ≤ (122 : Int))) || (decide ((65 : Int) ≤ r) && decide (r ≤ (90 : Int)))) || decide (r = (95 : Int))) || decide ((128 : Int) ≤ r))) :: [(0, .v (.int .i32 r)), (2, dI 0)]) ⟨sc rfl (Cv.eq (congrArg (fun b => D.v (.bool b)) (by first | (simp [hg11, hg12, hg13, hg5]; done) | (simp_all; done)))), sk rfl, sk rfl, trivial⟩ hQ4
          · skip
            by_cases hg14 : r = (95 : Int)
            · skip
              refine za rfl (oR 1 rfl (oP rfl (zV rfl rfl (decide_eq_false hg5)) (oR 6 rfl (oG rfl (zV rfl rfl (decide_eq_false hg11)) (oR 7 rfl (oG rfl (zR rfl rfl (decide_eq_true hg14)) (oR 6 rfl (ze rfl ?_))))))))
              exact PD.sub ((10, dB ((((decide ((97 : Int) ≤ r) && decide (r ≤ (122 : Int))) || (decide ((65 : Int) ≤ r) && decide (r ≤ (90 : Int)))) || decide (r = (95 : Int))) || decide ((128 : Int) ≤ r))) :: [(0, .v (.int .i32 r)), (2, dI 0)]) ⟨sc rfl (Cv.eq (congrArg (fun b => D.v (.bool b)) (by first | (simp [hg11, hg14, hg5]; done) | (simp_all; done)))), sk rfl, sk rfl, trivial⟩ hQ4
            · skip
              refine za rfl (oR 1 rfl (oP rfl (zV rfl rfl (decide_eq_false hg5)) (oR 6 rfl (oG rfl (zV rfl rfl (decide_eq_false hg11)) (oR 7 rfl (oG rfl (zR rfl rfl (decide_eq_false hg14)) (oR 3 rfl (oG rfl (zV rfl rfl rfl) (oR 2 rfl (ze rfl ?_))))))))))
              exact PD.sub ((10, dB ((((decide ((97 : Int) ≤ r) && decide (r ≤ (122 : Int))) || (decide ((65 : Int) ≤ r) && decide (r ≤ (90 : Int)))) || decide (r = (95 : Int))) || decide ((128 : Int) ≤ r))) :: [(0, .v (.int .i32 r)), (2, dI 0)]) ⟨sc rfl (Cv.eq (congrArg (fun b => D.v (.bool b)) (by first | (simp [hg11, hg14, hg5]; done) | (simp_all; done)))), sk rfl, sk rfl, trivial⟩ hQ4
      · skip
        refine zb ?_
        refine jC rfl (fun hc15 => ?_) (fun hc15 => ?_)
        · simp only [bA, bB, bC, bD, bE, bF, bG, bH, bI, bJ] at hc15
          refine jT rfl (oR 1 rfl (oZ rfl (zm rfl (zf (zd ?_)))))
          exact zl Tryz.results206 (.cons (zx (zh rfl) (Cv.eq (congrArg (fun n => D.v (.int .i64 n)) (by unfold z7; (repeat (any_goals split)) <;> omega)))) .nil) rfl HSub.none ⟨rfl, rfl⟩
        · simp only [bA, bB, bC, bD, bE, bF, bG, bH, bI, bJ] at hc15
          refine jS rfl (jk [0, 2] rfl ?_)
          refine zal 33 ((decide ((48 : Int) ≤ r) && decide (r ≤ (57 : Int)))) [] (fun _ hQ16 => ?_) ?_
          · skip
            by_cases hg17 : (48 : Int) ≤ r
            · skip
              refine za rfl (oR 1 rfl (oP rfl (zV rfl rfl (decide_eq_true hg17)) (oR 2 rfl (oG rfl (zaA rfl rfl rfl) (oR 2 rfl (ze rfl ?_))))))
              exact PD.sub ((33, dB (decide ((48 : Int) ≤ r) && decide (r ≤ (57 : Int)))) :: [(0, .v (.int .i32 r)), (2, dI 0)]) ⟨sc rfl (Cv.eq (congrArg (fun b => D.v (.bool b)) (by first | (simp [hg17]; done) | (simp_all; done)))), sk rfl, sk rfl, trivial⟩ hQ16
            · skip
              refine za rfl (oR 1 rfl (oP rfl (zV rfl rfl (decide_eq_false hg17)) (oR 5 rfl (ze rfl ?_))))
              exact PD.sub ((33, dB (decide ((48 : Int) ≤ r) && decide (r ≤ (57 : Int)))) :: [(0, .v (.int .i32 r)), (2, dI 0)]) ⟨sc rfl (Cv.eq (congrArg (fun b => D.v (.bool b)) (by first | (simp [hg17]; done) | (simp_all; done)))), sk rfl, sk rfl, trivial⟩ hQ16
          · skip
            refine zb ?_
            refine jC rfl (fun hc18 => ?_) (fun hc18 => ?_)
            · simp only [bA, bB, bC, bD, bE, bF, bG, bH, bI, bJ] at hc18
              refine jT rfl (oR 1 rfl (oZ rfl (zm rfl (zf (zd ?_)))))
              exact zl Tryz.results206 (.cons (zx (zh rfl) (Cv.eq (congrArg (fun n => D.v (.int .i64 n)) (by unfold z7; (repeat (any_goals split)) <;> omega)))) .nil) rfl HSub.none ⟨rfl, rfl⟩
            · simp only [bA, bB, bC, bD, bE, bF, bG, bH, bI, bJ] at hc18
              refine jS rfl (jk [0, 2] rfl ?_)
              refine zal 40 (((decide (r = (32 : Int)) || decide (r = (9 : Int))) || decide (r = (10 : Int)))) [] (fun _ hQ19 => ?_) ?_
              · skip
                by_cases hg20 : r = (32 : Int)
                · skip
                  refine za rfl (oR 1 rfl (oP rfl (zR rfl rfl (decide_eq_true hg20)) (oR 9 rfl (ze rfl ?_))))
                  exact PD.sub ((40, dB ((decide (r = (32 : Int)) || decide (r = (9 : Int))) || decide (r = (10 : Int)))) :: [(0, .v (.int .i32 r)), (2, dI 0)]) ⟨sc rfl (Cv.eq (congrArg (fun b => D.v (.bool b)) (by first | (simp [hg20]; done) | (simp_all; done)))), sk rfl, sk rfl, trivial⟩ hQ19
                · skip
                  by_cases hg21 : r = (9 : Int)
                  · skip
                    refine za rfl (oR 1 rfl (oP rfl (zR rfl rfl (decide_eq_false hg20)) (oR 2 rfl (oG rfl (zR rfl rfl (decide_eq_true hg21)) (oR 6 rfl (ze rfl ?_))))))
                    exact PD.sub ((40, dB ((decide (r = (32 : Int)) || decide (r = (9 : Int))) || decide (r = (10 : Int)))) :: [(0, .v (.int .i32 r)), (2, dI 0)]) ⟨sc rfl (Cv.eq (congrArg (fun b => D.v (.bool b)) (by first | (simp [hg20, hg21]; done) | (simp_all; done)))), sk rfl, sk rfl, trivial⟩ hQ19
                  · skip
                    refine za rfl (oR 1 rfl (oP rfl (zR rfl rfl (decide_eq_false hg20)) (oR 2 rfl (oG rfl (zR rfl rfl (decide_eq_false hg21)) (oR 3 rfl (oG rfl (zR rfl rfl rfl) (oR 2 rfl (ze rfl ?_))))))))
                    exact PD.sub ((40, dB ((decide (r = (32 : Int)) || decide (r = (9 : Int))) || decide (r = (10 : Int)))) :: [(0, .v (.int .i32 r)), (2, dI 0)]) ⟨sc rfl (Cv.eq (congrArg (fun b => D.v (.bool b)) (by first | (simp [hg20, hg21]; done) | (simp_all; done)))), sk rfl, sk rfl, trivial⟩ hQ19
              · skip
                refine zb ?_
                refine jC rfl (fun hc22 => ?_) (fun hc22 => ?_)
                · simp only [bA, bB, bC, bD, bE, bF, bG, bH, bI, bJ] at hc22
                  refine jT rfl (oR 1 rfl (oZ rfl (zm rfl (zf (zd ?_)))))
                  exact zl Tryz.results206 (.cons (zx (zh rfl) (Cv.eq (congrArg (fun n => D.v (.int .i64 n)) (by unfold z7; (repeat (any_goals split)) <;> omega)))) .nil) rfl HSub.none ⟨rfl, rfl⟩
                · simp only [bA, bB, bC, bD, bE, bF, bG, bH, bI, bJ] at hc22
                  refine zj rfl (zp (zb (jT rfl (oR 1 rfl (oZ rfl (zm rfl ?_))))))
                  exact zl Tryz.results206 (.cons (zx (zh rfl) (Cv.eq (congrArg (fun n => D.v (.int .i64 n)) (by unfold z7; (repeat (any_goals split)) <;> omega)))) .nil) rfl HSub.none ⟨rfl, rfl⟩

theorem refKind_c (r : Int)  :
    CD Tryz.prog 158 [] [.v (.int .i32 r)] (isR (dI (z7 r))) := by
  refine zq Tryz.func158 rfl (N := 51) rfl rfl (fun C => ?_)
  refine jk [0] rfl (jT rfl (oR 1 rfl (oZ rfl (jS rfl (jB rfl (jS rfl (jk [0, 2] rfl ?_)))))))
  refine zal 3 ((decide (r < (0 : Int)) || decide (r = (65533 : Int)))) [] (fun _ hQ1 => ?_) ?_
  · skip
    by_cases hg2 : r < (0 : Int)
    · skip
      refine za rfl (oR 1 rfl (oP rfl (zQ rfl rfl (decide_eq_true hg2)) (oR 5 rfl (ze rfl ?_))))
      exact PD.sub ((3, dB (decide (r < (0 : Int)) || decide (r = (65533 : Int)))) :: [(0, .v (.int .i32 r)), (2, dI 0)]) ⟨sc rfl (Cv.eq (congrArg (fun b => D.v (.bool b)) (by first | (simp [hg2]; done) | (simp_all; done)))), sk rfl, sk rfl, trivial⟩ hQ1
    · skip
      refine za rfl (oR 1 rfl (oP rfl (zQ rfl rfl (decide_eq_false hg2)) (oR 2 rfl (oG rfl (zR rfl rfl rfl) (oR 2 rfl (ze rfl ?_))))))
      exact PD.sub ((3, dB (decide (r < (0 : Int)) || decide (r = (65533 : Int)))) :: [(0, .v (.int .i32 r)), (2, dI 0)]) ⟨sc rfl (Cv.eq (congrArg (fun b => D.v (.bool b)) (by first | (simp [hg2]; done) | (simp_all; done)))), sk rfl, sk rfl, trivial⟩ hQ1
  · skip
    refine zb ?_
    refine jC rfl (fun hc3 => ?_) (fun hc3 => ?_)
    · simp only [bA, bB, bC, bD, bE, bF, bG, bH, bI, bJ] at hc3
      refine jT rfl (oR 1 rfl (oZ rfl (zm rfl (zf (zd ?_)))))
      exact zl Tryz.results158 (.cons (zx (zh rfl) (Cv.eq (congrArg (fun n => D.v (.int .i64 n)) (by unfold z7; (repeat (any_goals split)) <;> omega)))) .nil) rfl HSub.none ⟨rfl, rfl⟩
    · simp only [bA, bB, bC, bD, bE, bF, bG, bH, bI, bJ] at hc3
      refine jS rfl (jk [0, 2] rfl ?_)
      refine zal 10 (((((decide ((97 : Int) ≤ r) && decide (r ≤ (122 : Int))) || (decide ((65 : Int) ≤ r) && decide (r ≤ (90 : Int)))) || decide (r = (95 : Int))) || decide ((128 : Int) ≤ r))) [] (fun _ hQ4 => ?_) ?_
      · skip
        by_cases hg5 : (97 : Int) ≤ r
        · skip
          by_cases hg6 : r ≤ (122 : Int)
          · skip
            refine za rfl (oR 1 rfl (oP rfl (zV rfl rfl (decide_eq_true hg5)) (oR 2 rfl (oG rfl (zaA rfl rfl (decide_eq_true hg6)) (oR 18 rfl (ze rfl ?_))))))
            exact PD.sub ((10, dB ((((decide ((97 : Int) ≤ r) && decide (r ≤ (122 : Int))) || (decide ((65 : Int) ≤ r) && decide (r ≤ (90 : Int)))) || decide (r = (95 : Int))) || decide ((128 : Int) ≤ r))) :: [(0, .v (.int .i32 r)), (2, dI 0)]) ⟨sc rfl (Cv.eq (congrArg (fun b => D.v (.bool b)) (by first | (simp [hg5, hg6]; done) | (simp_all; done)))), sk rfl, sk rfl, trivial⟩ hQ4
          · skip
            by_cases hg7 : (65 : Int) ≤ r
            · skip
              by_cases hg8 : r ≤ (90 : Int)
              · skip
                refine za rfl (oR 1 rfl (oP rfl (zV rfl rfl (decide_eq_true hg5)) (oR 2 rfl (oG rfl (zaA rfl rfl (decide_eq_false hg6)) (oR 3 rfl (oG rfl (zV rfl rfl (decide_eq_true hg7)) (oR 2 rfl (oG rfl (zaA rfl rfl (decide_eq_true hg8)) (oR 11 rfl (ze rfl ?_))))))))))
                exact PD.sub ((10, dB ((((decide ((97 : Int) ≤ r) && decide (r ≤ (122 : Int))) || (decide ((65 : Int) ≤ r) && decide (r ≤ (90 : Int)))) || decide (r = (95 : Int))) || decide ((128 : Int) ≤ r))) :: [(0, .v (.int .i32 r)), (2, dI 0)]) ⟨sc rfl (Cv.eq (congrArg (fun b => D.v (.bool b)) (by first | (simp [hg5, hg6, hg7, hg8]; done) | (simp_all; done)))), sk rfl, sk rfl, trivial⟩ hQ4
              · skip
                by_cases hg9 : r = (95 : Int)
                · skip
                  refine za rfl (oR 1 rfl (oP rfl (zV rfl rfl (decide_eq_true hg5)) (oR 2 rfl (oG rfl (zaA rfl rfl (decide_eq_false hg6)) (oR 3 rfl (oG rfl (zV rfl rfl (decide_eq_true hg7)) (oR 2 rfl (oG rfl (zaA rfl rfl (decide_eq_false hg8)) (oR 4 rfl (oG rfl (zR rfl rfl (decide_eq_true hg9)) (oR 6 rfl (ze rfl ?_))))))))))))
                  exact PD.sub ((10, dB ((((decide ((97 : Int) ≤ r) && decide (r ≤ (122 : Int))) || (decide ((65 : Int) ≤ r) && decide (r ≤ (90 : Int)))) || decide (r = (95 : Int))) || decide ((128 : Int) ≤ r))) :: [(0, .v (.int .i32 r)), (2, dI 0)]) ⟨sc rfl (Cv.eq (congrArg (fun b => D.v (.bool b)) (by first | (simp [hg5, hg6, hg7, hg8, hg9]; done) | (simp_all; done)))), sk rfl, sk rfl, trivial⟩ hQ4
                · skip
                  refine za rfl (oR 1 rfl (oP rfl (zV rfl rfl (decide_eq_true hg5)) (oR 2 rfl (oG rfl (zaA rfl rfl (decide_eq_false hg6)) (oR 3 rfl (oG rfl (zV rfl rfl (decide_eq_true hg7)) (oR 2 rfl (oG rfl (zaA rfl rfl (decide_eq_false hg8)) (oR 4 rfl (oG rfl (zR rfl rfl (decide_eq_false hg9)) (oR 3 rfl (oG rfl (zV rfl rfl rfl) (oR 2 rfl (ze rfl ?_))))))))))))))
                  exact PD.sub ((10, dB ((((decide ((97 : Int) ≤ r) && decide (r ≤ (122 : Int))) || (decide ((65 : Int) ≤ r) && decide (r ≤ (90 : Int)))) || decide (r = (95 : Int))) || decide ((128 : Int) ≤ r))) :: [(0, .v (.int .i32 r)), (2, dI 0)]) ⟨sc rfl (Cv.eq (congrArg (fun b => D.v (.bool b)) (by first | (simp [hg5, hg6, hg7, hg8, hg9]; done) | (simp_all; done)))), sk rfl, sk rfl, trivial⟩ hQ4
            · skip
              by_cases hg10 : r = (95 : Int)
              · skip
                refine za rfl (oR 1 rfl (oP rfl (zV rfl rfl (decide_eq_true hg5)) (oR 2 rfl (oG rfl (zaA rfl rfl (decide_eq_false hg6)) (oR 3 rfl (oG rfl (zV rfl rfl (decide_eq_false hg7)) (oR 7 rfl (oG rfl (zR rfl rfl (decide_eq_true hg10)) (oR 6 rfl (ze rfl ?_))))))))))
                exact PD.sub ((10, dB ((((decide ((97 : Int) ≤ r) && decide (r ≤ (122 : Int))) || (decide ((65 : Int) ≤ r) && decide (r ≤ (90 : Int)))) || decide (r = (95 : Int))) || decide ((128 : Int) ≤ r))) :: [(0, .v (.int .i32 r)), (2, dI 0)]) ⟨sc rfl (Cv.eq (congrArg (fun b => D.v (.bool b)) (by first | (simp [hg10, hg5, hg6, hg7]; done) | (simp_all; done)))), sk rfl, sk rfl, trivial⟩ hQ4
              · skip
                refine za rfl (oR 1 rfl (oP rfl (zV rfl rfl (decide_eq_true hg5)) (oR 2 rfl (oG rfl (zaA rfl rfl (decide_eq_false hg6)) (oR 3 rfl (oG rfl (zV rfl rfl (decide_eq_false hg7)) (oR 7 rfl (oG rfl (zR rfl rfl (decide_eq_false hg10)) (oR 3 rfl (oG rfl (zV rfl rfl rfl) (oR 2 rfl (ze rfl ?_))))))))))))
                exact PD.sub ((10, dB ((((decide ((97 : Int) ≤ r) && decide (r ≤ (122 : Int))) || (decide ((65 : Int) ≤ r) && decide (r ≤ (90 : Int)))) || decide (r = (95 : Int))) || decide ((128 : Int) ≤ r))) :: [(0, .v (.int .i32 r)), (2, dI 0)]) ⟨sc rfl (Cv.eq (congrArg (fun b => D.v (.bool b)) (by first | (simp [hg10, hg5, hg6, hg7]; done) | (simp_all; done)))), sk rfl, sk rfl, trivial⟩ hQ4
        · skip
          by_cases hg11 : (65 : Int) ≤ r
          · skip
            by_cases hg12 : r ≤ (90 : Int)
            · skip
              refine za rfl (oR 1 rfl (oP rfl (zV rfl rfl (decide_eq_false hg5)) (oR 6 rfl (oG rfl (zV rfl rfl (decide_eq_true hg11)) (oR 2 rfl (oG rfl (zaA rfl rfl (decide_eq_true hg12)) (oR 11 rfl (ze rfl ?_))))))))
              exact PD.sub ((10, dB ((((decide ((97 : Int) ≤ r) && decide (r ≤ (122 : Int))) || (decide ((65 : Int) ≤ r) && decide (r ≤ (90 : Int)))) || decide (r = (95 : Int))) || decide ((128 : Int) ≤ r))) :: [(0, .v (.int .i32 r)), (2, dI 0)]) ⟨sc rfl (Cv.eq (congrArg (fun b => D.v (.bool b)) (by first | (simp [hg11, hg12, hg5]; done) | (simp_all; done)))), sk rfl, sk rfl, trivial⟩ hQ4
            · skip
              by_cases hg13 : r = (95 : Int)
              · skip
                refine za rfl (oR 1 rfl (oP rfl (zV rfl rfl (decide_eq_false hg5)) (oR 6 rfl (oG rfl (zV rfl rfl (decide_eq_true hg11)) (oR 2 rfl (oG rfl (zaA rfl rfl (decide_eq_false hg12)) (oR 4 rfl (oG rfl (zR rfl rfl (decide_eq_true hg13)) (oR 6 rfl (ze rfl ?_))))))))))
                exact PD.sub ((10, dB ((((decide ((97 : Int) ≤ r) && decide (r ≤ (122 : Int))) || (decide ((65 : Int) ≤ r) && decide (r ≤ (90 : Int)))) || decide (r = (95 : Int))) || decide ((128 : Int) ≤ r))) :: [(0, .v (.int .i32 r)), (2, dI 0)]) ⟨sc rfl (Cv.eq (congrArg (fun b => D.v (.bool b)) (by first | (simp [hg11, hg12, hg13, hg5]; done) | (simp_all; done)))), sk rfl, sk rfl, trivial⟩ hQ4
              · skip
                refine za rfl (oR 1 rfl (oP rfl (zV rfl rfl (decide_eq_false hg5)) (oR 6 rfl (oG rfl (zV rfl rfl (decide_eq_true hg11)) (oR 2 rfl (oG rfl (zaA rfl rfl (decide_eq_false hg12)) (oR 4 rfl (oG rfl (zR rfl rfl (decide_eq_false hg13)) (oR 3 rfl (oG rfl (zV rfl rfl rfl) (oR 2 rfl (ze rfl ?_))))))))))))
                exact PD.sub ((10, dB ((((decide ((97 : Int) ≤ r) && decide (r ≤ (122 : Int))) || (decide ((65 : Int) ≤ r) && decide (r ≤ (90 : Int)))) || decide (r = (95 : Int))) || decide ((128 : Int) ≤ r))) :: [(0, .v (.int .i32 r)), (2, dI 0)]) ⟨sc rfl (Cv.eq (congrArg (fun b => D.v (.bool b)) (by first | (simp [hg11, hg12, hg13, hg5]; done) | (simp_all; done)))), sk rfl, sk rfl, trivial⟩ hQ4
          · skip
            by_cases hg14 : r = (95 : Int)
            · skip
              refine za rfl (oR 1 rfl (oP rfl (zV rfl rfl (decide_eq_false hg5)) (oR 6 rfl (oG rfl (zV rfl rfl (decide_eq_false hg11)) (oR 7 rfl (oG rfl (zR rfl rfl (decide_eq_true hg14)) (oR 6 rfl (ze rfl ?_))))))))
              exact PD.sub ((10, dB ((((decide ((97 : Int) ≤ r) && decide (r ≤ (122 : Int))) || (decide ((65 : Int) ≤ r) && decide (r ≤ (90 : Int)))) || decide (r = (95 : Int))) || decide ((128 : Int) ≤ r))) :: [(0, .v (.int .i32 r)), (2, dI 0)]) ⟨sc rfl (Cv.eq (congrArg (fun b => D.v (.bool b)) (by first | (simp [hg11, hg14, hg5]; done) | (simp_all; done)))), sk rfl, sk rfl, trivial⟩ hQ4
            · skip
              refine za rfl (oR 1 rfl (oP rfl (zV rfl rfl (decide_eq_false hg5)) (oR 6 rfl (oG rfl (zV rfl rfl (decide_eq_false hg11)) (oR 7 rfl (oG rfl (zR rfl rfl (decide_eq_false hg14)) (oR 3 rfl (oG rfl (zV rfl rfl rfl) (oR 2 rfl (ze rfl ?_))))))))))
              exact PD.sub ((10, dB ((((decide ((97 : Int) ≤ r) && decide (r ≤ (122 : Int))) || (decide ((65 : Int) ≤ r) && decide (r ≤ (90 : Int)))) || decide (r = (95 : Int))) || decide ((128 : Int) ≤ r))) :: [(0, .v (.int .i32 r)), (2, dI 0)]) ⟨sc rfl (Cv.eq (congrArg (fun b => D.v (.bool b)) (by first | (simp [hg11, hg14, hg5]; done) | (simp_all; done)))), sk rfl, sk rfl, trivial⟩ hQ4
      · skip
        refine zb ?_
        refine jC rfl (fun hc15 => ?_) (fun hc15 => ?_)
        · simp only [bA, bB, bC, bD, bE, bF, bG, bH, bI, bJ] at hc15
          refine jT rfl (oR 1 rfl (oZ rfl (zm rfl (zf (zd ?_)))))
          exact zl Tryz.results158 (.cons (zx (zh rfl) (Cv.eq (congrArg (fun n => D.v (.int .i64 n)) (by unfold z7; (repeat (any_goals split)) <;> omega)))) .nil) rfl HSub.none ⟨rfl, rfl⟩
        · simp only [bA, bB, bC, bD, bE, bF, bG, bH, bI, bJ] at hc15
          refine jS rfl (jk [0, 2] rfl ?_)
          refine zal 33 ((decide ((48 : Int) ≤ r) && decide (r ≤ (57 : Int)))) [] (fun _ hQ16 => ?_) ?_
          · skip
            by_cases hg17 : (48 : Int) ≤ r
            · skip
              refine za rfl (oR 1 rfl (oP rfl (zV rfl rfl (decide_eq_true hg17)) (oR 2 rfl (oG rfl (zaA rfl rfl rfl) (oR 2 rfl (ze rfl ?_))))))
              exact PD.sub ((33, dB (decide ((48 : Int) ≤ r) && decide (r ≤ (57 : Int)))) :: [(0, .v (.int .i32 r)), (2, dI 0)]) ⟨sc rfl (Cv.eq (congrArg (fun b => D.v (.bool b)) (by first | (simp [hg17]; done) | (simp_all; done)))), sk rfl, sk rfl, trivial⟩ hQ16
            · skip
              refine za rfl (oR 1 rfl (oP rfl (zV rfl rfl (decide_eq_false hg17)) (oR 5 rfl (ze rfl ?_))))
              exact PD.sub ((33, dB (decide ((48 : Int) ≤ r) && decide (r ≤ (57 : Int)))) :: [(0, .v (.int .i32 r)), (2, dI 0)]) ⟨sc rfl (Cv.eq (congrArg (fun b => D.v (.bool b)) (by first | (simp [hg17]; done) | (simp_all; done)))), sk rfl, sk rfl, trivial⟩ hQ16
          · skip
            refine zb ?_
            refine jC rfl (fun hc18 => ?_) (fun hc18 => ?_)
            · simp only [bA, bB, bC, bD, bE, bF, bG, bH, bI, bJ] at hc18
              refine jT rfl (oR 1 rfl (oZ rfl (zm rfl (zf (zd ?_)))))
              exact zl Tryz.results158 (.cons (zx (zh rfl) (Cv.eq (congrArg (fun n => D.v (.int .i64 n)) (by unfold z7; (repeat (any_goals split)) <;> omega)))) .nil) rfl HSub.none ⟨rfl, rfl⟩
            · simp only [bA, bB, bC, bD, bE, bF, bG, bH, bI, bJ] at hc18
              refine jS rfl (jk [0, 2] rfl ?_)
              refine zal 40 (((decide (r = (32 : Int)) || decide (r = (9 : Int))) || decide (r = (10 : Int)))) [] (fun _ hQ19 => ?_) ?_
              · skip
                by_cases hg20 : r = (32 : Int)
                · skip
                  refine za rfl (oR 1 rfl (oP rfl (zR rfl rfl (decide_eq_true hg20)) (oR 9 rfl (ze rfl ?_))))
                  exact PD.sub ((40, dB ((decide (r = (32 : Int)) || decide (r = (9 : Int))) || decide (r = (10 : Int)))) :: [(0, .v (.int .i32 r)), (2, dI 0)]) ⟨sc rfl (Cv.eq (congrArg (fun b => D.v (.bool b)) (by first | (simp [hg20]; done) | (simp_all; done)))), sk rfl, sk rfl, trivial⟩ hQ19
                · skip
                  by_cases hg21 : r = (9 : Int)
                  · skip
                    refine za rfl (oR 1 rfl (oP rfl (zR rfl rfl (decide_eq_false hg20)) (oR 2 rfl (oG rfl (zR rfl rfl (decide_eq_true hg21)) (oR 6 rfl (ze rfl ?_))))))
                    exact PD.sub ((40, dB ((decide (r = (32 : Int)) || decide (r = (9 : Int))) || decide (r = (10 : Int)))) :: [(0, .v (.int .i32 r)), (2, dI 0)]) ⟨sc rfl (Cv.eq (congrArg (fun b => D.v (.bool b)) (by first | (simp [hg20, hg21]; done) | (simp_all; done)))), sk rfl, sk rfl, trivial⟩ hQ19
                  · skip
                    refine za rfl (oR 1 rfl (oP rfl (zR rfl rfl (decide_eq_false hg20)) (oR 2 rfl (oG rfl (zR rfl rfl (decide_eq_false hg21)) (oR 3 rfl (oG rfl (zR rfl rfl rfl) (oR 2 rfl (ze rfl ?_))))))))
                    exact PD.sub ((40, dB ((decide (r = (32 : Int)) || decide (r = (9 : Int))) || decide (r = (10 : Int)))) :: [(0, .v (.int .i32 r)), (2, dI 0)]) ⟨sc rfl (Cv.eq (congrArg (fun b => D.v (.bool b)) (by first | (simp [hg20, hg21]; done) | (simp_all; done)))), sk rfl, sk rfl, trivial⟩ hQ19
              · skip
                refine zb ?_
                refine jC rfl (fun hc22 => ?_) (fun hc22 => ?_)
                · simp only [bA, bB, bC, bD, bE, bF, bG, bH, bI, bJ] at hc22
                  refine jT rfl (oR 1 rfl (oZ rfl (zm rfl (zf (zd ?_)))))
                  exact zl Tryz.results158 (.cons (zx (zh rfl) (Cv.eq (congrArg (fun n => D.v (.int .i64 n)) (by unfold z7; (repeat (any_goals split)) <;> omega)))) .nil) rfl HSub.none ⟨rfl, rfl⟩
                · simp only [bA, bB, bC, bD, bE, bF, bG, bH, bI, bJ] at hc22
                  refine zj rfl (zp (zb (jT rfl (oR 1 rfl (oZ rfl (zm rfl ?_))))))
                  exact zl Tryz.results158 (.cons (zx (zh rfl) (Cv.eq (congrArg (fun n => D.v (.int .i64 n)) (by unfold z7; (repeat (any_goals split)) <;> omega)))) .nil) rfl HSub.none ⟨rfl, rfl⟩

theorem zdL (s : ByteArray)  :
    CD Tryz.prog 191 [] [.s s] (isR (dB (zbw s))) := by
  refine zq Tryz.func191 rfl (N := 32) rfl rfl (fun C => ?_)
  refine jk [0] rfl ?_
  refine JD.bd 0 rfl (fun bd0 => ?_)
  have sz0 : s.size ≤ 9223372036854775807 := bd0
  refine jT rfl (oR 1 rfl (oZ rfl (jT rfl (oR 1 rfl (oZ rfl (jS rfl (jT rfl (oR 1 rfl (oE rfl (ef_range rfl Tryz.runUnderlying9) ?_)))))))))
  rintro _ _ ⟨g1, rfl, rfl⟩
  refine oZ rfl (jB rfl (jl2 (fun (a_ : Nat) (b_ : Nat) => [(8, dP g1 0), (3, dN b_)]) (fun a_ b_ => [.it g1 s a_]) (fun a_ b_ => (a_ ≤ s.size) ∧ (b_ ≤ a_) ∧ (zct 0 (zaS s) = zct b_ (zb0 s a_))) (fun a_ b_ => s.size - a_) 0 0 rfl (sa rfl) HSub.rfl' ⟨Nat.zero_le _, Nat.le_refl _, rfl⟩ ?_))
  rintro p n ⟨hp, hn, hf⟩
  refine ja rfl (jn rfl ?_)
  rcases Nat.lt_or_ge p s.size with hlt | hge
  · skip
    have hrune := zck hlt
    have hrl := decR_lt s p
    have hdw := za4 s p hlt
    have hdp := zat s p
    refine jT rfl (oE rfl (zcJ (i := 0) rfl rfl hlt) ?_)
    rintro _ _ ⟨rfl, rfl⟩
    refine on rfl (oR 1 rfl (oZ rfl (jS rfl (jCt rfl (zj rfl (zb (jB rfl (jT rfl (oR 2 rfl (oZ rfl (jS rfl (jT rfl (oR 1 rfl (oW rfl rfl acs Tryz.call206 (Kind_c ((decR s p : Nat) : Int)) (oR 1 rfl (oZ rfl (jS rfl (jk [3, 5, 6, 8, 9, 10, 11, 12, 13] rfl ?_))))))))))))))))))
    refine zal 23 ((decide (z7 ((decR s p : Nat) : Int) ≠ (1 : Int)) && (decide (z7 ((decR s p : Nat) : Int) ≠ (2 : Int)) || decide (((n : Nat) : Int) = (0 : Int))))) [.it g1 s (p + decW s p)] (fun _ hQ2 => ?_) ?_
    · skip
      by_cases hg3 : z7 ((decR s p : Nat) : Int) ≠ (1 : Int)
      · skip
        by_cases hg4 : z7 ((decR s p : Nat) : Int) ≠ (2 : Int)
        · skip
          refine za rfl (oR 1 rfl (oP rfl (zbH rfl rfl (decide_eq_true hg3)) (oR 2 rfl (oG rfl (zbH rfl rfl (decide_eq_true hg4)) (oR 5 rfl (ze rfl ?_))))))
          exact PD.sub ((23, dB (decide (z7 ((decR s p : Nat) : Int) ≠ (1 : Int)) && (decide (z7 ((decR s p : Nat) : Int) ≠ (2 : Int)) || decide (((n : Nat) : Int) = (0 : Int))))) :: [(3, dN n), (5, .v (.int .i32 ((decR s p : Nat) : Int))), (6, dI (z7 ((decR s p : Nat) : Int))), (8, dP g1 0), (9, .tup [dB true, dN p, .v (.int .i32 ((decR s p : Nat) : Int))]), (10, dB true), (11, .v (.int .i32 ((decR s p : Nat) : Int))), (12, .v (.int .i32 ((decR s p : Nat) : Int))), (13, dI (z7 ((decR s p : Nat) : Int)))]) ⟨sc rfl (Cv.eq (congrArg (fun b => D.v (.bool b)) (by first | (simp [hg3, hg4]; done) | (simp_all; done)))), sk rfl, sk rfl, sk rfl, sk rfl, sk rfl, sk rfl, sk rfl, sk rfl, sk rfl, trivial⟩ hQ2
        · skip
          refine za rfl (oR 1 rfl (oP rfl (zbH rfl rfl (decide_eq_true hg3)) (oR 2 rfl (oG rfl (zbH rfl rfl (decide_eq_false hg4)) (oR 2 rfl (oG rfl (zR rfl rfl rfl) (oR 2 rfl (ze rfl ?_))))))))
          exact PD.sub ((23, dB (decide (z7 ((decR s p : Nat) : Int) ≠ (1 : Int)) && (decide (z7 ((decR s p : Nat) : Int) ≠ (2 : Int)) || decide (((n : Nat) : Int) = (0 : Int))))) :: [(3, dN n), (5, .v (.int .i32 ((decR s p : Nat) : Int))), (6, dI (z7 ((decR s p : Nat) : Int))), (8, dP g1 0), (9, .tup [dB true, dN p, .v (.int .i32 ((decR s p : Nat) : Int))]), (10, dB true), (11, .v (.int .i32 ((decR s p : Nat) : Int))), (12, .v (.int .i32 ((decR s p : Nat) : Int))), (13, dI (z7 ((decR s p : Nat) : Int)))]) ⟨sc rfl (Cv.eq (congrArg (fun b => D.v (.bool b)) (by first | (simp [hg3, hg4]; done) | (simp_all; done)))), sk rfl, sk rfl, sk rfl, sk rfl, sk rfl, sk rfl, sk rfl, sk rfl, sk rfl, trivial⟩ hQ2
      · skip
        refine za rfl (oR 1 rfl (oP rfl (zbH rfl rfl (decide_eq_false hg3)) (oR 8 rfl (ze rfl ?_))))
        exact PD.sub ((23, dB (decide (z7 ((decR s p : Nat) : Int) ≠ (1 : Int)) && (decide (z7 ((decR s p : Nat) : Int) ≠ (2 : Int)) || decide (((n : Nat) : Int) = (0 : Int))))) :: [(3, dN n), (5, .v (.int .i32 ((decR s p : Nat) : Int))), (6, dI (z7 ((decR s p : Nat) : Int))), (8, dP g1 0), (9, .tup [dB true, dN p, .v (.int .i32 ((decR s p : Nat) : Int))]), (10, dB true), (11, .v (.int .i32 ((decR s p : Nat) : Int))), (12, .v (.int .i32 ((decR s p : Nat) : Int))), (13, dI (z7 ((decR s p : Nat) : Int)))]) ⟨sc rfl (Cv.eq (congrArg (fun b => D.v (.bool b)) (by first | (simp [hg3]; done) | (simp_all; done)))), sk rfl, sk rfl, sk rfl, sk rfl, sk rfl, sk rfl, sk rfl, sk rfl, sk rfl, trivial⟩ hQ2
    · skip
      refine zb ?_
      refine jC rfl (fun hc5 => ?_) (fun hc5 => ?_)
      · simp only [bA, bB, bC, bD, bE, bF, bG, bH, bI, bJ] at hc5
        refine jT rfl (oR 1 rfl (oZ rfl (zm rfl (zd (zf (zP (zf (zd ?_))))))))
        exact zl Tryz.results191 (.cons (zx (zh rfl) (Cv.eq (congrArg (fun b => D.v (.bool b)) (by unfold zbw; rw [hf, hrune]; rw [nameR_bad (by omega)])))) .nil) rfl HSub.none ⟨rfl, rfl⟩
      · simp only [bA, bB, bC, bD, bE, bF, bG, bH, bI, bJ] at hc5
        refine zj rfl (zb (za rfl (oR 1 rfl (oP rfl (zO (c := ((n + 1 : Nat) : Int)) rfl rfl (zB (by omega) (by omega))) (oR 1 rfl (ze rfl (zp ?_)))))))
        exact pl2 (p + decW s p) (n + 1) (sa rfl) HSub.rfl' ⟨by have := za4 s p hlt; omega, by omega, by rw [hf, hrune, nameR_next (by omega)]⟩ (by have := zat s p; omega)
  · skip
    have hrune := runesAt_ge hge
    refine jT rfl (oP rfl (p_next_f (i := 0) rfl rfl hge) (oR 1 rfl (oZ rfl (jS rfl (jCf rfl (zL rfl (zo (zn (zk (zb (jS rfl (jk [3] rfl ?_))))))))))))
    refine zal 2 ((decide ((1 : Int) ≤ ((n : Nat) : Int)) && decide (((n : Nat) : Int) ≤ (30 : Int)))) [.it g1 s p] (fun _ hQ6 => ?_) ?_
    · skip
      by_cases hg7 : (1 : Int) ≤ ((n : Nat) : Int)
      · skip
        refine za rfl (oR 1 rfl (oP rfl (zV rfl rfl (decide_eq_true hg7)) (oR 2 rfl (oG rfl (zaA rfl rfl rfl) (oR 2 rfl (ze rfl ?_))))))
        exact PD.sub ((2, dB (decide ((1 : Int) ≤ ((n : Nat) : Int)) && decide (((n : Nat) : Int) ≤ (30 : Int)))) :: [(3, dN n)]) ⟨sc rfl (Cv.eq (congrArg (fun b => D.v (.bool b)) (by first | (simp [hg7]; done) | (simp_all; done)))), sk rfl, trivial⟩ hQ6
      · skip
        refine za rfl (oR 1 rfl (oP rfl (zV rfl rfl (decide_eq_false hg7)) (oR 5 rfl (ze rfl ?_))))
        exact PD.sub ((2, dB (decide ((1 : Int) ≤ ((n : Nat) : Int)) && decide (((n : Nat) : Int) ≤ (30 : Int)))) :: [(3, dN n)]) ⟨sc rfl (Cv.eq (congrArg (fun b => D.v (.bool b)) (by first | (simp [hg7]; done) | (simp_all; done)))), sk rfl, trivial⟩ hQ6
    · skip
      refine zb (zm rfl ?_)
      exact zl Tryz.results191 (.cons (zx (zh rfl) (Cv.eq (congrArg (fun b => D.v (.bool b)) (by unfold zbw; rw [hf, hrune]; simp only [zct]; congr 1 <;> exact decide_eq_decide.2 (by omega))))) .nil) rfl HSub.none ⟨rfl, rfl⟩

theorem refSpell_c (s : ByteArray) (hs : s.size ≤ 1000000000) :
    CD Tryz.prog 157 [] [.s s] (zcU 1 21 ((zaS s).map dR)) := by
  refine zq Tryz.func157 rfl (N := 16) rfl rfl (fun C => ?_)
  refine jk [0] rfl ?_
  refine JD.bd 0 rfl (fun bd0 => ?_)
  have sz0 : s.size ≤ 9223372036854775807 := bd0
  refine jT rfl (oR 1 rfl (oZ rfl (jT rfl (oR 1 rfl (oZ rfl (jS rfl (jT rfl (oR 1 rfl (oE rfl (ef_range rfl Tryz.runUnderlying9) ?_)))))))))
  rintro _ _ ⟨g1, rfl, rfl⟩
  refine oZ rfl (jB rfl (jl3 (fun (a_ : Nat) (b_ : Value) (c_ : List Int) => [(2, dZ), (7, dP g1 0), (3, .ov b_)]) (fun a_ b_ c_ => [.it g1 s a_, .sl b_ 1 21 (c_.map dR)]) (fun a_ b_ c_ => (a_ ≤ s.size) ∧ (c_.length ≤ a_) ∧ (zaS s = c_ ++ zb0 s a_)) (fun a_ b_ c_ => s.size - a_) 0 (.slice none 0 0) [] rfl ⟨sk rfl, sk rfl, sc rfl (Cv.ov rfl), trivial⟩ (HSub.trans (HSub.nil 1 21) (HSub.perm (List.Perm.swap _ _ _))) ⟨Nat.zero_le _, Nat.le_refl _, rfl⟩ ?_))
  rintro p ov l ⟨hp, hn, hf⟩
  refine ja rfl (jn rfl ?_)
  rcases Nat.lt_or_ge p s.size with hlt | hge
  · skip
    have hrune := zck hlt
    have hrl := decR_lt s p
    have hdw := za4 s p hlt
    have hdp := zat s p
    refine jT rfl (oE rfl (zcJ (i := 0) rfl rfl hlt) ?_)
    rintro _ _ ⟨rfl, rfl⟩
    refine on rfl (oR 1 rfl (oZ rfl (jS rfl (jCt rfl (zj rfl (zb (jB rfl (jT rfl (oR 2 rfl (oZ rfl (za rfl (oR 2 rfl (oE rfl (zap [.tmp 12] rfl rfl (.cons (CellD.v rfl) .nil) rfl Tryz.runUnderlying124 Tryz.sizeOf21 Tryz.zeroValue21 rfl rfl rfl rfl) ?_)))))))))))))
    rintro _ _ ⟨g2, rfl, rfl⟩
    refine oE rfl (zac (f := dR) (l := l) (l' := [((decR s p : Nat) : Int)]) (i := 2) rfl rfl rfl (SrcD.own (j := 0) rfl rfl) und_124 infz_21 rfl rfl (by unfold maxLen; (try simp only [la, lc, ln, lm, lt', ld, ls, lr]); omega) (by (try simp only [la, lc, ln, lm, lt', ld, ls, lr]); omega)) ?_
    rintro _ _ ⟨v3, rfl, rfl⟩
    refine on rfl (oR 1 rfl (ze rfl (zp ?_)))
    exact pl3 (p + decW s p) v3 (l ++ [((decR s p : Nat) : Int)]) (sa rfl) (HSub.lst 1 rfl) ⟨by have := za4 s p hlt; omega, by rw [List.length_append, List.length_singleton]; omega, by rw [hf, hrune, List.append_assoc]; rfl⟩ (by have := zat s p; omega)
  · skip
    have hrune := runesAt_ge hge
    refine jT rfl (oP rfl (p_next_f (i := 0) rfl rfl hge) (oR 1 rfl (oZ rfl (jS rfl (jCf rfl (zL rfl (zo (zn (zk (zb (jT rfl (oR 2 rfl (oZ rfl (zm rfl (PD.subH (HSub.less (zbr (i := 1) rfl)) (PD.subH (HSub.turn (h' := .sl ov 1 21 ((zaS s).map dR)) rfl (Hp.eq_sl (show List.map dR l = List.map dR (zaS s) from congrArg _ (by rw [hf, hrune, List.append_nil])))) ?_))))))))))))))))
    exact zbn Tryz.results157 (.cons (zh rfl) .nil) rfl ⟨_, rfl, rfl⟩

theorem refName_c (s : ByteArray) (hs : s.size ≤ 1000000000) :
    CD Tryz.prog 109 [] [.s s] (isR (dB (zbw s))) := by
  refine zq Tryz.func109 rfl (N := 42) rfl rfl (fun C => ?_)
  refine jk [0] rfl ?_
  refine JD.bd 0 rfl (fun bd0 => ?_)
  have sz0 : s.size ≤ 9223372036854775807 := bd0
  refine jT rfl (oR 1 rfl (oZ rfl (jT rfl (oR 1 rfl (oE rfl (zN [] _ [] rfl rfl (.cons ArgC.id .nil) zz Tryz.call157 (refSpell_c s (by omega)) (.inl rfl)) ?_)))))
  rintro _ _ ⟨_, ⟨v1, rfl, rfl⟩, rfl⟩
  refine on rfl (oR 1 rfl (oZ rfl (jS rfl (jS rfl ?_))))
  by_cases hg2 : (((zaS s).length : Nat) : Int) < (1 : Int)
  · skip
    refine za rfl (oR 1 rfl (oP rfl (zU (n := (zaS s).length) (j := 0) rfl rfl Tryz.runUnderlying124 (List.length_map _)) (oP rfl (zQ rfl rfl (decide_eq_true hg2)) (oR 12 rfl (oZ rfl (jk [2, 3, 21] rfl (jCt rfl (jT rfl (oR 1 rfl (oZ rfl (zm rfl (zd ?_))))))))))))
    exact zl Tryz.results109 (.cons (zx (zh rfl) (Cv.eq (congrArg (fun b => D.v (.bool b)) (by unfold zbw; rw [zbK]; first | (rw [List.take_of_length_le (by omega)] at hw; rw [List.getD_eq_getElem?_getD, hx1, hw]; simp; omega) | (rw [List.getD_eq_getElem?_getD, hx1]; simp; omega) | (simp; omega))))) .nil) rfl HSub.none ⟨rfl, rfl⟩
  · skip
    by_cases hg3 : (30 : Int) < (((zaS s).length : Nat) : Int)
    · skip
      refine za rfl (oR 1 rfl (oP rfl (zU (n := (zaS s).length) (j := 0) rfl rfl Tryz.runUnderlying124 (List.length_map _)) (oP rfl (zQ rfl rfl (decide_eq_false hg2)) (oR 2 rfl (oG rfl (zU (n := (zaS s).length) (j := 0) rfl rfl Tryz.runUnderlying124 (List.length_map _)) (oG rfl (zah rfl rfl (decide_eq_true hg3)) (oR 8 rfl (oZ rfl (jk [2, 3, 21] rfl (jCt rfl (jT rfl (oR 1 rfl (oZ rfl (zm rfl (zd ?_)))))))))))))))
      exact zl Tryz.results109 (.cons (zx (zh rfl) (Cv.eq (congrArg (fun b => D.v (.bool b)) (by unfold zbw; rw [zbK]; first | (rw [List.take_of_length_le (by omega)] at hw; rw [List.getD_eq_getElem?_getD, hx1, hw]; simp; omega) | (rw [List.getD_eq_getElem?_getD, hx1]; simp; omega) | (simp; omega))))) .nil) rfl HSub.none ⟨rfl, rfl⟩
    · skip
      refine za rfl (oR 1 rfl (oP rfl (zU (n := (zaS s).length) (j := 0) rfl rfl Tryz.runUnderlying124 (List.length_map _)) (oP rfl (zQ rfl rfl (decide_eq_false hg2)) (oR 2 rfl (oG rfl (zU (n := (zaS s).length) (j := 0) rfl rfl Tryz.runUnderlying124 (List.length_map _)) (oG rfl (zah rfl rfl (decide_eq_false hg3)) (oR 3 rfl ?_)))))))
      obtain ⟨x1, hx1⟩ := zy (zaS s) 0 (by omega)
      refine oG rfl (zi (k := 0) (j := 0) rfl rfl rfl Tryz.runUnderlying124 Tryz.sizeOf21 (by first | rfl | omega) (zg hx1)) (oG rfl (z8 rfl (i := 0) rfl (zg hx1) Tryz.isAgg21 rfl) (oV rfl rfl acs Tryz.call158 (refKind_c x1) (oG rfl (zbH rfl rfl rfl) (oR 1 rfl (oZ rfl (jk [2, 3, 21] rfl ?_))))))
      refine jD rfl (fun hc4 => ?_) (fun hc4 => ?_)
      · skip
        refine jT rfl (oR 1 rfl (oZ rfl (zm rfl (zd ?_))))
        exact zl Tryz.results109 (.cons (zx (zh rfl) (Cv.eq (congrArg (fun b => D.v (.bool b)) (by unfold zbw; rw [zbK]; first | (rw [wordR_bad hx1 (by omega)]; simp; done) | (rw [List.take_of_length_le (by omega)] at hw; rw [List.getD_eq_getElem?_getD, hx1, hw]; simp; omega) | (rw [List.getD_eq_getElem?_getD, hx1]; simp; omega) | (simp; omega))))) .nil) rfl HSub.none ⟨rfl, rfl⟩
      · skip
        refine zj rfl (zb (jS rfl (jT rfl (oR 1 rfl (oZ rfl (jB rfl (jl1 (fun (a_ : Nat) => [(3, .ov v1), (4, dN a_)]) (fun a_ => [.sl v1 1 21 ((zaS s).map dR)]) (fun a_ => (a_ ≤ (zaS s).length) ∧ (zcw ((zaS s).take a_) = true)) (fun a_ => (zaS s).length - a_) 0 rfl (sa rfl) HSub.rfl' ⟨Nat.zero_le _, rfl⟩ ?_)))))))
        rintro k ⟨hk, hw⟩
        refine ja rfl (jn rfl (jS rfl (jT rfl (oR 2 rfl (oP rfl (zU (n := (zaS s).length) (j := 0) rfl rfl Tryz.runUnderlying124 (List.length_map _)) (oP rfl (zQ rfl rfl rfl) (oZ rfl ?_)))))))
        refine jD rfl (fun hc5 => ?_) (fun hc5 => ?_)
        · skip
          refine zj rfl (zb (jS rfl (jB rfl (jS rfl ?_))))
          obtain ⟨x2, hx2⟩ := zy (zaS s) k (by omega)
          refine jk [3, 4, 22, 23, 24, 25] rfl ?_
          refine zal 41 ((decide (z7 x2 ≠ (1 : Int)) && decide (z7 x2 ≠ (2 : Int)))) [.sl v1 1 21 ((zaS s).map dR)] (fun _ hQ6 => ?_) ?_
          · skip
            by_cases hg7 : z7 x2 ≠ (1 : Int)
            · skip
              refine za rfl (oR 2 rfl (oP rfl (zi (k := k) (j := 0) rfl rfl rfl Tryz.runUnderlying124 Tryz.sizeOf21 (by first | rfl | omega) (zg hx2)) (oP rfl (z8 rfl (i := 0) rfl (zg hx2) Tryz.isAgg21 rfl) (oW rfl rfl acs Tryz.call158 (refKind_c x2) (oP rfl (zbH rfl rfl (decide_eq_true hg7)) (oR 3 rfl (oG rfl (zi (k := k) (j := 0) rfl rfl rfl Tryz.runUnderlying124 Tryz.sizeOf21 (by first | rfl | omega) (zg hx2)) (oG rfl (z8 rfl (i := 0) rfl (zg hx2) Tryz.isAgg21 rfl) (oV rfl rfl acs Tryz.call158 (refKind_c x2) (oG rfl (zbH rfl rfl rfl) (oR 1 rfl (ze rfl ?_))))))))))))
              exact PD.sub ((41, dB (decide (z7 x2 ≠ (1 : Int)) && decide (z7 x2 ≠ (2 : Int)))) :: [(3, .ov v1), (4, dN k), (22, dN k), (23, .ov v1), (24, dN ((zaS s).length)), (25, dB (decide (((k : Nat) : Int) < (((zaS s).length : Nat) : Int))))]) ⟨sc rfl (Cv.eq (congrArg (fun b => D.v (.bool b)) (by first | (simp [hc5, hg7]; done) | (simp_all; done)))), sk rfl, sk rfl, sk rfl, sk rfl, sk rfl, sk rfl, trivial⟩ hQ6
            · skip
              refine za rfl (oR 2 rfl (oP rfl (zi (k := k) (j := 0) rfl rfl rfl Tryz.runUnderlying124 Tryz.sizeOf21 (by first | rfl | omega) (zg hx2)) (oP rfl (z8 rfl (i := 0) rfl (zg hx2) Tryz.isAgg21 rfl) (oW rfl rfl acs Tryz.call158 (refKind_c x2) (oP rfl (zbH rfl rfl (decide_eq_false hg7)) (oR 8 rfl (ze rfl ?_)))))))
              exact PD.sub ((41, dB (decide (z7 x2 ≠ (1 : Int)) && decide (z7 x2 ≠ (2 : Int)))) :: [(3, .ov v1), (4, dN k), (22, dN k), (23, .ov v1), (24, dN ((zaS s).length)), (25, dB (decide (((k : Nat) : Int) < (((zaS s).length : Nat) : Int))))]) ⟨sc rfl (Cv.eq (congrArg (fun b => D.v (.bool b)) (by first | (simp [hc5, hg7]; done) | (simp_all; done)))), sk rfl, sk rfl, sk rfl, sk rfl, sk rfl, sk rfl, trivial⟩ hQ6
          · skip
            refine zb ?_
            refine jC rfl (fun hc8 => ?_) (fun hc8 => ?_)
            · simp only [bA, bB, bC, bD, bE, bF, bG, bH, bI, bJ] at hc8
              refine jT rfl (oR 1 rfl (oZ rfl (zm rfl (zf (zd (zP (zf (zd ?_))))))))
              exact zl Tryz.results109 (.cons (zx (zh rfl) (Cv.eq (congrArg (fun b => D.v (.bool b)) (by unfold zbw; rw [zbK]; first | (rw [wordR_bad hx2 (by omega)]; simp; done) | (rw [List.take_of_length_le (by omega)] at hw; rw [List.getD_eq_getElem?_getD, hx1, hw]; simp; omega) | (rw [List.getD_eq_getElem?_getD, hx1]; simp; omega) | (simp; omega))))) .nil) rfl HSub.none ⟨rfl, rfl⟩
            · simp only [bA, bB, bC, bD, bE, bF, bG, bH, bI, bJ] at hc8
              refine zj rfl (zp (zb (za rfl (oR 1 rfl (oP rfl (zO (c := ((k + 1 : Nat) : Int)) rfl rfl (zB (by omega) (by omega))) (oR 1 rfl (ze rfl ?_)))))))
              exact pl1 (k + 1) (sa rfl) HSub.rfl' ⟨by omega, wordR_take hx2 hw (by omega)⟩ (by omega)
        · skip
          refine zL rfl (zo (zn (zk (zb (jT rfl (oR 1 rfl (oZ rfl (zm rfl ?_))))))))
          exact zl Tryz.results109 (.cons (zx (zh rfl) (Cv.eq (congrArg (fun b => D.v (.bool b)) (by unfold zbw; rw [zbK]; first | (rw [List.take_of_length_le (by omega)] at hw; rw [List.getD_eq_getElem?_getD, hx1, hw]; simp; omega) | (rw [List.getD_eq_getElem?_getD, hx1]; simp; omega) | (simp; omega))))) .nil) rfl HSub.none ⟨rfl, rfl⟩
end Lp
