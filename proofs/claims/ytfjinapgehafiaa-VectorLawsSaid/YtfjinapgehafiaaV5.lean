/- Walks, printed by a program of mine. -/
import Derived.Test.YtfjinapgehafiaaPGlyph
set_option linter.unusedSimpArgs false
set_option linter.unusedVariables false
namespace Lp
open Go Go.RowKit Go.Proofs

namespace HdYtfjinapgehafiaaV5
theorem infz_21 : ∃ i, Try.prog.info? 21 = some i ∧ i.zero = some (.int .i32 0) ∧ i.size = 1 ∧ i.bytes = 4 := zbG (by kernel_rfl)
theorem und_71 : Try.prog.underlying 71 = some (.slice 21) := by kernel_rfl
end HdYtfjinapgehafiaaV5
open HdYtfjinapgehafiaaV5

set_option maxHeartbeats 4000000 in
set_option maxRecDepth 100000 in
theorem Kind_c (r : Int)  :
    CD Try.prog 83 [] [.v (.int .i32 r)] (isR (dI (zah r))) := by
  refine zL Try.func83 rfl (N := 51) rfl rfl (fun C => ?_)
  refine JD.keep [0] [(0, .v (.int .i32 r))] rfl (zh _ _ rfl rfl rfl (zc rfl (za rfl rfl (ze rfl) (zg rfl (zf (zh _ _ rfl rfl rfl (zy _ rfl rfl (zh _ _ rfl rfl rfl (JD.keep [0, 2] [(0, .v (.int .i32 r)), (2, dI 0)] rfl ?_)))))))))
  refine zaj 3 ((decide (r < (0 : Int)) || decide (r = (65533 : Int)))) [] (fun _ hQ1 => ?_) ?_
  · skip
    by_cases hg2 : r < (0 : Int)
    · skip
      refine zc rfl (za rfl rfl (zb rfl) (za rfl rfl (zaa rfl rfl (decide_eq_true hg2)) (za rfl rfl (zb rfl) (zj rfl rfl rfl rfl rfl (by decide) (zj rfl rfl rfl rfl rfl (by decide) (za rfl rfl (zr rfl rfl) (za rfl rfl (ze rfl) (zg rfl ?_))))))))
      exact PD.sub ((3, dB (decide (r < (0 : Int)) || decide (r = (65533 : Int)))) :: [(0, .v (.int .i32 r)), (2, dI 0)]) ⟨sc rfl (Cv.eq (congrArg (fun b => D.v (.bool b)) (by first | (simp [hg2]; done) | (simp_all; done)))), sk rfl, sk rfl, trivial⟩ hQ1
    · skip
      refine zc rfl (za rfl rfl (zb rfl) (za rfl rfl (zaa rfl rfl (decide_eq_false hg2)) (za rfl rfl (zb rfl) (zi rfl rfl rfl rfl rfl (zb rfl) (zi rfl rfl rfl rfl rfl (zY rfl rfl rfl) (za rfl rfl (zm rfl rfl) (za rfl rfl (ze rfl) (zg rfl ?_))))))))
      exact PD.sub ((3, dB (decide (r < (0 : Int)) || decide (r = (65533 : Int)))) :: [(0, .v (.int .i32 r)), (2, dI 0)]) ⟨sc rfl (Cv.eq (congrArg (fun b => D.v (.bool b)) (by first | (simp [hg2]; done) | (simp_all; done)))), sk rfl, sk rfl, trivial⟩ hQ1
  · skip
    refine zf ?_
    refine zu _ _ rfl rfl rfl rfl (fun hc3 => ?_) (fun hc3 => ?_)
    · simp only [Bool.and_eq_true, Bool.or_eq_true, Bool.not_eq_true', Bool.not_eq_false', Bool.and_eq_false_iff, Bool.or_eq_false_iff, decide_eq_true_eq, decide_eq_false_iff_not, Decidable.not_not, ne_eq] at hc3
      refine zh _ _ rfl rfl rfl (zc rfl (za rfl rfl (ze rfl) (zg rfl (zf (zB rfl (zn (zp ?_)))))))
      exact zx Try.results83 (.cons (zM (zs rfl) (Cv.eq (congrArg (fun n => D.v (.int .i64 n)) (by unfold zah; (repeat (any_goals split)) <;> omega)))) .nil) rfl HSub.none ⟨rfl, rfl⟩
    · simp only [Bool.and_eq_true, Bool.or_eq_true, Bool.not_eq_true', Bool.not_eq_false', Bool.and_eq_false_iff, Bool.or_eq_false_iff, decide_eq_true_eq, decide_eq_false_iff_not, Decidable.not_not, ne_eq] at hc3
      refine zh _ _ rfl rfl rfl (JD.keep [0, 2] [(0, .v (.int .i32 r)), (2, dI 0)] rfl ?_)
      refine zaj 10 (((((decide ((97 : Int) ≤ r) && decide (r ≤ (122 : Int))) || (decide ((65 : Int) ≤ r) && decide (r ≤ (90 : Int)))) || decide (r = (95 : Int))) || decide ((128 : Int) ≤ r))) [] (fun _ hQ4 => ?_) ?_
      · skip
        by_cases hg5 : (97 : Int) ≤ r
        · skip
          by_cases hg6 : r ≤ (122 : Int)
          · skip
            refine zc rfl (za rfl rfl (zb rfl) (za rfl rfl (zac rfl rfl (decide_eq_true hg5)) (za rfl rfl (zb rfl) (zi rfl rfl rfl rfl rfl (zb rfl) (zi rfl rfl rfl rfl rfl (zaS rfl rfl (decide_eq_true hg6)) (za rfl rfl (zr rfl rfl) (za rfl rfl (zb rfl) (zj rfl rfl rfl rfl rfl (by decide) (zj rfl rfl rfl rfl rfl (by decide) (zj rfl rfl rfl rfl rfl (by decide) (zj rfl rfl rfl rfl rfl (by decide) (zj rfl rfl rfl rfl rfl (by decide) (zj rfl rfl rfl rfl rfl (by decide) (za rfl rfl (zr rfl rfl) (za rfl rfl (zb rfl) (zj rfl rfl rfl rfl rfl (by decide) (zj rfl rfl rfl rfl rfl (by decide) (za rfl rfl (zr rfl rfl) (za rfl rfl (zb rfl) (zj rfl rfl rfl rfl rfl (by decide) (zj rfl rfl rfl rfl rfl (by decide) (za rfl rfl (zr rfl rfl) (za rfl rfl (ze rfl) (zg rfl ?_))))))))))))))))))))))))
            exact PD.sub ((10, dB ((((decide ((97 : Int) ≤ r) && decide (r ≤ (122 : Int))) || (decide ((65 : Int) ≤ r) && decide (r ≤ (90 : Int)))) || decide (r = (95 : Int))) || decide ((128 : Int) ≤ r))) :: [(0, .v (.int .i32 r)), (2, dI 0)]) ⟨sc rfl (Cv.eq (congrArg (fun b => D.v (.bool b)) (by first | (simp [hg5, hg6]; done) | (simp_all; done)))), sk rfl, sk rfl, trivial⟩ hQ4
          · skip
            by_cases hg7 : (65 : Int) ≤ r
            · skip
              by_cases hg8 : r ≤ (90 : Int)
              · skip
                refine zc rfl (za rfl rfl (zb rfl) (za rfl rfl (zac rfl rfl (decide_eq_true hg5)) (za rfl rfl (zb rfl) (zi rfl rfl rfl rfl rfl (zb rfl) (zi rfl rfl rfl rfl rfl (zaS rfl rfl (decide_eq_false hg6)) (za rfl rfl (zr rfl rfl) (za rfl rfl (zb rfl) (zi rfl rfl rfl rfl rfl (zb rfl) (zi rfl rfl rfl rfl rfl (zac rfl rfl (decide_eq_true hg7)) (zi rfl rfl rfl rfl rfl (zb rfl) (zi rfl rfl rfl rfl rfl (zb rfl) (zi rfl rfl rfl rfl rfl (zaS rfl rfl (decide_eq_true hg8)) (zi rfl rfl rfl rfl rfl (zr rfl rfl) (za rfl rfl (zm rfl rfl) (za rfl rfl (zb rfl) (zj rfl rfl rfl rfl rfl (by decide) (zj rfl rfl rfl rfl rfl (by decide) (za rfl rfl (zr rfl rfl) (za rfl rfl (zb rfl) (zj rfl rfl rfl rfl rfl (by decide) (zj rfl rfl rfl rfl rfl (by decide) (za rfl rfl (zr rfl rfl) (za rfl rfl (ze rfl) (zg rfl ?_))))))))))))))))))))))))
                exact PD.sub ((10, dB ((((decide ((97 : Int) ≤ r) && decide (r ≤ (122 : Int))) || (decide ((65 : Int) ≤ r) && decide (r ≤ (90 : Int)))) || decide (r = (95 : Int))) || decide ((128 : Int) ≤ r))) :: [(0, .v (.int .i32 r)), (2, dI 0)]) ⟨sc rfl (Cv.eq (congrArg (fun b => D.v (.bool b)) (by first | (simp [hg5, hg6, hg7, hg8]; done) | (simp_all; done)))), sk rfl, sk rfl, trivial⟩ hQ4
              · skip
                by_cases hg9 : r = (95 : Int)
                · skip
                  refine zc rfl (za rfl rfl (zb rfl) (za rfl rfl (zac rfl rfl (decide_eq_true hg5)) (za rfl rfl (zb rfl) (zi rfl rfl rfl rfl rfl (zb rfl) (zi rfl rfl rfl rfl rfl (zaS rfl rfl (decide_eq_false hg6)) (za rfl rfl (zr rfl rfl) (za rfl rfl (zb rfl) (zi rfl rfl rfl rfl rfl (zb rfl) (zi rfl rfl rfl rfl rfl (zac rfl rfl (decide_eq_true hg7)) (zi rfl rfl rfl rfl rfl (zb rfl) (zi rfl rfl rfl rfl rfl (zb rfl) (zi rfl rfl rfl rfl rfl (zaS rfl rfl (decide_eq_false hg8)) (zi rfl rfl rfl rfl rfl (zr rfl rfl) (za rfl rfl (zm rfl rfl) (za rfl rfl (zb rfl) (zi rfl rfl rfl rfl rfl (zb rfl) (zi rfl rfl rfl rfl rfl (zY rfl rfl (decide_eq_true hg9)) (za rfl rfl (zm rfl rfl) (za rfl rfl (zb rfl) (zj rfl rfl rfl rfl rfl (by decide) (zj rfl rfl rfl rfl rfl (by decide) (za rfl rfl (zr rfl rfl) (za rfl rfl (ze rfl) (zg rfl ?_))))))))))))))))))))))))
                  exact PD.sub ((10, dB ((((decide ((97 : Int) ≤ r) && decide (r ≤ (122 : Int))) || (decide ((65 : Int) ≤ r) && decide (r ≤ (90 : Int)))) || decide (r = (95 : Int))) || decide ((128 : Int) ≤ r))) :: [(0, .v (.int .i32 r)), (2, dI 0)]) ⟨sc rfl (Cv.eq (congrArg (fun b => D.v (.bool b)) (by first | (simp [hg5, hg6, hg7, hg8, hg9]; done) | (simp_all; done)))), sk rfl, sk rfl, trivial⟩ hQ4
                · skip
                  refine zc rfl (za rfl rfl (zb rfl) (za rfl rfl (zac rfl rfl (decide_eq_true hg5)) (za rfl rfl (zb rfl) (zi rfl rfl rfl rfl rfl (zb rfl) (zi rfl rfl rfl rfl rfl (zaS rfl rfl (decide_eq_false hg6)) (za rfl rfl (zr rfl rfl) (za rfl rfl (zb rfl) (zi rfl rfl rfl rfl rfl (zb rfl) (zi rfl rfl rfl rfl rfl (zac rfl rfl (decide_eq_true hg7)) (zi rfl rfl rfl rfl rfl (zb rfl) (zi rfl rfl rfl rfl rfl (zb rfl) (zi rfl rfl rfl rfl rfl (zaS rfl rfl (decide_eq_false hg8)) (zi rfl rfl rfl rfl rfl (zr rfl rfl) (za rfl rfl (zm rfl rfl) (za rfl rfl (zb rfl) (zi rfl rfl rfl rfl rfl (zb rfl) (zi rfl rfl rfl rfl rfl (zY rfl rfl (decide_eq_false hg9)) (za rfl rfl (zm rfl rfl) (za rfl rfl (zb rfl) (zi rfl rfl rfl rfl rfl (zb rfl) (zi rfl rfl rfl rfl rfl (zac rfl rfl rfl) (za rfl rfl (zm rfl rfl) (za rfl rfl (ze rfl) (zg rfl ?_))))))))))))))))))))))))
                  exact PD.sub ((10, dB ((((decide ((97 : Int) ≤ r) && decide (r ≤ (122 : Int))) || (decide ((65 : Int) ≤ r) && decide (r ≤ (90 : Int)))) || decide (r = (95 : Int))) || decide ((128 : Int) ≤ r))) :: [(0, .v (.int .i32 r)), (2, dI 0)]) ⟨sc rfl (Cv.eq (congrArg (fun b => D.v (.bool b)) (by first | (simp [hg5, hg6, hg7, hg8, hg9]; done) | (simp_all; done)))), sk rfl, sk rfl, trivial⟩ hQ4
            · skip
              by_cases hg10 : r = (95 : Int)
              · skip
                refine zc rfl (za rfl rfl (zb rfl) (za rfl rfl (zac rfl rfl (decide_eq_true hg5)) (za rfl rfl (zb rfl) (zi rfl rfl rfl rfl rfl (zb rfl) (zi rfl rfl rfl rfl rfl (zaS rfl rfl (decide_eq_false hg6)) (za rfl rfl (zr rfl rfl) (za rfl rfl (zb rfl) (zi rfl rfl rfl rfl rfl (zb rfl) (zi rfl rfl rfl rfl rfl (zac rfl rfl (decide_eq_false hg7)) (zi rfl rfl rfl rfl rfl (zb rfl) (zj rfl rfl rfl rfl rfl (by decide) (zj rfl rfl rfl rfl rfl (by decide) (zi rfl rfl rfl rfl rfl (zm rfl rfl) (za rfl rfl (zm rfl rfl) (za rfl rfl (zb rfl) (zi rfl rfl rfl rfl rfl (zb rfl) (zi rfl rfl rfl rfl rfl (zY rfl rfl (decide_eq_true hg10)) (za rfl rfl (zm rfl rfl) (za rfl rfl (zb rfl) (zj rfl rfl rfl rfl rfl (by decide) (zj rfl rfl rfl rfl rfl (by decide) (za rfl rfl (zr rfl rfl) (za rfl rfl (ze rfl) (zg rfl ?_))))))))))))))))))))))))
                exact PD.sub ((10, dB ((((decide ((97 : Int) ≤ r) && decide (r ≤ (122 : Int))) || (decide ((65 : Int) ≤ r) && decide (r ≤ (90 : Int)))) || decide (r = (95 : Int))) || decide ((128 : Int) ≤ r))) :: [(0, .v (.int .i32 r)), (2, dI 0)]) ⟨sc rfl (Cv.eq (congrArg (fun b => D.v (.bool b)) (by first | (simp [hg10, hg5, hg6, hg7]; done) | (simp_all; done)))), sk rfl, sk rfl, trivial⟩ hQ4
              · skip
                refine zc rfl (za rfl rfl (zb rfl) (za rfl rfl (zac rfl rfl (decide_eq_true hg5)) (za rfl rfl (zb rfl) (zi rfl rfl rfl rfl rfl (zb rfl) (zi rfl rfl rfl rfl rfl (zaS rfl rfl (decide_eq_false hg6)) (za rfl rfl (zr rfl rfl) (za rfl rfl (zb rfl) (zi rfl rfl rfl rfl rfl (zb rfl) (zi rfl rfl rfl rfl rfl (zac rfl rfl (decide_eq_false hg7)) (zi rfl rfl rfl rfl rfl (zb rfl) (zj rfl rfl rfl rfl rfl (by decide) (zj rfl rfl rfl rfl rfl (by decide) (zi rfl rfl rfl rfl rfl (zm rfl rfl) (za rfl rfl (zm rfl rfl) (za rfl rfl (zb rfl) (zi rfl rfl rfl rfl rfl (zb rfl) (zi rfl rfl rfl rfl rfl (zY rfl rfl (decide_eq_false hg10)) (za rfl rfl (zm rfl rfl) (za rfl rfl (zb rfl) (zi rfl rfl rfl rfl rfl (zb rfl) (zi rfl rfl rfl rfl rfl (zac rfl rfl rfl) (za rfl rfl (zm rfl rfl) (za rfl rfl (ze rfl) (zg rfl ?_))))))))))))))))))))))))
                exact PD.sub ((10, dB ((((decide ((97 : Int) ≤ r) && decide (r ≤ (122 : Int))) || (decide ((65 : Int) ≤ r) && decide (r ≤ (90 : Int)))) || decide (r = (95 : Int))) || decide ((128 : Int) ≤ r))) :: [(0, .v (.int .i32 r)), (2, dI 0)]) ⟨sc rfl (Cv.eq (congrArg (fun b => D.v (.bool b)) (by first | (simp [hg10, hg5, hg6, hg7]; done) | (simp_all; done)))), sk rfl, sk rfl, trivial⟩ hQ4
        · skip
          by_cases hg11 : (65 : Int) ≤ r
          · skip
            by_cases hg12 : r ≤ (90 : Int)
            · skip
              refine zc rfl (za rfl rfl (zb rfl) (za rfl rfl (zac rfl rfl (decide_eq_false hg5)) (za rfl rfl (zb rfl) (zj rfl rfl rfl rfl rfl (by decide) (zj rfl rfl rfl rfl rfl (by decide) (za rfl rfl (zm rfl rfl) (za rfl rfl (zb rfl) (zi rfl rfl rfl rfl rfl (zb rfl) (zi rfl rfl rfl rfl rfl (zac rfl rfl (decide_eq_true hg11)) (zi rfl rfl rfl rfl rfl (zb rfl) (zi rfl rfl rfl rfl rfl (zb rfl) (zi rfl rfl rfl rfl rfl (zaS rfl rfl (decide_eq_true hg12)) (zi rfl rfl rfl rfl rfl (zr rfl rfl) (za rfl rfl (zm rfl rfl) (za rfl rfl (zb rfl) (zj rfl rfl rfl rfl rfl (by decide) (zj rfl rfl rfl rfl rfl (by decide) (za rfl rfl (zr rfl rfl) (za rfl rfl (zb rfl) (zj rfl rfl rfl rfl rfl (by decide) (zj rfl rfl rfl rfl rfl (by decide) (za rfl rfl (zr rfl rfl) (za rfl rfl (ze rfl) (zg rfl ?_))))))))))))))))))))))))
              exact PD.sub ((10, dB ((((decide ((97 : Int) ≤ r) && decide (r ≤ (122 : Int))) || (decide ((65 : Int) ≤ r) && decide (r ≤ (90 : Int)))) || decide (r = (95 : Int))) || decide ((128 : Int) ≤ r))) :: [(0, .v (.int .i32 r)), (2, dI 0)]) ⟨sc rfl (Cv.eq (congrArg (fun b => D.v (.bool b)) (by first | (simp [hg11, hg12, hg5]; done) | (simp_all; done)))), sk rfl, sk rfl, trivial⟩ hQ4
            · skip
              by_cases hg13 : r = (95 : Int)
              · skip
                refine zc rfl (za rfl rfl (zb rfl) (za rfl rfl (zac rfl rfl (decide_eq_false hg5)) (za rfl rfl (zb rfl) (zj rfl rfl rfl rfl rfl (by decide) (zj rfl rfl rfl rfl rfl (by decide) (za rfl rfl (zm rfl rfl) (za rfl rfl (zb rfl) (zi rfl rfl rfl rfl rfl (zb rfl) (zi rfl rfl rfl rfl rfl (zac rfl rfl (decide_eq_true hg11)) (zi rfl rfl rfl rfl rfl (zb rfl) (zi rfl rfl rfl rfl rfl (zb rfl) (zi rfl rfl rfl rfl rfl (zaS rfl rfl (decide_eq_false hg12)) (zi rfl rfl rfl rfl rfl (zr rfl rfl) (za rfl rfl (zm rfl rfl) (za rfl rfl (zb rfl) (zi rfl rfl rfl rfl rfl (zb rfl) (zi rfl rfl rfl rfl rfl (zY rfl rfl (decide_eq_true hg13)) (za rfl rfl (zm rfl rfl) (za rfl rfl (zb rfl) (zj rfl rfl rfl rfl rfl (by decide) (zj rfl rfl rfl rfl rfl (by decide) (za rfl rfl (zr rfl rfl) (za rfl rfl (ze rfl) (zg rfl ?_))))))))))))))))))))))))
                exact PD.sub ((10, dB ((((decide ((97 : Int) ≤ r) && decide (r ≤ (122 : Int))) || (decide ((65 : Int) ≤ r) && decide (r ≤ (90 : Int)))) || decide (r = (95 : Int))) || decide ((128 : Int) ≤ r))) :: [(0, .v (.int .i32 r)), (2, dI 0)]) ⟨sc rfl (Cv.eq (congrArg (fun b => D.v (.bool b)) (by first | (simp [hg11, hg12, hg13, hg5]; done) | (simp_all; done)))), sk rfl, sk rfl, trivial⟩ hQ4
              · skip
                refine zc rfl (za rfl rfl (zb rfl) (za rfl rfl (zac rfl rfl (decide_eq_false hg5)) (za rfl rfl (zb rfl) (zj rfl rfl rfl rfl rfl (by decide) (zj rfl rfl rfl rfl rfl (by decide) (za rfl rfl (zm rfl rfl) (za rfl rfl (zb rfl) (zi rfl rfl rfl rfl rfl (zb rfl) (zi rfl rfl rfl rfl rfl (zac rfl rfl (decide_eq_true hg11)) (zi rfl rfl rfl rfl rfl (zb rfl) (zi rfl rfl rfl rfl rfl (zb rfl) (zi rfl rfl rfl rfl rfl (zaS rfl rfl (decide_eq_false hg12)) (zi rfl rfl rfl rfl rfl (zr rfl rfl) (za rfl rfl (zm rfl rfl) (za rfl rfl (zb rfl) (zi rfl rfl rfl rfl rfl (zb rfl) (zi rfl rfl rfl rfl rfl (zY rfl rfl (decide_eq_false hg13)) (za rfl rfl (zm rfl rfl) (za rfl rfl (zb rfl) (zi rfl rfl rfl rfl rfl (zb rfl) (zi rfl rfl rfl rfl rfl (zac rfl rfl rfl) (za rfl rfl (zm rfl rfl) (za rfl rfl (ze rfl) (zg rfl ?_))))))))))))))))))))))))
                exact PD.sub ((10, dB ((((decide ((97 : Int) ≤ r) && decide (r ≤ (122 : Int))) || (decide ((65 : Int) ≤ r) && decide (r ≤ (90 : Int)))) || decide (r = (95 : Int))) || decide ((128 : Int) ≤ r))) :: [(0, .v (.int .i32 r)), (2, dI 0)]) ⟨sc rfl (Cv.eq (congrArg (fun b => D.v (.bool b)) (by first | (simp [hg11, hg12, hg13, hg5]; done) | (simp_all; done)))), sk rfl, sk rfl, trivial⟩ hQ4
          · skip
            by_cases hg14 : r = (95 : Int)
            · skip
              refine zc rfl (za rfl rfl (zb rfl) (za rfl rfl (zac rfl rfl (decide_eq_false hg5)) (za rfl rfl (zb rfl) (zj rfl rfl rfl rfl rfl (by decide) (zj rfl rfl rfl rfl rfl (by decide) (za rfl rfl (zm rfl rfl) (za rfl rfl (zb rfl) (zi rfl rfl rfl rfl rfl (zb rfl) (zi rfl rfl rfl rfl rfl (zac rfl rfl (decide_eq_false hg11)) (zi rfl rfl rfl rfl rfl (zb rfl) (zj rfl rfl rfl rfl rfl (by decide) (zj rfl rfl rfl rfl rfl (by decide) (zi rfl rfl rfl rfl rfl (zm rfl rfl) (za rfl rfl (zm rfl rfl) (za rfl rfl (zb rfl) (zi rfl rfl rfl rfl rfl (zb rfl) (zi rfl rfl rfl rfl rfl (zY rfl rfl (decide_eq_true hg14)) (za rfl rfl (zm rfl rfl) (za rfl rfl (zb rfl) (zj rfl rfl rfl rfl rfl (by decide) (zj rfl rfl rfl rfl rfl (by decide) (za rfl rfl (zr rfl rfl) (za rfl rfl (ze rfl) (zg rfl ?_))))))))))))))))))))))))
              exact PD.sub ((10, dB ((((decide ((97 : Int) ≤ r) && decide (r ≤ (122 : Int))) || (decide ((65 : Int) ≤ r) && decide (r ≤ (90 : Int)))) || decide (r = (95 : Int))) || decide ((128 : Int) ≤ r))) :: [(0, .v (.int .i32 r)), (2, dI 0)]) ⟨sc rfl (Cv.eq (congrArg (fun b => D.v (.bool b)) (by first | (simp [hg11, hg14, hg5]; done) | (simp_all; done)))), sk rfl, sk rfl, trivial⟩ hQ4
            · skip
              refine zc rfl (za rfl rfl (zb rfl) (za rfl rfl (zac rfl rfl (decide_eq_false hg5)) (za rfl rfl (zb rfl) (zj rfl rfl rfl rfl rfl (by decide) (zj rfl rfl rfl rfl rfl (by decide) (za rfl rfl (zm rfl rfl) (za rfl rfl (zb rfl) (zi rfl rfl rfl rfl rfl (zb rfl) (zi rfl rfl rfl rfl rfl (zac rfl rfl (decide_eq_false hg11)) (zi rfl rfl rfl rfl rfl (zb rfl) (zj rfl rfl rfl rfl rfl (by decide) (zj rfl rfl rfl rfl rfl (by decide) (zi rfl rfl rfl rfl rfl (zm rfl rfl) (za rfl rfl (zm rfl rfl) (za rfl rfl (zb rfl) (zi rfl rfl rfl rfl rfl (zb rfl) (zi rfl rfl rfl rfl rfl (zY rfl rfl (decide_eq_false hg14)) (za rfl rfl (zm rfl rfl) (za rfl rfl (zb rfl) (zi rfl rfl rfl rfl rfl (zb rfl) (zi rfl rfl rfl rfl rfl (zac rfl rfl rfl) (za rfl rfl (zm rfl rfl) (za rfl rfl (ze rfl) (zg rfl ?_))))))))))))))))))))))))
              exact PD.sub ((10, dB ((((decide ((97 : Int) ≤ r) && decide (r ≤ (122 : Int))) || (decide ((65 : Int) ≤ r) && decide (r ≤ (90 : Int)))) || decide (r = (95 : Int))) || decide ((128 : Int) ≤ r))) :: [(0, .v (.int .i32 r)), (2, dI 0)]) ⟨sc rfl (Cv.eq (congrArg (fun b => D.v (.bool b)) (by first | (simp [hg11, hg14, hg5]; done) | (simp_all; done)))), sk rfl, sk rfl, trivial⟩ hQ4
      · skip
        refine zf ?_
        refine zu _ _ rfl rfl rfl rfl (fun hc15 => ?_) (fun hc15 => ?_)
        · simp only [Bool.and_eq_true, Bool.or_eq_true, Bool.not_eq_true', Bool.not_eq_false', Bool.and_eq_false_iff, Bool.or_eq_false_iff, decide_eq_true_eq, decide_eq_false_iff_not, Decidable.not_not, ne_eq] at hc15
          refine zh _ _ rfl rfl rfl (zc rfl (za rfl rfl (ze rfl) (zg rfl (zf (zB rfl (zn (zp ?_)))))))
          exact zx Try.results83 (.cons (zM (zs rfl) (Cv.eq (congrArg (fun n => D.v (.int .i64 n)) (by unfold zah; (repeat (any_goals split)) <;> omega)))) .nil) rfl HSub.none ⟨rfl, rfl⟩
        · simp only [Bool.and_eq_true, Bool.or_eq_true, Bool.not_eq_true', Bool.not_eq_false', Bool.and_eq_false_iff, Bool.or_eq_false_iff, decide_eq_true_eq, decide_eq_false_iff_not, Decidable.not_not, ne_eq] at hc15
          refine zh _ _ rfl rfl rfl (JD.keep [0, 2] [(0, .v (.int .i32 r)), (2, dI 0)] rfl ?_)
          refine zaj 33 ((decide ((48 : Int) ≤ r) && decide (r ≤ (57 : Int)))) [] (fun _ hQ16 => ?_) ?_
          · skip
            by_cases hg17 : (48 : Int) ≤ r
            · skip
              refine zc rfl (za rfl rfl (zb rfl) (za rfl rfl (zac rfl rfl (decide_eq_true hg17)) (za rfl rfl (zb rfl) (zi rfl rfl rfl rfl rfl (zb rfl) (zi rfl rfl rfl rfl rfl (zaS rfl rfl rfl) (za rfl rfl (zr rfl rfl) (za rfl rfl (ze rfl) (zg rfl ?_))))))))
              exact PD.sub ((33, dB (decide ((48 : Int) ≤ r) && decide (r ≤ (57 : Int)))) :: [(0, .v (.int .i32 r)), (2, dI 0)]) ⟨sc rfl (Cv.eq (congrArg (fun b => D.v (.bool b)) (by first | (simp [hg17]; done) | (simp_all; done)))), sk rfl, sk rfl, trivial⟩ hQ16
            · skip
              refine zc rfl (za rfl rfl (zb rfl) (za rfl rfl (zac rfl rfl (decide_eq_false hg17)) (za rfl rfl (zb rfl) (zj rfl rfl rfl rfl rfl (by decide) (zj rfl rfl rfl rfl rfl (by decide) (za rfl rfl (zm rfl rfl) (za rfl rfl (ze rfl) (zg rfl ?_))))))))
              exact PD.sub ((33, dB (decide ((48 : Int) ≤ r) && decide (r ≤ (57 : Int)))) :: [(0, .v (.int .i32 r)), (2, dI 0)]) ⟨sc rfl (Cv.eq (congrArg (fun b => D.v (.bool b)) (by first | (simp [hg17]; done) | (simp_all; done)))), sk rfl, sk rfl, trivial⟩ hQ16
          · skip
            refine zf ?_
            refine zu _ _ rfl rfl rfl rfl (fun hc18 => ?_) (fun hc18 => ?_)
            · simp only [Bool.and_eq_true, Bool.or_eq_true, Bool.not_eq_true', Bool.not_eq_false', Bool.and_eq_false_iff, Bool.or_eq_false_iff, decide_eq_true_eq, decide_eq_false_iff_not, Decidable.not_not, ne_eq] at hc18
              refine zh _ _ rfl rfl rfl (zc rfl (za rfl rfl (ze rfl) (zg rfl (zf (zB rfl (zn (zp ?_)))))))
              exact zx Try.results83 (.cons (zM (zs rfl) (Cv.eq (congrArg (fun n => D.v (.int .i64 n)) (by unfold zah; (repeat (any_goals split)) <;> omega)))) .nil) rfl HSub.none ⟨rfl, rfl⟩
            · simp only [Bool.and_eq_true, Bool.or_eq_true, Bool.not_eq_true', Bool.not_eq_false', Bool.and_eq_false_iff, Bool.or_eq_false_iff, decide_eq_true_eq, decide_eq_false_iff_not, Decidable.not_not, ne_eq] at hc18
              refine zh _ _ rfl rfl rfl (JD.keep [0, 2] [(0, .v (.int .i32 r)), (2, dI 0)] rfl ?_)
              refine zaj 40 (((decide (r = (32 : Int)) || decide (r = (9 : Int))) || decide (r = (10 : Int)))) [] (fun _ hQ19 => ?_) ?_
              · skip
                by_cases hg20 : r = (32 : Int)
                · skip
                  refine zc rfl (za rfl rfl (zb rfl) (za rfl rfl (zY rfl rfl (decide_eq_true hg20)) (za rfl rfl (zb rfl) (zj rfl rfl rfl rfl rfl (by decide) (zj rfl rfl rfl rfl rfl (by decide) (za rfl rfl (zr rfl rfl) (za rfl rfl (zb rfl) (zj rfl rfl rfl rfl rfl (by decide) (zj rfl rfl rfl rfl rfl (by decide) (za rfl rfl (zr rfl rfl) (za rfl rfl (ze rfl) (zg rfl ?_))))))))))))
                  exact PD.sub ((40, dB ((decide (r = (32 : Int)) || decide (r = (9 : Int))) || decide (r = (10 : Int)))) :: [(0, .v (.int .i32 r)), (2, dI 0)]) ⟨sc rfl (Cv.eq (congrArg (fun b => D.v (.bool b)) (by first | (simp [hg20]; done) | (simp_all; done)))), sk rfl, sk rfl, trivial⟩ hQ19
                · skip
                  by_cases hg21 : r = (9 : Int)
                  · skip
                    refine zc rfl (za rfl rfl (zb rfl) (za rfl rfl (zY rfl rfl (decide_eq_false hg20)) (za rfl rfl (zb rfl) (zi rfl rfl rfl rfl rfl (zb rfl) (zi rfl rfl rfl rfl rfl (zY rfl rfl (decide_eq_true hg21)) (za rfl rfl (zm rfl rfl) (za rfl rfl (zb rfl) (zj rfl rfl rfl rfl rfl (by decide) (zj rfl rfl rfl rfl rfl (by decide) (za rfl rfl (zr rfl rfl) (za rfl rfl (ze rfl) (zg rfl ?_))))))))))))
                    exact PD.sub ((40, dB ((decide (r = (32 : Int)) || decide (r = (9 : Int))) || decide (r = (10 : Int)))) :: [(0, .v (.int .i32 r)), (2, dI 0)]) ⟨sc rfl (Cv.eq (congrArg (fun b => D.v (.bool b)) (by first | (simp [hg20, hg21]; done) | (simp_all; done)))), sk rfl, sk rfl, trivial⟩ hQ19
                  · skip
                    refine zc rfl (za rfl rfl (zb rfl) (za rfl rfl (zY rfl rfl (decide_eq_false hg20)) (za rfl rfl (zb rfl) (zi rfl rfl rfl rfl rfl (zb rfl) (zi rfl rfl rfl rfl rfl (zY rfl rfl (decide_eq_false hg21)) (za rfl rfl (zm rfl rfl) (za rfl rfl (zb rfl) (zi rfl rfl rfl rfl rfl (zb rfl) (zi rfl rfl rfl rfl rfl (zY rfl rfl rfl) (za rfl rfl (zm rfl rfl) (za rfl rfl (ze rfl) (zg rfl ?_))))))))))))
                    exact PD.sub ((40, dB ((decide (r = (32 : Int)) || decide (r = (9 : Int))) || decide (r = (10 : Int)))) :: [(0, .v (.int .i32 r)), (2, dI 0)]) ⟨sc rfl (Cv.eq (congrArg (fun b => D.v (.bool b)) (by first | (simp [hg20, hg21]; done) | (simp_all; done)))), sk rfl, sk rfl, trivial⟩ hQ19
              · skip
                refine zf ?_
                refine zu _ _ rfl rfl rfl rfl (fun hc22 => ?_) (fun hc22 => ?_)
                · simp only [Bool.and_eq_true, Bool.or_eq_true, Bool.not_eq_true', Bool.not_eq_false', Bool.and_eq_false_iff, Bool.or_eq_false_iff, decide_eq_true_eq, decide_eq_false_iff_not, Decidable.not_not, ne_eq] at hc22
                  refine zh _ _ rfl rfl rfl (zc rfl (za rfl rfl (ze rfl) (zg rfl (zf (zB rfl (zn (zp ?_)))))))
                  exact zx Try.results83 (.cons (zM (zs rfl) (Cv.eq (congrArg (fun n => D.v (.int .i64 n)) (by unfold zah; (repeat (any_goals split)) <;> omega)))) .nil) rfl HSub.none ⟨rfl, rfl⟩
                · simp only [Bool.and_eq_true, Bool.or_eq_true, Bool.not_eq_true', Bool.not_eq_false', Bool.and_eq_false_iff, Bool.or_eq_false_iff, decide_eq_true_eq, decide_eq_false_iff_not, Decidable.not_not, ne_eq] at hc22
                  refine zz rfl (zD (zf (zh _ _ rfl rfl rfl (zc rfl (za rfl rfl (ze rfl) (zg rfl (zf (zB rfl ?_))))))))
                  exact zx Try.results83 (.cons (zM (zs rfl) (Cv.eq (congrArg (fun n => D.v (.int .i64 n)) (by unfold zah; (repeat (any_goals split)) <;> omega)))) .nil) rfl HSub.none ⟨rfl, rfl⟩

set_option maxHeartbeats 4000000 in
set_option maxRecDepth 100000 in
theorem refKind_c (r : Int)  :
    CD Try.prog 50 [] [.v (.int .i32 r)] (isR (dI (zah r))) := by
  refine zL Try.func50 rfl (N := 51) rfl rfl (fun C => ?_)
  refine JD.keep [0] [(0, .v (.int .i32 r))] rfl (zh _ _ rfl rfl rfl (zc rfl (za rfl rfl (ze rfl) (zg rfl (zf (zh _ _ rfl rfl rfl (zy _ rfl rfl (zh _ _ rfl rfl rfl (JD.keep [0, 2] [(0, .v (.int .i32 r)), (2, dI 0)] rfl ?_)))))))))
  refine zaj 3 ((decide (r < (0 : Int)) || decide (r = (65533 : Int)))) [] (fun _ hQ1 => ?_) ?_
  · skip
    by_cases hg2 : r < (0 : Int)
    · skip
      refine zc rfl (za rfl rfl (zb rfl) (za rfl rfl (zaa rfl rfl (decide_eq_true hg2)) (za rfl rfl (zb rfl) (zj rfl rfl rfl rfl rfl (by decide) (zj rfl rfl rfl rfl rfl (by decide) (za rfl rfl (zr rfl rfl) (za rfl rfl (ze rfl) (zg rfl ?_))))))))
      exact PD.sub ((3, dB (decide (r < (0 : Int)) || decide (r = (65533 : Int)))) :: [(0, .v (.int .i32 r)), (2, dI 0)]) ⟨sc rfl (Cv.eq (congrArg (fun b => D.v (.bool b)) (by first | (simp [hg2]; done) | (simp_all; done)))), sk rfl, sk rfl, trivial⟩ hQ1
    · skip
      refine zc rfl (za rfl rfl (zb rfl) (za rfl rfl (zaa rfl rfl (decide_eq_false hg2)) (za rfl rfl (zb rfl) (zi rfl rfl rfl rfl rfl (zb rfl) (zi rfl rfl rfl rfl rfl (zY rfl rfl rfl) (za rfl rfl (zm rfl rfl) (za rfl rfl (ze rfl) (zg rfl ?_))))))))
      exact PD.sub ((3, dB (decide (r < (0 : Int)) || decide (r = (65533 : Int)))) :: [(0, .v (.int .i32 r)), (2, dI 0)]) ⟨sc rfl (Cv.eq (congrArg (fun b => D.v (.bool b)) (by first | (simp [hg2]; done) | (simp_all; done)))), sk rfl, sk rfl, trivial⟩ hQ1
  · skip
    refine zf ?_
    refine zu _ _ rfl rfl rfl rfl (fun hc3 => ?_) (fun hc3 => ?_)
    · simp only [Bool.and_eq_true, Bool.or_eq_true, Bool.not_eq_true', Bool.not_eq_false', Bool.and_eq_false_iff, Bool.or_eq_false_iff, decide_eq_true_eq, decide_eq_false_iff_not, Decidable.not_not, ne_eq] at hc3
      refine zh _ _ rfl rfl rfl (zc rfl (za rfl rfl (ze rfl) (zg rfl (zf (zB rfl (zn (zp ?_)))))))
      exact zx Try.results50 (.cons (zM (zs rfl) (Cv.eq (congrArg (fun n => D.v (.int .i64 n)) (by unfold zah; (repeat (any_goals split)) <;> omega)))) .nil) rfl HSub.none ⟨rfl, rfl⟩
    · simp only [Bool.and_eq_true, Bool.or_eq_true, Bool.not_eq_true', Bool.not_eq_false', Bool.and_eq_false_iff, Bool.or_eq_false_iff, decide_eq_true_eq, decide_eq_false_iff_not, Decidable.not_not, ne_eq] at hc3
      refine zh _ _ rfl rfl rfl (JD.keep [0, 2] [(0, .v (.int .i32 r)), (2, dI 0)] rfl ?_)
      refine zaj 10 (((((decide ((97 : Int) ≤ r) && decide (r ≤ (122 : Int))) || (decide ((65 : Int) ≤ r) && decide (r ≤ (90 : Int)))) || decide (r = (95 : Int))) || decide ((128 : Int) ≤ r))) [] (fun _ hQ4 => ?_) ?_
      · skip
        by_cases hg5 : (97 : Int) ≤ r
        · skip
          by_cases hg6 : r ≤ (122 : Int)
          · skip
            refine zc rfl (za rfl rfl (zb rfl) (za rfl rfl (zac rfl rfl (decide_eq_true hg5)) (za rfl rfl (zb rfl) (zi rfl rfl rfl rfl rfl (zb rfl) (zi rfl rfl rfl rfl rfl (zaS rfl rfl (decide_eq_true hg6)) (za rfl rfl (zr rfl rfl) (za rfl rfl (zb rfl) (zj rfl rfl rfl rfl rfl (by decide) (zj rfl rfl rfl rfl rfl (by decide) (zj rfl rfl rfl rfl rfl (by decide) (zj rfl rfl rfl rfl rfl (by decide) (zj rfl rfl rfl rfl rfl (by decide) (zj rfl rfl rfl rfl rfl (by decide) (za rfl rfl (zr rfl rfl) (za rfl rfl (zb rfl) (zj rfl rfl rfl rfl rfl (by decide) (zj rfl rfl rfl rfl rfl (by decide) (za rfl rfl (zr rfl rfl) (za rfl rfl (zb rfl) (zj rfl rfl rfl rfl rfl (by decide) (zj rfl rfl rfl rfl rfl (by decide) (za rfl rfl (zr rfl rfl) (za rfl rfl (ze rfl) (zg rfl ?_))))))))))))))))))))))))
            exact PD.sub ((10, dB ((((decide ((97 : Int) ≤ r) && decide (r ≤ (122 : Int))) || (decide ((65 : Int) ≤ r) && decide (r ≤ (90 : Int)))) || decide (r = (95 : Int))) || decide ((128 : Int) ≤ r))) :: [(0, .v (.int .i32 r)), (2, dI 0)]) ⟨sc rfl (Cv.eq (congrArg (fun b => D.v (.bool b)) (by first | (simp [hg5, hg6]; done) | (simp_all; done)))), sk rfl, sk rfl, trivial⟩ hQ4
          · skip
            by_cases hg7 : (65 : Int) ≤ r
            · skip
              by_cases hg8 : r ≤ (90 : Int)
              · skip
                refine zc rfl (za rfl rfl (zb rfl) (za rfl rfl (zac rfl rfl (decide_eq_true hg5)) (za rfl rfl (zb rfl) (zi rfl rfl rfl rfl rfl (zb rfl) (zi rfl rfl rfl rfl rfl (zaS rfl rfl (decide_eq_false hg6)) (za rfl rfl (zr rfl rfl) (za rfl rfl (zb rfl) (zi rfl rfl rfl rfl rfl (zb rfl) (zi rfl rfl rfl rfl rfl (zac rfl rfl (decide_eq_true hg7)) (zi rfl rfl rfl rfl rfl (zb rfl) (zi rfl rfl rfl rfl rfl (zb rfl) (zi rfl rfl rfl rfl rfl (zaS rfl rfl (decide_eq_true hg8)) (zi rfl rfl rfl rfl rfl (zr rfl rfl) (za rfl rfl (zm rfl rfl) (za rfl rfl (zb rfl) (zj rfl rfl rfl rfl rfl (by decide) (zj rfl rfl rfl rfl rfl (by decide) (za rfl rfl (zr rfl rfl) (za rfl rfl (zb rfl) (zj rfl rfl rfl rfl rfl (by decide) (zj rfl rfl rfl rfl rfl (by decide) (za rfl rfl (zr rfl rfl) (za rfl rfl (ze rfl) (zg rfl ?_))))))))))))))))))))))))
                exact PD.sub ((10, dB ((((decide ((97 : Int) ≤ r) && decide (r ≤ (122 : Int))) || (decide ((65 : Int) ≤ r) && decide (r ≤ (90 : Int)))) || decide (r = (95 : Int))) || decide ((128 : Int) ≤ r))) :: [(0, .v (.int .i32 r)), (2, dI 0)]) ⟨sc rfl (Cv.eq (congrArg (fun b => D.v (.bool b)) (by first | (simp [hg5, hg6, hg7, hg8]; done) | (simp_all; done)))), sk rfl, sk rfl, trivial⟩ hQ4
              · skip
                by_cases hg9 : r = (95 : Int)
                · skip
                  refine zc rfl (za rfl rfl (zb rfl) (za rfl rfl (zac rfl rfl (decide_eq_true hg5)) (za rfl rfl (zb rfl) (zi rfl rfl rfl rfl rfl (zb rfl) (zi rfl rfl rfl rfl rfl (zaS rfl rfl (decide_eq_false hg6)) (za rfl rfl (zr rfl rfl) (za rfl rfl (zb rfl) (zi rfl rfl rfl rfl rfl (zb rfl) (zi rfl rfl rfl rfl rfl (zac rfl rfl (decide_eq_true hg7)) (zi rfl rfl rfl rfl rfl (zb rfl) (zi rfl rfl rfl rfl rfl (zb rfl) (zi rfl rfl rfl rfl rfl (zaS rfl rfl (decide_eq_false hg8)) (zi rfl rfl rfl rfl rfl (zr rfl rfl) (za rfl rfl (zm rfl rfl) (za rfl rfl (zb rfl) (zi rfl rfl rfl rfl rfl (zb rfl) (zi rfl rfl rfl rfl rfl (zY rfl rfl (decide_eq_true hg9)) (za rfl rfl (zm rfl rfl) (za rfl rfl (zb rfl) (zj rfl rfl rfl rfl rfl (by decide) (zj rfl rfl rfl rfl rfl (by decide) (za rfl rfl (zr rfl rfl) (za rfl rfl (ze rfl) (zg rfl ?_))))))))))))))))))))))))
                  exact PD.sub ((10, dB ((((decide ((97 : Int) ≤ r) && decide (r ≤ (122 : Int))) || (decide ((65 : Int) ≤ r) && decide (r ≤ (90 : Int)))) || decide (r = (95 : Int))) || decide ((128 : Int) ≤ r))) :: [(0, .v (.int .i32 r)), (2, dI 0)]) ⟨sc rfl (Cv.eq (congrArg (fun b => D.v (.bool b)) (by first | (simp [hg5, hg6, hg7, hg8, hg9]; done) | (simp_all; done)))), sk rfl, sk rfl, trivial⟩ hQ4
                · skip
                  refine zc rfl (za rfl rfl (zb rfl) (za rfl rfl (zac rfl rfl (decide_eq_true hg5)) (za rfl rfl (zb rfl) (zi rfl rfl rfl rfl rfl (zb rfl) (zi rfl rfl rfl rfl rfl (zaS rfl rfl (decide_eq_false hg6)) (za rfl rfl (zr rfl rfl) (za rfl rfl (zb rfl) (zi rfl rfl rfl rfl rfl (zb rfl) (zi rfl rfl rfl rfl rfl (zac rfl rfl (decide_eq_true hg7)) (zi rfl rfl rfl rfl rfl (zb rfl) (zi rfl rfl rfl rfl rfl (zb rfl) (zi rfl rfl rfl rfl rfl (zaS rfl rfl (decide_eq_false hg8)) (zi rfl rfl rfl rfl rfl (zr rfl rfl) (za rfl rfl (zm rfl rfl) (za rfl rfl (zb rfl) (zi rfl rfl rfl rfl rfl (zb rfl) (zi rfl rfl rfl rfl rfl (zY rfl rfl (decide_eq_false hg9)) (za rfl rfl (zm rfl rfl) (za rfl rfl (zb rfl) (zi rfl rfl rfl rfl rfl (zb rfl) (zi rfl rfl rfl rfl rfl (zac rfl rfl rfl) (za rfl rfl (zm rfl rfl) (za rfl rfl (ze rfl) (zg rfl ?_))))))))))))))))))))))))
                  exact PD.sub ((10, dB ((((decide ((97 : Int) ≤ r) && decide (r ≤ (122 : Int))) || (decide ((65 : Int) ≤ r) && decide (r ≤ (90 : Int)))) || decide (r = (95 : Int))) || decide ((128 : Int) ≤ r))) :: [(0, .v (.int .i32 r)), (2, dI 0)]) ⟨sc rfl (Cv.eq (congrArg (fun b => D.v (.bool b)) (by first | (simp [hg5, hg6, hg7, hg8, hg9]; done) | (simp_all; done)))), sk rfl, sk rfl, trivial⟩ hQ4
            · skip
              by_cases hg10 : r = (95 : Int)
              · skip
                refine zc rfl (za rfl rfl (zb rfl) (za rfl rfl (zac rfl rfl (decide_eq_true hg5)) (za rfl rfl (zb rfl) (zi rfl rfl rfl rfl rfl (zb rfl) (zi rfl rfl rfl rfl rfl (zaS rfl rfl (decide_eq_false hg6)) (za rfl rfl (zr rfl rfl) (za rfl rfl (zb rfl) (zi rfl rfl rfl rfl rfl (zb rfl) (zi rfl rfl rfl rfl rfl (zac rfl rfl (decide_eq_false hg7)) (zi rfl rfl rfl rfl rfl (zb rfl) (zj rfl rfl rfl rfl rfl (by decide) (zj rfl rfl rfl rfl rfl (by decide) (zi rfl rfl rfl rfl rfl (zm rfl rfl) (za rfl rfl (zm rfl rfl) (za rfl rfl (zb rfl) (zi rfl rfl rfl rfl rfl (zb rfl) (zi rfl rfl rfl rfl rfl (zY rfl rfl (decide_eq_true hg10)) (za rfl rfl (zm rfl rfl) (za rfl rfl (zb rfl) (zj rfl rfl rfl rfl rfl (by decide) (zj rfl rfl rfl rfl rfl (by decide) (za rfl rfl (zr rfl rfl) (za rfl rfl (ze rfl) (zg rfl ?_))))))))))))))))))))))))
                exact PD.sub ((10, dB ((((decide ((97 : Int) ≤ r) && decide (r ≤ (122 : Int))) || (decide ((65 : Int) ≤ r) && decide (r ≤ (90 : Int)))) || decide (r = (95 : Int))) || decide ((128 : Int) ≤ r))) :: [(0, .v (.int .i32 r)), (2, dI 0)]) ⟨sc rfl (Cv.eq (congrArg (fun b => D.v (.bool b)) (by first | (simp [hg10, hg5, hg6, hg7]; done) | (simp_all; done)))), sk rfl, sk rfl, trivial⟩ hQ4
              · skip
                refine zc rfl (za rfl rfl (zb rfl) (za rfl rfl (zac rfl rfl (decide_eq_true hg5)) (za rfl rfl (zb rfl) (zi rfl rfl rfl rfl rfl (zb rfl) (zi rfl rfl rfl rfl rfl (zaS rfl rfl (decide_eq_false hg6)) (za rfl rfl (zr rfl rfl) (za rfl rfl (zb rfl) (zi rfl rfl rfl rfl rfl (zb rfl) (zi rfl rfl rfl rfl rfl (zac rfl rfl (decide_eq_false hg7)) (zi rfl rfl rfl rfl rfl (zb rfl) (zj rfl rfl rfl rfl rfl (by decide) (zj rfl rfl rfl rfl rfl (by decide) (zi rfl rfl rfl rfl rfl (zm rfl rfl) (za rfl rfl (zm rfl rfl) (za rfl rfl (zb rfl) (zi rfl rfl rfl rfl rfl (zb rfl) (zi rfl rfl rfl rfl rfl (zY rfl rfl (decide_eq_false hg10)) (za rfl rfl (zm rfl rfl) (za rfl rfl (zb rfl) (zi rfl rfl rfl rfl rfl (zb rfl) (zi rfl rfl rfl rfl rfl (zac rfl rfl rfl) (za rfl rfl (zm rfl rfl) (za rfl rfl (ze rfl) (zg rfl ?_))))))))))))))))))))))))
                exact PD.sub ((10, dB ((((decide ((97 : Int) ≤ r) && decide (r ≤ (122 : Int))) || (decide ((65 : Int) ≤ r) && decide (r ≤ (90 : Int)))) || decide (r = (95 : Int))) || decide ((128 : Int) ≤ r))) :: [(0, .v (.int .i32 r)), (2, dI 0)]) ⟨sc rfl (Cv.eq (congrArg (fun b => D.v (.bool b)) (by first | (simp [hg10, hg5, hg6, hg7]; done) | (simp_all; done)))), sk rfl, sk rfl, trivial⟩ hQ4
        · skip
          by_cases hg11 : (65 : Int) ≤ r
          · skip
            by_cases hg12 : r ≤ (90 : Int)
            · skip
              refine zc rfl (za rfl rfl (zb rfl) (za rfl rfl (zac rfl rfl (decide_eq_false hg5)) (za rfl rfl (zb rfl) (zj rfl rfl rfl rfl rfl (by decide) (zj rfl rfl rfl rfl rfl (by decide) (za rfl rfl (zm rfl rfl) (za rfl rfl (zb rfl) (zi rfl rfl rfl rfl rfl (zb rfl) (zi rfl rfl rfl rfl rfl (zac rfl rfl (decide_eq_true hg11)) (zi rfl rfl rfl rfl rfl (zb rfl) (zi rfl rfl rfl rfl rfl (zb rfl) (zi rfl rfl rfl rfl rfl (zaS rfl rfl (decide_eq_true hg12)) (zi rfl rfl rfl rfl rfl (zr rfl rfl) (za rfl rfl (zm rfl rfl) (za rfl rfl (zb rfl) (zj rfl rfl rfl rfl rfl (by decide) (zj rfl rfl rfl rfl rfl (by decide) (za rfl rfl (zr rfl rfl) (za rfl rfl (zb rfl) (zj rfl rfl rfl rfl rfl (by decide) (zj rfl rfl rfl rfl rfl (by decide) (za rfl rfl (zr rfl rfl) (za rfl rfl (ze rfl) (zg rfl ?_))))))))))))))))))))))))
              exact PD.sub ((10, dB ((((decide ((97 : Int) ≤ r) && decide (r ≤ (122 : Int))) || (decide ((65 : Int) ≤ r) && decide (r ≤ (90 : Int)))) || decide (r = (95 : Int))) || decide ((128 : Int) ≤ r))) :: [(0, .v (.int .i32 r)), (2, dI 0)]) ⟨sc rfl (Cv.eq (congrArg (fun b => D.v (.bool b)) (by first | (simp [hg11, hg12, hg5]; done) | (simp_all; done)))), sk rfl, sk rfl, trivial⟩ hQ4
            · skip
              by_cases hg13 : r = (95 : Int)
              · skip
                refine zc rfl (za rfl rfl (zb rfl) (za rfl rfl (zac rfl rfl (decide_eq_false hg5)) (za rfl rfl (zb rfl) (zj rfl rfl rfl rfl rfl (by decide) (zj rfl rfl rfl rfl rfl (by decide) (za rfl rfl (zm rfl rfl) (za rfl rfl (zb rfl) (zi rfl rfl rfl rfl rfl (zb rfl) (zi rfl rfl rfl rfl rfl (zac rfl rfl (decide_eq_true hg11)) (zi rfl rfl rfl rfl rfl (zb rfl) (zi rfl rfl rfl rfl rfl (zb rfl) (zi rfl rfl rfl rfl rfl (zaS rfl rfl (decide_eq_false hg12)) (zi rfl rfl rfl rfl rfl (zr rfl rfl) (za rfl rfl (zm rfl rfl) (za rfl rfl (zb rfl) (zi rfl rfl rfl rfl rfl (zb rfl) (zi rfl rfl rfl rfl rfl (zY rfl rfl (decide_eq_true hg13)) (za rfl rfl (zm rfl rfl) (za rfl rfl (zb rfl) (zj rfl rfl rfl rfl rfl (by decide) (zj rfl rfl rfl rfl rfl (by decide) (za rfl rfl (zr rfl rfl) (za rfl rfl (ze rfl) (zg rfl ?_))))))))))))))))))))))))
                exact PD.sub ((10, dB ((((decide ((97 : Int) ≤ r) && decide (r ≤ (122 : Int))) || (decide ((65 : Int) ≤ r) && decide (r ≤ (90 : Int)))) || decide (r = (95 : Int))) || decide ((128 : Int) ≤ r))) :: [(0, .v (.int .i32 r)), (2, dI 0)]) ⟨sc rfl (Cv.eq (congrArg (fun b => D.v (.bool b)) (by first | (simp [hg11, hg12, hg13, hg5]; done) | (simp_all; done)))), sk rfl, sk rfl, trivial⟩ hQ4
              · skip
                refine zc rfl (za rfl rfl (zb rfl) (za rfl rfl (zac rfl rfl (decide_eq_false hg5)) (za rfl rfl (zb rfl) (zj rfl rfl rfl rfl rfl (by decide) (zj rfl rfl rfl rfl rfl (by decide) (za rfl rfl (zm rfl rfl) (za rfl rfl (zb rfl) (zi rfl rfl rfl rfl rfl (zb rfl) (zi rfl rfl rfl rfl rfl (zac rfl rfl (decide_eq_true hg11)) (zi rfl rfl rfl rfl rfl (zb rfl) (zi rfl rfl rfl rfl rfl (zb rfl) (zi rfl rfl rfl rfl rfl (zaS rfl rfl (decide_eq_false hg12)) (zi rfl rfl rfl rfl rfl (zr rfl rfl) (za rfl rfl (zm rfl rfl) (za rfl rfl (zb rfl) (zi rfl rfl rfl rfl rfl (zb rfl) (zi rfl rfl rfl rfl rfl (zY rfl rfl (decide_eq_false hg13)) (za rfl rfl (zm rfl rfl) (za rfl rfl (zb rfl) (zi rfl rfl rfl rfl rfl (zb rfl) (zi rfl rfl rfl rfl rfl (zac rfl rfl rfl) (za rfl rfl (zm rfl rfl) (za rfl rfl (ze rfl) (zg rfl ?_))))))))))))))))))))))))
                exact PD.sub ((10, dB ((((decide ((97 : Int) ≤ r) && decide (r ≤ (122 : Int))) || (decide ((65 : Int) ≤ r) && decide (r ≤ (90 : Int)))) || decide (r = (95 : Int))) || decide ((128 : Int) ≤ r))) :: [(0, .v (.int .i32 r)), (2, dI 0)]) ⟨sc rfl (Cv.eq (congrArg (fun b => D.v (.bool b)) (by first | (simp [hg11, hg12, hg13, hg5]; done) | (simp_all; done)))), sk rfl, sk rfl, trivial⟩ hQ4
          · skip
            by_cases hg14 : r = (95 : Int)
            · skip
              refine zc rfl (za rfl rfl (zb rfl) (za rfl rfl (zac rfl rfl (decide_eq_false hg5)) (za rfl rfl (zb rfl) (zj rfl rfl rfl rfl rfl (by decide) (zj rfl rfl rfl rfl rfl (by decide) (za rfl rfl (zm rfl rfl) (za rfl rfl (zb rfl) (zi rfl rfl rfl rfl rfl (zb rfl) (zi rfl rfl rfl rfl rfl (zac rfl rfl (decide_eq_false hg11)) (zi rfl rfl rfl rfl rfl (zb rfl) (zj rfl rfl rfl rfl rfl (by decide) (zj rfl rfl rfl rfl rfl (by decide) (zi rfl rfl rfl rfl rfl (zm rfl rfl) (za rfl rfl (zm rfl rfl) (za rfl rfl (zb rfl) (zi rfl rfl rfl rfl rfl (zb rfl) (zi rfl rfl rfl rfl rfl (zY rfl rfl (decide_eq_true hg14)) (za rfl rfl (zm rfl rfl) (za rfl rfl (zb rfl) (zj rfl rfl rfl rfl rfl (by decide) (zj rfl rfl rfl rfl rfl (by decide) (za rfl rfl (zr rfl rfl) (za rfl rfl (ze rfl) (zg rfl ?_))))))))))))))))))))))))
              exact PD.sub ((10, dB ((((decide ((97 : Int) ≤ r) && decide (r ≤ (122 : Int))) || (decide ((65 : Int) ≤ r) && decide (r ≤ (90 : Int)))) || decide (r = (95 : Int))) || decide ((128 : Int) ≤ r))) :: [(0, .v (.int .i32 r)), (2, dI 0)]) ⟨sc rfl (Cv.eq (congrArg (fun b => D.v (.bool b)) (by first | (simp [hg11, hg14, hg5]; done) | (simp_all; done)))), sk rfl, sk rfl, trivial⟩ hQ4
            · skip
              refine zc rfl (za rfl rfl (zb rfl) (za rfl rfl (zac rfl rfl (decide_eq_false hg5)) (za rfl rfl (zb rfl) (zj rfl rfl rfl rfl rfl (by decide) (zj rfl rfl rfl rfl rfl (by decide) (za rfl rfl (zm rfl rfl) (za rfl rfl (zb rfl) (zi rfl rfl rfl rfl rfl (zb rfl) (zi rfl rfl rfl rfl rfl (zac rfl rfl (decide_eq_false hg11)) (zi rfl rfl rfl rfl rfl (zb rfl) (zj rfl rfl rfl rfl rfl (by decide) (zj rfl rfl rfl rfl rfl (by decide) (zi rfl rfl rfl rfl rfl (zm rfl rfl) (za rfl rfl (zm rfl rfl) (za rfl rfl (zb rfl) (zi rfl rfl rfl rfl rfl (zb rfl) (zi rfl rfl rfl rfl rfl (zY rfl rfl (decide_eq_false hg14)) (za rfl rfl (zm rfl rfl) (za rfl rfl (zb rfl) (zi rfl rfl rfl rfl rfl (zb rfl) (zi rfl rfl rfl rfl rfl (zac rfl rfl rfl) (za rfl rfl (zm rfl rfl) (za rfl rfl (ze rfl) (zg rfl ?_))))))))))))))))))))))))
              exact PD.sub ((10, dB ((((decide ((97 : Int) ≤ r) && decide (r ≤ (122 : Int))) || (decide ((65 : Int) ≤ r) && decide (r ≤ (90 : Int)))) || decide (r = (95 : Int))) || decide ((128 : Int) ≤ r))) :: [(0, .v (.int .i32 r)), (2, dI 0)]) ⟨sc rfl (Cv.eq (congrArg (fun b => D.v (.bool b)) (by first | (simp [hg11, hg14, hg5]; done) | (simp_all; done)))), sk rfl, sk rfl, trivial⟩ hQ4
      · skip
        refine zf ?_
        refine zu _ _ rfl rfl rfl rfl (fun hc15 => ?_) (fun hc15 => ?_)
        · simp only [Bool.and_eq_true, Bool.or_eq_true, Bool.not_eq_true', Bool.not_eq_false', Bool.and_eq_false_iff, Bool.or_eq_false_iff, decide_eq_true_eq, decide_eq_false_iff_not, Decidable.not_not, ne_eq] at hc15
          refine zh _ _ rfl rfl rfl (zc rfl (za rfl rfl (ze rfl) (zg rfl (zf (zB rfl (zn (zp ?_)))))))
          exact zx Try.results50 (.cons (zM (zs rfl) (Cv.eq (congrArg (fun n => D.v (.int .i64 n)) (by unfold zah; (repeat (any_goals split)) <;> omega)))) .nil) rfl HSub.none ⟨rfl, rfl⟩
        · simp only [Bool.and_eq_true, Bool.or_eq_true, Bool.not_eq_true', Bool.not_eq_false', Bool.and_eq_false_iff, Bool.or_eq_false_iff, decide_eq_true_eq, decide_eq_false_iff_not, Decidable.not_not, ne_eq] at hc15
          refine zh _ _ rfl rfl rfl (JD.keep [0, 2] [(0, .v (.int .i32 r)), (2, dI 0)] rfl ?_)
          refine zaj 33 ((decide ((48 : Int) ≤ r) && decide (r ≤ (57 : Int)))) [] (fun _ hQ16 => ?_) ?_
          · skip
            by_cases hg17 : (48 : Int) ≤ r
            · skip
              refine zc rfl (za rfl rfl (zb rfl) (za rfl rfl (zac rfl rfl (decide_eq_true hg17)) (za rfl rfl (zb rfl) (zi rfl rfl rfl rfl rfl (zb rfl) (zi rfl rfl rfl rfl rfl (zaS rfl rfl rfl) (za rfl rfl (zr rfl rfl) (za rfl rfl (ze rfl) (zg rfl ?_))))))))
              exact PD.sub ((33, dB (decide ((48 : Int) ≤ r) && decide (r ≤ (57 : Int)))) :: [(0, .v (.int .i32 r)), (2, dI 0)]) ⟨sc rfl (Cv.eq (congrArg (fun b => D.v (.bool b)) (by first | (simp [hg17]; done) | (simp_all; done)))), sk rfl, sk rfl, trivial⟩ hQ16
            · skip
              refine zc rfl (za rfl rfl (zb rfl) (za rfl rfl (zac rfl rfl (decide_eq_false hg17)) (za rfl rfl (zb rfl) (zj rfl rfl rfl rfl rfl (by decide) (zj rfl rfl rfl rfl rfl (by decide) (za rfl rfl (zm rfl rfl) (za rfl rfl (ze rfl) (zg rfl ?_))))))))
              exact PD.sub ((33, dB (decide ((48 : Int) ≤ r) && decide (r ≤ (57 : Int)))) :: [(0, .v (.int .i32 r)), (2, dI 0)]) ⟨sc rfl (Cv.eq (congrArg (fun b => D.v (.bool b)) (by first | (simp [hg17]; done) | (simp_all; done)))), sk rfl, sk rfl, trivial⟩ hQ16
          · skip
            refine zf ?_
            refine zu _ _ rfl rfl rfl rfl (fun hc18 => ?_) (fun hc18 => ?_)
            · simp only [Bool.and_eq_true, Bool.or_eq_true, Bool.not_eq_true', Bool.not_eq_false', Bool.and_eq_false_iff, Bool.or_eq_false_iff, decide_eq_true_eq, decide_eq_false_iff_not, Decidable.not_not, ne_eq] at hc18
              refine zh _ _ rfl rfl rfl (zc rfl (za rfl rfl (ze rfl) (zg rfl (zf (zB rfl (zn (zp ?_)))))))
              exact zx Try.results50 (.cons (zM (zs rfl) (Cv.eq (congrArg (fun n => D.v (.int .i64 n)) (by unfold zah; (repeat (any_goals split)) <;> omega)))) .nil) rfl HSub.none ⟨rfl, rfl⟩
            · simp only [Bool.and_eq_true, Bool.or_eq_true, Bool.not_eq_true', Bool.not_eq_false', Bool.and_eq_false_iff, Bool.or_eq_false_iff, decide_eq_true_eq, decide_eq_false_iff_not, Decidable.not_not, ne_eq] at hc18
              refine zh _ _ rfl rfl rfl (JD.keep [0, 2] [(0, .v (.int .i32 r)), (2, dI 0)] rfl ?_)
              refine zaj 40 (((decide (r = (32 : Int)) || decide (r = (9 : Int))) || decide (r = (10 : Int)))) [] (fun _ hQ19 => ?_) ?_
              · skip
                by_cases hg20 : r = (32 : Int)
                · skip
                  refine zc rfl (za rfl rfl (zb rfl) (za rfl rfl (zY rfl rfl (decide_eq_true hg20)) (za rfl rfl (zb rfl) (zj rfl rfl rfl rfl rfl (by decide) (zj rfl rfl rfl rfl rfl (by decide) (za rfl rfl (zr rfl rfl) (za rfl rfl (zb rfl) (zj rfl rfl rfl rfl rfl (by decide) (zj rfl rfl rfl rfl rfl (by decide) (za rfl rfl (zr rfl rfl) (za rfl rfl (ze rfl) (zg rfl ?_))))))))))))
                  exact PD.sub ((40, dB ((decide (r = (32 : Int)) || decide (r = (9 : Int))) || decide (r = (10 : Int)))) :: [(0, .v (.int .i32 r)), (2, dI 0)]) ⟨sc rfl (Cv.eq (congrArg (fun b => D.v (.bool b)) (by first | (simp [hg20]; done) | (simp_all; done)))), sk rfl, sk rfl, trivial⟩ hQ19
                · skip
                  by_cases hg21 : r = (9 : Int)
                  · skip
                    refine zc rfl (za rfl rfl (zb rfl) (za rfl rfl (zY rfl rfl (decide_eq_false hg20)) (za rfl rfl (zb rfl) (zi rfl rfl rfl rfl rfl (zb rfl) (zi rfl rfl rfl rfl rfl (zY rfl rfl (decide_eq_true hg21)) (za rfl rfl (zm rfl rfl) (za rfl rfl (zb rfl) (zj rfl rfl rfl rfl rfl (by decide) (zj rfl rfl rfl rfl rfl (by decide) (za rfl rfl (zr rfl rfl) (za rfl rfl (ze rfl) (zg rfl ?_))))))))))))
                    exact PD.sub ((40, dB ((decide (r = (32 : Int)) || decide (r = (9 : Int))) || decide (r = (10 : Int)))) :: [(0, .v (.int .i32 r)), (2, dI 0)]) ⟨sc rfl (Cv.eq (congrArg (fun b => D.v (.bool b)) (by first | (simp [hg20, hg21]; done) | (simp_all; done)))), sk rfl, sk rfl, trivial⟩ hQ19
                  · skip
                    refine zc rfl (za rfl rfl (zb rfl) (za rfl rfl (zY rfl rfl (decide_eq_false hg20)) (za rfl rfl (zb rfl) (zi rfl rfl rfl rfl rfl (zb rfl) (zi rfl rfl rfl rfl rfl (zY rfl rfl (decide_eq_false hg21)) (za rfl rfl (zm rfl rfl) (za rfl rfl (zb rfl) (zi rfl rfl rfl rfl rfl (zb rfl) (zi rfl rfl rfl rfl rfl (zY rfl rfl rfl) (za rfl rfl (zm rfl rfl) (za rfl rfl (ze rfl) (zg rfl ?_))))))))))))
                    exact PD.sub ((40, dB ((decide (r = (32 : Int)) || decide (r = (9 : Int))) || decide (r = (10 : Int)))) :: [(0, .v (.int .i32 r)), (2, dI 0)]) ⟨sc rfl (Cv.eq (congrArg (fun b => D.v (.bool b)) (by first | (simp [hg20, hg21]; done) | (simp_all; done)))), sk rfl, sk rfl, trivial⟩ hQ19
              · skip
                refine zf ?_
                refine zu _ _ rfl rfl rfl rfl (fun hc22 => ?_) (fun hc22 => ?_)
                · simp only [Bool.and_eq_true, Bool.or_eq_true, Bool.not_eq_true', Bool.not_eq_false', Bool.and_eq_false_iff, Bool.or_eq_false_iff, decide_eq_true_eq, decide_eq_false_iff_not, Decidable.not_not, ne_eq] at hc22
                  refine zh _ _ rfl rfl rfl (zc rfl (za rfl rfl (ze rfl) (zg rfl (zf (zB rfl (zn (zp ?_)))))))
                  exact zx Try.results50 (.cons (zM (zs rfl) (Cv.eq (congrArg (fun n => D.v (.int .i64 n)) (by unfold zah; (repeat (any_goals split)) <;> omega)))) .nil) rfl HSub.none ⟨rfl, rfl⟩
                · simp only [Bool.and_eq_true, Bool.or_eq_true, Bool.not_eq_true', Bool.not_eq_false', Bool.and_eq_false_iff, Bool.or_eq_false_iff, decide_eq_true_eq, decide_eq_false_iff_not, Decidable.not_not, ne_eq] at hc22
                  refine zz rfl (zD (zf (zh _ _ rfl rfl rfl (zc rfl (za rfl rfl (ze rfl) (zg rfl (zf (zB rfl ?_))))))))
                  exact zx Try.results50 (.cons (zM (zs rfl) (Cv.eq (congrArg (fun n => D.v (.int .i64 n)) (by unfold zah; (repeat (any_goals split)) <;> omega)))) .nil) rfl HSub.none ⟨rfl, rfl⟩

set_option maxHeartbeats 4000000 in
set_option maxRecDepth 100000 in
theorem zd7 (s : ByteArray)  :
    CD Try.prog 74 [] [.s s] (isR (dB (zb2 s))) := by
  refine zL Try.func74 rfl (N := 32) rfl rfl (fun C => ?_)
  refine JD.keep [0] [(0, .s s)] rfl ?_
  refine JD.bd 0 rfl (fun bd0 => ?_)
  have sz0 : s.size ≤ 9223372036854775807 := bd0
  refine zh _ _ rfl rfl rfl (zc rfl (za rfl rfl (ze rfl) (zg rfl (zf (zh _ _ rfl rfl rfl (zc rfl (za rfl rfl (ze rfl) (zg rfl (zf (zh _ _ rfl rfl rfl (zh _ _ rfl rfl rfl (zc rfl (za rfl rfl (zb rfl) (zl rfl rfl (ef_range rfl Try.runUnderlying9) ?_))))))))))))))
  rintro _ _ ⟨g1, rfl, rfl⟩
  refine zg rfl (zf (zy _ rfl rfl (z7 (fun (g : Nat × Nat) => [(8, dP g1 0), (3, dN g.2)]) (fun (g : Nat × Nat) => [.it g1 s g.1]) (fun (g : Nat × Nat) => (g.1 ≤ s.size) ∧ (g.2 ≤ g.1) ∧ (zct 0 (zaK s) = zct g.2 (zbz s g.1))) (fun (g : Nat × Nat) => s.size - g.1) _ (0, 0) rfl rfl ⟨sk rfl, sk rfl, trivial⟩ HSub.rfl' ⟨Nat.zero_le _, Nat.le_refl _, rfl⟩ ?_)))
  rintro ⟨p, n⟩ ⟨hp, hn, hf⟩
  replace hp : p ≤ s.size := hp
  replace hn : n ≤ p := hn
  replace hf : zct 0 (zaK s) = zct n (zbz s p) := hf
  refine JD.keep [8, 3] [(8, dP g1 0), (3, dN n)] rfl (JD.norm [.it g1 s p] rfl ?_)
  rcases Nat.lt_or_ge p s.size with hlt | hge
  · skip
    have hrune := zb9 hlt
    have hrl := zdO s p
    have hdw := zbs s p hlt
    have hdp := zaw s p
    refine zh _ _ rfl rfl rfl (zc rfl (zl rfl rfl (ef_next_t (i := 0) rfl rfl hlt) ?_))
    rintro _ _ ⟨rfl, rfl⟩
    refine OpsD.norm [.it g1 s (p + decW s p)] rfl (za rfl rfl (zF rfl rfl) (zg rfl (zf (zh _ _ rfl rfl rfl (zau _ rfl rfl rfl (zz rfl (zf (zy _ rfl rfl (zh _ _ rfl rfl rfl (zc rfl (za rfl rfl (zF rfl rfl) (za rfl rfl (ze rfl) (zg rfl (zf (zh _ _ rfl rfl rfl (zh _ _ rfl rfl rfl (zc rfl (za rfl rfl (zb rfl) (zl rfl rfl (zt [] _ [] rfl rfl (.cons ArgC.id .nil) zo Try.call83 (Kind_c ((decR s p : Nat) : Int)) (.inl rfl)) ?_)))))))))))))))))))
    rintro _ _ ⟨_, ⟨rfl, rfl⟩, rfl⟩
    refine OpsD.norm [.it g1 s (p + decW s p)] rfl (za rfl rfl (ze rfl) (zg rfl (zf (zh _ _ rfl rfl rfl (JD.keep [3, 5, 6, 8, 9, 10, 11, 12, 13] [(3, dN n), (5, .v (.int .i32 ((decR s p : Nat) : Int))), (6, dI (zah ((decR s p : Nat) : Int))), (8, dP g1 0), (9, .tup [dB true, dN p, .v (.int .i32 ((decR s p : Nat) : Int))]), (10, dB true), (11, .v (.int .i32 ((decR s p : Nat) : Int))), (12, .v (.int .i32 ((decR s p : Nat) : Int))), (13, dI (zah ((decR s p : Nat) : Int)))] rfl ?_)))))
    refine zaj 23 ((decide (zah ((decR s p : Nat) : Int) ≠ (1 : Int)) && (decide (zah ((decR s p : Nat) : Int) ≠ (2 : Int)) || decide (((n : Nat) : Int) = (0 : Int))))) [.it g1 s (p + decW s p)] (fun _ hQ2 => ?_) ?_
    · skip
      by_cases hg3 : zah ((decR s p : Nat) : Int) ≠ (1 : Int)
      · skip
        by_cases hg4 : zah ((decR s p : Nat) : Int) ≠ (2 : Int)
        · skip
          refine zc rfl (za rfl rfl (zb rfl) (za rfl rfl (zbh rfl rfl (decide_eq_true hg3)) (za rfl rfl (zb rfl) (zi rfl rfl rfl rfl rfl (zb rfl) (zi rfl rfl rfl rfl rfl (zbh rfl rfl (decide_eq_true hg4)) (zi rfl rfl rfl rfl rfl (zb rfl) (zj rfl rfl rfl rfl rfl (by decide) (zj rfl rfl rfl rfl rfl (by decide) (zi rfl rfl rfl rfl rfl (zr rfl rfl) (za rfl rfl (zr rfl rfl) (zg rfl ?_)))))))))))
          exact PD.sub ((23, dB (decide (zah ((decR s p : Nat) : Int) ≠ (1 : Int)) && (decide (zah ((decR s p : Nat) : Int) ≠ (2 : Int)) || decide (((n : Nat) : Int) = (0 : Int))))) :: [(3, dN n), (5, .v (.int .i32 ((decR s p : Nat) : Int))), (6, dI (zah ((decR s p : Nat) : Int))), (8, dP g1 0), (9, .tup [dB true, dN p, .v (.int .i32 ((decR s p : Nat) : Int))]), (10, dB true), (11, .v (.int .i32 ((decR s p : Nat) : Int))), (12, .v (.int .i32 ((decR s p : Nat) : Int))), (13, dI (zah ((decR s p : Nat) : Int)))]) ⟨sc rfl (Cv.eq (congrArg (fun b => D.v (.bool b)) (by first | (simp [hg3, hg4]; done) | (simp_all; done)))), sk rfl, sk rfl, sk rfl, sk rfl, sk rfl, sk rfl, sk rfl, sk rfl, sk rfl, trivial⟩ hQ2
        · skip
          refine zc rfl (za rfl rfl (zb rfl) (za rfl rfl (zbh rfl rfl (decide_eq_true hg3)) (za rfl rfl (zb rfl) (zi rfl rfl rfl rfl rfl (zb rfl) (zi rfl rfl rfl rfl rfl (zbh rfl rfl (decide_eq_false hg4)) (zi rfl rfl rfl rfl rfl (zb rfl) (zi rfl rfl rfl rfl rfl (zb rfl) (zi rfl rfl rfl rfl rfl (zY rfl rfl rfl) (zi rfl rfl rfl rfl rfl (zm rfl rfl) (za rfl rfl (zr rfl rfl) (zg rfl ?_)))))))))))
          exact PD.sub ((23, dB (decide (zah ((decR s p : Nat) : Int) ≠ (1 : Int)) && (decide (zah ((decR s p : Nat) : Int) ≠ (2 : Int)) || decide (((n : Nat) : Int) = (0 : Int))))) :: [(3, dN n), (5, .v (.int .i32 ((decR s p : Nat) : Int))), (6, dI (zah ((decR s p : Nat) : Int))), (8, dP g1 0), (9, .tup [dB true, dN p, .v (.int .i32 ((decR s p : Nat) : Int))]), (10, dB true), (11, .v (.int .i32 ((decR s p : Nat) : Int))), (12, .v (.int .i32 ((decR s p : Nat) : Int))), (13, dI (zah ((decR s p : Nat) : Int)))]) ⟨sc rfl (Cv.eq (congrArg (fun b => D.v (.bool b)) (by first | (simp [hg3, hg4]; done) | (simp_all; done)))), sk rfl, sk rfl, sk rfl, sk rfl, sk rfl, sk rfl, sk rfl, sk rfl, sk rfl, trivial⟩ hQ2
      · skip
        refine zc rfl (za rfl rfl (zb rfl) (za rfl rfl (zbh rfl rfl (decide_eq_false hg3)) (za rfl rfl (zb rfl) (zj rfl rfl rfl rfl rfl (by decide) (zj rfl rfl rfl rfl rfl (by decide) (zj rfl rfl rfl rfl rfl (by decide) (zj rfl rfl rfl rfl rfl (by decide) (zj rfl rfl rfl rfl rfl (by decide) (zj rfl rfl rfl rfl rfl (by decide) (za rfl rfl (zm rfl rfl) (zg rfl ?_)))))))))))
        exact PD.sub ((23, dB (decide (zah ((decR s p : Nat) : Int) ≠ (1 : Int)) && (decide (zah ((decR s p : Nat) : Int) ≠ (2 : Int)) || decide (((n : Nat) : Int) = (0 : Int))))) :: [(3, dN n), (5, .v (.int .i32 ((decR s p : Nat) : Int))), (6, dI (zah ((decR s p : Nat) : Int))), (8, dP g1 0), (9, .tup [dB true, dN p, .v (.int .i32 ((decR s p : Nat) : Int))]), (10, dB true), (11, .v (.int .i32 ((decR s p : Nat) : Int))), (12, .v (.int .i32 ((decR s p : Nat) : Int))), (13, dI (zah ((decR s p : Nat) : Int)))]) ⟨sc rfl (Cv.eq (congrArg (fun b => D.v (.bool b)) (by first | (simp [hg3]; done) | (simp_all; done)))), sk rfl, sk rfl, sk rfl, sk rfl, sk rfl, sk rfl, sk rfl, sk rfl, sk rfl, trivial⟩ hQ2
    · skip
      refine zf ?_
      refine zu _ _ rfl rfl rfl rfl (fun hc5 => ?_) (fun hc5 => ?_)
      · simp only [Bool.and_eq_true, Bool.or_eq_true, Bool.not_eq_true', Bool.not_eq_false', Bool.and_eq_false_iff, Bool.or_eq_false_iff, decide_eq_true_eq, decide_eq_false_iff_not, Decidable.not_not, ne_eq] at hc5
        refine zh _ _ rfl rfl rfl (zc rfl (za rfl rfl (ze rfl) (zg rfl (zf (zB rfl (zp (zn (zZ (zn (zp ?_))))))))))
        exact zx Try.results74 (.cons (zM (zs rfl) (Cv.eq (congrArg (fun b => D.v (.bool b)) (by unfold zb2; rw [hf, hrune]; rw [nameR_bad (by omega)])))) .nil) rfl HSub.none ⟨rfl, rfl⟩
      · simp only [Bool.and_eq_true, Bool.or_eq_true, Bool.not_eq_true', Bool.not_eq_false', Bool.and_eq_false_iff, Bool.or_eq_false_iff, decide_eq_true_eq, decide_eq_false_iff_not, Decidable.not_not, ne_eq] at hc5
        refine zz rfl (zf (zc rfl (za rfl rfl (zb rfl) (za rfl rfl (z8 (c := ((n + 1 : Nat) : Int)) rfl rfl (zT (by omega) (by omega))) (za rfl rfl (ze rfl) (zg rfl (zD ?_)))))))
        exact zS (p + decW s p, n + 1) ⟨sk rfl, sk rfl, trivial⟩ HSub.rfl' ⟨by have := zbs s p hlt; omega, by omega, by rw [hf, hrune, nameR_next (by omega)]⟩ (by have := zaw s p; omega)
  · skip
    have hrune := zcD hge
    refine zh _ _ rfl rfl rfl (zc rfl (za rfl rfl (p_next_f (i := 0) rfl rfl hge) (za rfl rfl (zF rfl rfl) (zg rfl (zf (zh _ _ rfl rfl rfl (zaC _ rfl rfl rfl (z3 rfl (zK (zI (zE (zf (zh _ _ rfl rfl rfl (JD.keep [3] [(3, dN n)] rfl ?_))))))))))))))
    refine zaj 2 ((decide ((1 : Int) ≤ ((n : Nat) : Int)) && decide (((n : Nat) : Int) ≤ (30 : Int)))) [.it g1 s p] (fun _ hQ6 => ?_) ?_
    · skip
      by_cases hg7 : (1 : Int) ≤ ((n : Nat) : Int)
      · skip
        refine zc rfl (za rfl rfl (zb rfl) (za rfl rfl (zac rfl rfl (decide_eq_true hg7)) (za rfl rfl (zb rfl) (zi rfl rfl rfl rfl rfl (zb rfl) (zi rfl rfl rfl rfl rfl (zaS rfl rfl rfl) (za rfl rfl (zr rfl rfl) (za rfl rfl (ze rfl) (zg rfl ?_))))))))
        exact PD.sub ((2, dB (decide ((1 : Int) ≤ ((n : Nat) : Int)) && decide (((n : Nat) : Int) ≤ (30 : Int)))) :: [(3, dN n)]) ⟨sc rfl (Cv.eq (congrArg (fun b => D.v (.bool b)) (by first | (simp [hg7]; done) | (simp_all; done)))), sk rfl, trivial⟩ hQ6
      · skip
        refine zc rfl (za rfl rfl (zb rfl) (za rfl rfl (zac rfl rfl (decide_eq_false hg7)) (za rfl rfl (zb rfl) (zj rfl rfl rfl rfl rfl (by decide) (zj rfl rfl rfl rfl rfl (by decide) (za rfl rfl (zm rfl rfl) (za rfl rfl (ze rfl) (zg rfl ?_))))))))
        exact PD.sub ((2, dB (decide ((1 : Int) ≤ ((n : Nat) : Int)) && decide (((n : Nat) : Int) ≤ (30 : Int)))) :: [(3, dN n)]) ⟨sc rfl (Cv.eq (congrArg (fun b => D.v (.bool b)) (by first | (simp [hg7]; done) | (simp_all; done)))), sk rfl, trivial⟩ hQ6
    · skip
      refine zf (zB rfl ?_)
      exact zx Try.results74 (.cons (zM (zs rfl) (Cv.eq (congrArg (fun b => D.v (.bool b)) (by unfold zb2; rw [hf, hrune]; simp only [zct]; congr 1 <;> exact decide_eq_decide.2 (by omega))))) .nil) rfl HSub.none ⟨rfl, rfl⟩

set_option maxHeartbeats 4000000 in
set_option maxRecDepth 100000 in
theorem refSpell_c (s : ByteArray) (hs : s.size ≤ 1000000000) :
    CD Try.prog 49 [] [.s s] (zd0 1 21 ((zaK s).map dR)) := by
  refine zL Try.func49 rfl (N := 16) rfl rfl (fun C => ?_)
  refine JD.keep [0] [(0, .s s)] rfl ?_
  refine JD.bd 0 rfl (fun bd0 => ?_)
  have sz0 : s.size ≤ 9223372036854775807 := bd0
  refine zh _ _ rfl rfl rfl (zc rfl (za rfl rfl (ze rfl) (zg rfl (zf (zh _ _ rfl rfl rfl (zc rfl (za rfl rfl (ze rfl) (zg rfl (zf (zh _ _ rfl rfl rfl (zh _ _ rfl rfl rfl (zc rfl (za rfl rfl (zb rfl) (zl rfl rfl (ef_range rfl Try.runUnderlying9) ?_))))))))))))))
  rintro _ _ ⟨g1, rfl, rfl⟩
  refine zg rfl (zf (zy _ rfl rfl (z7 (fun (g : Nat × Value × List Int) => [(2, dZ), (7, dP g1 0), (3, .ov g.2.1)]) (fun (g : Nat × Value × List Int) => [.it g1 s g.1, .sl g.2.1 1 21 (g.2.2.map dR)]) (fun (g : Nat × Value × List Int) => (g.1 ≤ s.size) ∧ (g.2.2.length ≤ g.1) ∧ (zaK s = g.2.2 ++ zbz s g.1)) (fun (g : Nat × Value × List Int) => s.size - g.1) _ (0, .slice none 0 0, []) rfl rfl ⟨sk rfl, sk rfl, sc rfl (Cv.ov rfl), trivial⟩ (HSub.trans (HSub.nil 1 21) (HSub.perm (List.Perm.swap _ _ _))) ⟨Nat.zero_le _, Nat.le_refl _, rfl⟩ ?_)))
  rintro ⟨p, ov, l⟩ ⟨hp, hn, hf⟩
  replace hp : p ≤ s.size := hp
  replace hn : l.length ≤ p := hn
  replace hf : zaK s = l ++ zbz s p := hf
  refine JD.keep [2, 7, 3] [(2, dZ), (7, dP g1 0), (3, .ov ov)] rfl (JD.norm [.it g1 s p, .sl ov 1 21 (l.map dR)] rfl ?_)
  rcases Nat.lt_or_ge p s.size with hlt | hge
  · skip
    have hrune := zb9 hlt
    have hrl := zdO s p
    have hdw := zbs s p hlt
    have hdp := zaw s p
    refine zh _ _ rfl rfl rfl (zc rfl (zl rfl rfl (ef_next_t (i := 0) rfl rfl hlt) ?_))
    rintro _ _ ⟨rfl, rfl⟩
    refine OpsD.norm [.it g1 s (p + decW s p), .sl ov 1 21 (l.map dR)] rfl (za rfl rfl (zF rfl rfl) (zg rfl (zf (zh _ _ rfl rfl rfl (zau _ rfl rfl rfl (zz rfl (zf (zy _ rfl rfl (zh _ _ rfl rfl rfl (zc rfl (za rfl rfl (zF rfl rfl) (za rfl rfl (ze rfl) (zg rfl (zf (zc rfl (za rfl rfl (zb rfl) (za rfl rfl (zb rfl) (zl rfl rfl (z5 [.tmp 12] rfl rfl (.cons (CellD.v rfl) .nil) rfl Try.runUnderlying71 Try.sizeOf21 Try.zeroValue21 rfl rfl rfl rfl) ?_))))))))))))))))))
    rintro _ _ ⟨g2, rfl, rfl⟩
    refine zl rfl rfl (z4 (f := dR) (l := l) (l' := [((decR s p : Nat) : Int)]) (i := 2) rfl rfl rfl (SrcD.own (j := 0) rfl rfl) und_71 infz_21 rfl rfl (by unfold maxLen; (try simp only [la, lc, ln, lm, lt', ld, ls, lr]); omega) (by (try simp only [la, lc, ln, lm, lt', ld, ls, lr]); omega)) ?_
    rintro _ _ ⟨v3, rfl, rfl⟩
    refine OpsD.norm [.sl (vS g2 1 1) 1 21 ([.v (.int .i32 ((decR s p : Nat) : Int))]), .it g1 s (p + decW s p), .sl v3 1 21 ((l ++ [((decR s p : Nat) : Int)]).map dR)] rfl (za rfl rfl (ze rfl) (zg rfl (zD ?_)))
    exact zS (p + decW s p, v3, (l ++ [((decR s p : Nat) : Int)])) ⟨sk rfl, sk rfl, sk rfl, trivial⟩ (HSub.lst 1 rfl) ⟨by have := zbs s p hlt; omega, by rw [List.length_append, List.length_singleton]; omega, by rw [hf, hrune, List.append_assoc]; rfl⟩ (by have := zaw s p; omega)
  · skip
    have hrune := zcD hge
    refine zh _ _ rfl rfl rfl (zc rfl (za rfl rfl (p_next_f (i := 0) rfl rfl hge) (za rfl rfl (zF rfl rfl) (zg rfl (zf (zh _ _ rfl rfl rfl (zaC _ rfl rfl rfl (z3 rfl (zK (zI (zE (zf (zh _ _ rfl rfl rfl (zc rfl (za rfl rfl (zb rfl) (za rfl rfl (ze rfl) (zg rfl (zf (zB rfl (PD.subH (HSub.less (zcK (i := 1) rfl)) (PD.subH (HSub.turn (h' := .sl ov 1 21 ((zaK s).map dR)) rfl (Hp.eq_sl (show List.map dR l = List.map dR (zaK s) from congrArg _ (by rw [hf, hrune, List.append_nil])))) ?_)))))))))))))))))))))
    exact zdc Try.results49 (.cons (zs rfl) .nil) rfl ⟨_, rfl, rfl⟩

set_option maxHeartbeats 4000000 in
set_option maxRecDepth 100000 in
theorem refName_c (s : ByteArray) (hs : s.size ≤ 1000000000) :
    CD Try.prog 34 [] [.s s] (isR (dB (zb2 s))) := by
  refine zL Try.func34 rfl (N := 42) rfl rfl (fun C => ?_)
  refine JD.keep [0] [(0, .s s)] rfl ?_
  refine JD.bd 0 rfl (fun bd0 => ?_)
  have sz0 : s.size ≤ 9223372036854775807 := bd0
  refine zh _ _ rfl rfl rfl (zc rfl (za rfl rfl (ze rfl) (zg rfl (zf (zh _ _ rfl rfl rfl (zc rfl (za rfl rfl (zb rfl) (zl rfl rfl (zt [] _ [] rfl rfl (.cons ArgC.id .nil) zo Try.call49 (refSpell_c s (by omega)) (.inl rfl)) ?_))))))))
  rintro _ _ ⟨_, ⟨v1, rfl, rfl⟩, rfl⟩
  refine OpsD.norm [.sl v1 1 21 ((zaK s).map dR)] rfl (za rfl rfl (ze rfl) (zg rfl (zf (zh _ _ rfl rfl rfl (zh _ _ rfl rfl rfl ?_)))))
  by_cases hg2 : (((zaK s).length : Nat) : Int) < (1 : Int)
  · skip
    refine zc rfl (za rfl rfl (zb rfl) (za rfl rfl (z6 (n := (zaK s).length) (j := 0) rfl rfl Try.runUnderlying71 (List.length_map _)) (za rfl rfl (zaa rfl rfl (decide_eq_true hg2)) (za rfl rfl (zb rfl) (zj rfl rfl rfl rfl rfl (by decide) (zj rfl rfl rfl rfl rfl (by decide) (zj rfl rfl rfl rfl rfl (by decide) (za rfl rfl (zr rfl rfl) (za rfl rfl (zb rfl) (zj rfl rfl rfl rfl rfl (by decide) (zj rfl rfl rfl rfl rfl (by decide) (zj rfl rfl rfl rfl rfl (by decide) (zj rfl rfl rfl rfl rfl (by decide) (zj rfl rfl rfl rfl rfl (by decide) (za rfl rfl (zr rfl rfl) (zg rfl (zf (JD.keep [2, 3, 21] [(2, dB false), (3, .ov v1), (21, dB true)] rfl (zau _ rfl rfl rfl (zh _ _ rfl rfl rfl (zc rfl (za rfl rfl (ze rfl) (zg rfl (zf (zB rfl (zp ?_))))))))))))))))))))))))))
    exact zx Try.results34 (.cons (zM (zs rfl) (Cv.eq (congrArg (fun b => D.v (.bool b)) (by unfold zb2; rw [zbY]; first | (rw [List.take_of_length_le (by omega)] at hw; rw [List.getD_eq_getElem?_getD, hx1, hw]; simp; omega) | (rw [List.getD_eq_getElem?_getD, hx1]; simp; omega) | (simp; omega))))) .nil) rfl HSub.none ⟨rfl, rfl⟩
  · skip
    by_cases hg3 : (30 : Int) < (((zaK s).length : Nat) : Int)
    · skip
      refine zc rfl (za rfl rfl (zb rfl) (za rfl rfl (z6 (n := (zaK s).length) (j := 0) rfl rfl Try.runUnderlying71 (List.length_map _)) (za rfl rfl (zaa rfl rfl (decide_eq_false hg2)) (za rfl rfl (zb rfl) (zi rfl rfl rfl rfl rfl (zb rfl) (zi rfl rfl rfl rfl rfl (z6 (n := (zaK s).length) (j := 0) rfl rfl Try.runUnderlying71 (List.length_map _)) (zi rfl rfl rfl rfl rfl (zaM rfl rfl (decide_eq_true hg3)) (za rfl rfl (zm rfl rfl) (za rfl rfl (zb rfl) (zj rfl rfl rfl rfl rfl (by decide) (zj rfl rfl rfl rfl rfl (by decide) (zj rfl rfl rfl rfl rfl (by decide) (zj rfl rfl rfl rfl rfl (by decide) (zj rfl rfl rfl rfl rfl (by decide) (za rfl rfl (zr rfl rfl) (zg rfl (zf (JD.keep [2, 3, 21] [(2, dB false), (3, .ov v1), (21, dB true)] rfl (zau _ rfl rfl rfl (zh _ _ rfl rfl rfl (zc rfl (za rfl rfl (ze rfl) (zg rfl (zf (zB rfl (zp ?_))))))))))))))))))))))))))
      exact zx Try.results34 (.cons (zM (zs rfl) (Cv.eq (congrArg (fun b => D.v (.bool b)) (by unfold zb2; rw [zbY]; first | (rw [List.take_of_length_le (by omega)] at hw; rw [List.getD_eq_getElem?_getD, hx1, hw]; simp; omega) | (rw [List.getD_eq_getElem?_getD, hx1]; simp; omega) | (simp; omega))))) .nil) rfl HSub.none ⟨rfl, rfl⟩
    · skip
      refine zc rfl (za rfl rfl (zb rfl) (za rfl rfl (z6 (n := (zaK s).length) (j := 0) rfl rfl Try.runUnderlying71 (List.length_map _)) (za rfl rfl (zaa rfl rfl (decide_eq_false hg2)) (za rfl rfl (zb rfl) (zi rfl rfl rfl rfl rfl (zb rfl) (zi rfl rfl rfl rfl rfl (z6 (n := (zaK s).length) (j := 0) rfl rfl Try.runUnderlying71 (List.length_map _)) (zi rfl rfl rfl rfl rfl (zaM rfl rfl (decide_eq_false hg3)) (za rfl rfl (zm rfl rfl) (za rfl rfl (zb rfl) (zi rfl rfl rfl rfl rfl (zb rfl) ?_))))))))))
      obtain ⟨x1, hx1⟩ := zV (zaK s) 0 (by omega)
      refine zi rfl rfl rfl rfl rfl (zC (k := 0) (j := 0) rfl rfl rfl Try.runUnderlying71 Try.sizeOf21 (by first | rfl | omega) (zw hx1)) (zi rfl rfl rfl rfl rfl (zay rfl (i := 0) rfl (zw hx1) Try.isAgg21 rfl) (zaT rfl rfl rfl rfl rfl (zt [] _ [] rfl rfl (.cons ArgC.id .nil) zo Try.call50 (refKind_c x1) (.inl rfl)) ?_))
      rintro _ _ ⟨_, ⟨rfl, rfl⟩, rfl⟩
      refine OpsD.norm [.sl v1 1 21 ((zaK s).map dR)] rfl (zi rfl rfl rfl rfl rfl (zbh rfl rfl rfl) (za rfl rfl (zm rfl rfl) (zg rfl (zf (JD.keep [2, 3, 21] [(2, dB false), (3, .ov v1), (21, dB (decide (zah x1 ≠ (1 : Int))))] rfl ?_)))))
      refine zu _ _ rfl rfl rfl rfl (fun hc4 => ?_) (fun hc4 => ?_)
      · replace hc4 := of_decide_eq_true hc4
        refine zh _ _ rfl rfl rfl (zc rfl (za rfl rfl (ze rfl) (zg rfl (zf (zB rfl (zp ?_))))))
        exact zx Try.results34 (.cons (zM (zs rfl) (Cv.eq (congrArg (fun b => D.v (.bool b)) (by unfold zb2; rw [zbY]; first | (rw [wordR_bad hx1 (by omega)]; simp; done) | (rw [List.take_of_length_le (by omega)] at hw; rw [List.getD_eq_getElem?_getD, hx1, hw]; simp; omega) | (rw [List.getD_eq_getElem?_getD, hx1]; simp; omega) | (simp; omega))))) .nil) rfl HSub.none ⟨rfl, rfl⟩
      · replace hc4 := of_decide_eq_false hc4
        refine zz rfl (zf (zh _ _ rfl rfl rfl (zh _ _ rfl rfl rfl (zc rfl (za rfl rfl (ze rfl) (zg rfl (zf (zy _ rfl rfl (z7 (fun (g : Nat) => [(3, .ov v1), (4, dN g)]) (fun (g : Nat) => [.sl v1 1 21 ((zaK s).map dR)]) (fun (g : Nat) => (g ≤ (zaK s).length) ∧ (zcQ ((zaK s).take g) = true)) (fun (g : Nat) => (zaK s).length - g) _ 0 rfl rfl ⟨sk rfl, sk rfl, trivial⟩ HSub.rfl' ⟨Nat.zero_le _, rfl⟩ ?_)))))))))
        rintro k ⟨hk, hw⟩
        refine JD.keep [3, 4] [(3, .ov v1), (4, dN k)] rfl (JD.norm [.sl v1 1 21 ((zaK s).map dR)] rfl (zh _ _ rfl rfl rfl (zh _ _ rfl rfl rfl (zc rfl (za rfl rfl (zb rfl) (za rfl rfl (zb rfl) (za rfl rfl (z6 (n := (zaK s).length) (j := 0) rfl rfl Try.runUnderlying71 (List.length_map _)) (za rfl rfl (zaa rfl rfl rfl) (zg rfl (zf ?_))))))))))
        refine zu _ _ rfl rfl rfl rfl (fun hc5 => ?_) (fun hc5 => ?_)
        · replace hc5 := of_decide_eq_true hc5
          refine zz rfl (zf (zh _ _ rfl rfl rfl (zy _ rfl rfl (zh _ _ rfl rfl rfl ?_))))
          obtain ⟨x2, hx2⟩ := zV (zaK s) k (by omega)
          refine JD.keep [3, 4, 22, 23, 24, 25] [(3, .ov v1), (4, dN k), (22, dN k), (23, .ov v1), (24, dN ((zaK s).length)), (25, dB (decide (((k : Nat) : Int) < (((zaK s).length : Nat) : Int))))] rfl ?_
          refine zaj 41 ((decide (zah x2 ≠ (1 : Int)) && decide (zah x2 ≠ (2 : Int)))) [.sl v1 1 21 ((zaK s).map dR)] (fun _ hQ6 => ?_) ?_
          · skip
            by_cases hg7 : zah x2 ≠ (1 : Int)
            · skip
              refine zc rfl (za rfl rfl (zb rfl) (za rfl rfl (zb rfl) (za rfl rfl (zC (k := k) (j := 0) rfl rfl rfl Try.runUnderlying71 Try.sizeOf21 (by first | rfl | omega) (zw hx2)) (za rfl rfl (zay rfl (i := 0) rfl (zw hx2) Try.isAgg21 rfl) (zl rfl rfl (zt [] _ [] rfl rfl (.cons ArgC.id .nil) zo Try.call50 (refKind_c x2) (.inl rfl)) ?_)))))
              rintro _ _ ⟨_, ⟨rfl, rfl⟩, rfl⟩
              refine OpsD.norm [.sl v1 1 21 ((zaK s).map dR)] rfl (za rfl rfl (zbh rfl rfl (decide_eq_true hg7)) (za rfl rfl (zb rfl) (zi rfl rfl rfl rfl rfl (zb rfl) (zi rfl rfl rfl rfl rfl (zb rfl) (zi rfl rfl rfl rfl rfl (zC (k := k) (j := 0) rfl rfl rfl Try.runUnderlying71 Try.sizeOf21 (by first | rfl | omega) (zw hx2)) (zi rfl rfl rfl rfl rfl (zay rfl (i := 0) rfl (zw hx2) Try.isAgg21 rfl) (zaT rfl rfl rfl rfl rfl (zt [] _ [] rfl rfl (.cons ArgC.id .nil) zo Try.call50 (refKind_c x2) (.inl rfl)) ?_)))))))
              rintro _ _ ⟨_, ⟨rfl, rfl⟩, rfl⟩
              refine OpsD.norm [.sl v1 1 21 ((zaK s).map dR)] rfl (zi rfl rfl rfl rfl rfl (zbh rfl rfl rfl) (za rfl rfl (zr rfl rfl) (zg rfl ?_)))
              exact PD.sub ((41, dB (decide (zah x2 ≠ (1 : Int)) && decide (zah x2 ≠ (2 : Int)))) :: [(3, .ov v1), (4, dN k), (22, dN k), (23, .ov v1), (24, dN ((zaK s).length)), (25, dB (decide (((k : Nat) : Int) < (((zaK s).length : Nat) : Int))))]) ⟨sc rfl (Cv.eq (congrArg (fun b => D.v (.bool b)) (by first | (simp [hc5, hg7]; done) | (simp_all; done)))), sk rfl, sk rfl, sk rfl, sk rfl, sk rfl, sk rfl, trivial⟩ hQ6
            · skip
              refine zc rfl (za rfl rfl (zb rfl) (za rfl rfl (zb rfl) (za rfl rfl (zC (k := k) (j := 0) rfl rfl rfl Try.runUnderlying71 Try.sizeOf21 (by first | rfl | omega) (zw hx2)) (za rfl rfl (zay rfl (i := 0) rfl (zw hx2) Try.isAgg21 rfl) (zl rfl rfl (zt [] _ [] rfl rfl (.cons ArgC.id .nil) zo Try.call50 (refKind_c x2) (.inl rfl)) ?_)))))
              rintro _ _ ⟨_, ⟨rfl, rfl⟩, rfl⟩
              refine OpsD.norm [.sl v1 1 21 ((zaK s).map dR)] rfl (za rfl rfl (zbh rfl rfl (decide_eq_false hg7)) (za rfl rfl (zb rfl) (zj rfl rfl rfl rfl rfl (by decide) (zj rfl rfl rfl rfl rfl (by decide) (zj rfl rfl rfl rfl rfl (by decide) (zj rfl rfl rfl rfl rfl (by decide) (zj rfl rfl rfl rfl rfl (by decide) (zj rfl rfl rfl rfl rfl (by decide) (za rfl rfl (zm rfl rfl) (zg rfl ?_))))))))))
              exact PD.sub ((41, dB (decide (zah x2 ≠ (1 : Int)) && decide (zah x2 ≠ (2 : Int)))) :: [(3, .ov v1), (4, dN k), (22, dN k), (23, .ov v1), (24, dN ((zaK s).length)), (25, dB (decide (((k : Nat) : Int) < (((zaK s).length : Nat) : Int))))]) ⟨sc rfl (Cv.eq (congrArg (fun b => D.v (.bool b)) (by first | (simp [hc5, hg7]; done) | (simp_all; done)))), sk rfl, sk rfl, sk rfl, sk rfl, sk rfl, sk rfl, trivial⟩ hQ6
          · skip
            refine zf ?_
            refine zu _ _ rfl rfl rfl rfl (fun hc8 => ?_) (fun hc8 => ?_)
            · simp only [Bool.and_eq_true, Bool.or_eq_true, Bool.not_eq_true', Bool.not_eq_false', Bool.and_eq_false_iff, Bool.or_eq_false_iff, decide_eq_true_eq, decide_eq_false_iff_not, Decidable.not_not, ne_eq] at hc8
              refine zh _ _ rfl rfl rfl (zc rfl (za rfl rfl (ze rfl) (zg rfl (zf (zB rfl (zn (zp (zZ (zn (zp ?_))))))))))
              exact zx Try.results34 (.cons (zM (zs rfl) (Cv.eq (congrArg (fun b => D.v (.bool b)) (by unfold zb2; rw [zbY]; first | (rw [wordR_bad hx2 (by omega)]; simp; done) | (rw [List.take_of_length_le (by omega)] at hw; rw [List.getD_eq_getElem?_getD, hx1, hw]; simp; omega) | (rw [List.getD_eq_getElem?_getD, hx1]; simp; omega) | (simp; omega))))) .nil) rfl HSub.none ⟨rfl, rfl⟩
            · simp only [Bool.and_eq_true, Bool.or_eq_true, Bool.not_eq_true', Bool.not_eq_false', Bool.and_eq_false_iff, Bool.or_eq_false_iff, decide_eq_true_eq, decide_eq_false_iff_not, Decidable.not_not, ne_eq] at hc8
              refine zz rfl (zD (zf (zc rfl (za rfl rfl (zb rfl) (za rfl rfl (z8 (c := ((k + 1 : Nat) : Int)) rfl rfl (zT (by omega) (by omega))) (za rfl rfl (ze rfl) (zg rfl ?_)))))))
              exact zS (k + 1) ⟨sk rfl, sk rfl, trivial⟩ HSub.rfl' ⟨by omega, wordR_take hx2 hw (by omega)⟩ (by omega)
        · replace hc5 := of_decide_eq_false hc5
          refine z3 rfl (zK (zI (zE (zf (zh _ _ rfl rfl rfl (zc rfl (za rfl rfl (ze rfl) (zg rfl (zf (zB rfl ?_))))))))))
          exact zx Try.results34 (.cons (zM (zs rfl) (Cv.eq (congrArg (fun b => D.v (.bool b)) (by unfold zb2; rw [zbY]; first | (rw [List.take_of_length_le (by omega)] at hw; rw [List.getD_eq_getElem?_getD, hx1, hw]; simp; omega) | (rw [List.getD_eq_getElem?_getD, hx1]; simp; omega) | (simp; omega))))) .nil) rfl HSub.none ⟨rfl, rfl⟩
end Lp
