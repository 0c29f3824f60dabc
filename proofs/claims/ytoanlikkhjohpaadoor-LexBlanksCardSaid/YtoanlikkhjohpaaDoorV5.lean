/- Walks, printed by a program of mine. -/
import Derived.Test.YtoanlikkhjohpaaDoorDP
set_option linter.unusedSimpArgs false
set_option linter.unusedVariables false
namespace Lp
open Go Go.RowKit Go.Proofs

namespace HdYtoanlikkhjohpaaDoorV5
end HdYtoanlikkhjohpaaDoorV5
open HdYtoanlikkhjohpaaDoorV5

set_option maxHeartbeats 4000000 in
set_option maxRecDepth 100000 in
theorem Kind_c (r : Int)  :
    CD Tryd.prog 20 [] [.v (.int .i32 r)] (isR (dI (zM r))) := by
  refine zC Tryd.func20 rfl (N := 51) rfl rfl (fun C => ?_)
  refine JD.keep [0] [(0, .v (.int .i32 r))] rfl (zh _ _ rfl rfl rfl (zc rfl (za rfl rfl (ze rfl) (zf rfl (zg (zh _ _ rfl rfl rfl (zL _ rfl rfl (zh _ _ rfl rfl rfl (JD.keep [0, 2] [(0, .v (.int .i32 r)), (2, dI 0)] rfl ?_)))))))))
  refine zab 3 ((decide (r < (0 : Int)) || decide (r = (65533 : Int)))) [] (fun _ hQ1 => ?_) ?_
  · skip
    by_cases hg2 : r < (0 : Int)
    · skip
      refine zc rfl (za rfl rfl (zb rfl) (za rfl rfl (zbd rfl rfl (decide_eq_true hg2)) (za rfl rfl (zb rfl) (zi rfl rfl rfl rfl rfl (by decide) (zi rfl rfl rfl rfl rfl (by decide) (za rfl rfl (zl rfl rfl) (za rfl rfl (ze rfl) (zf rfl ?_))))))))
      exact PD.sub ((3, dB (decide (r < (0 : Int)) || decide (r = (65533 : Int)))) :: [(0, .v (.int .i32 r)), (2, dI 0)]) ⟨sc rfl (Cv.eq (congrArg (fun b => D.v (.bool b)) (by first | (simp [hg2]; done) | (simp_all; done)))), sk rfl, sk rfl, trivial⟩ hQ1
    · skip
      refine zc rfl (za rfl rfl (zb rfl) (za rfl rfl (zbd rfl rfl (decide_eq_false hg2)) (za rfl rfl (zb rfl) (zd rfl rfl rfl rfl rfl (zb rfl) (zd rfl rfl rfl rfl rfl (zF rfl rfl rfl) (za rfl rfl (zj rfl rfl) (za rfl rfl (ze rfl) (zf rfl ?_))))))))
      exact PD.sub ((3, dB (decide (r < (0 : Int)) || decide (r = (65533 : Int)))) :: [(0, .v (.int .i32 r)), (2, dI 0)]) ⟨sc rfl (Cv.eq (congrArg (fun b => D.v (.bool b)) (by first | (simp [hg2]; done) | (simp_all; done)))), sk rfl, sk rfl, trivial⟩ hQ1
  · skip
    refine zg ?_
    refine zy _ _ rfl rfl rfl rfl (fun hc3 => ?_) (fun hc3 => ?_)
    · simp only [Bool.and_eq_true, Bool.or_eq_true, Bool.not_eq_true', Bool.not_eq_false', Bool.and_eq_false_iff, Bool.or_eq_false_iff, decide_eq_true_eq, decide_eq_false_iff_not, Decidable.not_not, ne_eq] at hc3
      refine zh _ _ rfl rfl rfl (zc rfl (za rfl rfl (ze rfl) (zf rfl (zg (zw rfl (zo (zt ?_)))))))
      exact zp Tryd.results20 (.cons (zB (zr rfl) (Cv.eq (congrArg (fun n => D.v (.int .i64 n)) (by unfold zM; (repeat (any_goals split)) <;> omega)))) .nil) rfl HSub.none ⟨rfl, rfl⟩
    · simp only [Bool.and_eq_true, Bool.or_eq_true, Bool.not_eq_true', Bool.not_eq_false', Bool.and_eq_false_iff, Bool.or_eq_false_iff, decide_eq_true_eq, decide_eq_false_iff_not, Decidable.not_not, ne_eq] at hc3
      refine zh _ _ rfl rfl rfl (JD.keep [0, 2] [(0, .v (.int .i32 r)), (2, dI 0)] rfl ?_)
      refine zab 10 (((((decide ((97 : Int) ≤ r) && decide (r ≤ (122 : Int))) || (decide ((65 : Int) ≤ r) && decide (r ≤ (90 : Int)))) || decide (r = (95 : Int))) || decide ((128 : Int) ≤ r))) [] (fun _ hQ4 => ?_) ?_
      · skip
        by_cases hg5 : (97 : Int) ≤ r
        · skip
          by_cases hg6 : r ≤ (122 : Int)
          · skip
            refine zc rfl (za rfl rfl (zb rfl) (za rfl rfl (zK rfl rfl (decide_eq_true hg5)) (za rfl rfl (zb rfl) (zd rfl rfl rfl rfl rfl (zb rfl) (zd rfl rfl rfl rfl rfl (zak rfl rfl (decide_eq_true hg6)) (za rfl rfl (zl rfl rfl) (za rfl rfl (zb rfl) (zi rfl rfl rfl rfl rfl (by decide) (zi rfl rfl rfl rfl rfl (by decide) (zi rfl rfl rfl rfl rfl (by decide) (zi rfl rfl rfl rfl rfl (by decide) (zi rfl rfl rfl rfl rfl (by decide) (zi rfl rfl rfl rfl rfl (by decide) (za rfl rfl (zl rfl rfl) (za rfl rfl (zb rfl) (zi rfl rfl rfl rfl rfl (by decide) (zi rfl rfl rfl rfl rfl (by decide) (za rfl rfl (zl rfl rfl) (za rfl rfl (zb rfl) (zi rfl rfl rfl rfl rfl (by decide) (zi rfl rfl rfl rfl rfl (by decide) (za rfl rfl (zl rfl rfl) (za rfl rfl (ze rfl) (zf rfl ?_))))))))))))))))))))))))
            exact PD.sub ((10, dB ((((decide ((97 : Int) ≤ r) && decide (r ≤ (122 : Int))) || (decide ((65 : Int) ≤ r) && decide (r ≤ (90 : Int)))) || decide (r = (95 : Int))) || decide ((128 : Int) ≤ r))) :: [(0, .v (.int .i32 r)), (2, dI 0)]) ⟨sc rfl (Cv.eq (congrArg (fun b => D.v (.bool b)) (by first | (simp [hg5, hg6]; done) | (simp_all; done)))), sk rfl, sk rfl, trivial⟩ hQ4
          · skip
            by_cases hg7 : (65 : Int) ≤ r
            · skip
              by_cases hg8 : r ≤ (90 : Int)
              · skip
                refine zc rfl (za rfl rfl (zb rfl) (za rfl rfl (zK rfl rfl (decide_eq_true hg5)) (za rfl rfl (zb rfl) (zd rfl rfl rfl rfl rfl (zb rfl) (zd rfl rfl rfl rfl rfl (zak rfl rfl (decide_eq_false hg6)) (za rfl rfl (zl rfl rfl) (za rfl rfl (zb rfl) (zd rfl rfl rfl rfl rfl (zb rfl) (zd rfl rfl rfl rfl rfl (zK rfl rfl (decide_eq_true hg7)) (zd rfl rfl rfl rfl rfl (zb rfl) (zd rfl rfl rfl rfl rfl (zb rfl) (zd rfl rfl rfl rfl rfl (zak rfl rfl (decide_eq_true hg8)) (zd rfl rfl rfl rfl rfl (zl rfl rfl) (za rfl rfl (zj rfl rfl) (za rfl rfl (zb rfl) (zi rfl rfl rfl rfl rfl (by decide) (zi rfl rfl rfl rfl rfl (by decide) (za rfl rfl (zl rfl rfl) (za rfl rfl (zb rfl) (zi rfl rfl rfl rfl rfl (by decide) (zi rfl rfl rfl rfl rfl (by decide) (za rfl rfl (zl rfl rfl) (za rfl rfl (ze rfl) (zf rfl ?_))))))))))))))))))))))))
                exact PD.sub ((10, dB ((((decide ((97 : Int) ≤ r) && decide (r ≤ (122 : Int))) || (decide ((65 : Int) ≤ r) && decide (r ≤ (90 : Int)))) || decide (r = (95 : Int))) || decide ((128 : Int) ≤ r))) :: [(0, .v (.int .i32 r)), (2, dI 0)]) ⟨sc rfl (Cv.eq (congrArg (fun b => D.v (.bool b)) (by first | (simp [hg5, hg6, hg7, hg8]; done) | (simp_all; done)))), sk rfl, sk rfl, trivial⟩ hQ4
              · skip
                by_cases hg9 : r = (95 : Int)
                · skip
                  refine zc rfl (za rfl rfl (zb rfl) (za rfl rfl (zK rfl rfl (decide_eq_true hg5)) (za rfl rfl (zb rfl) (zd rfl rfl rfl rfl rfl (zb rfl) (zd rfl rfl rfl rfl rfl (zak rfl rfl (decide_eq_false hg6)) (za rfl rfl (zl rfl rfl) (za rfl rfl (zb rfl) (zd rfl rfl rfl rfl rfl (zb rfl) (zd rfl rfl rfl rfl rfl (zK rfl rfl (decide_eq_true hg7)) (zd rfl rfl rfl rfl rfl (zb rfl) (zd rfl rfl rfl rfl rfl (zb rfl) (zd rfl rfl rfl rfl rfl (zak rfl rfl (decide_eq_false hg8)) (zd rfl rfl rfl rfl rfl (zl rfl rfl) (za rfl rfl (zj rfl rfl) (za rfl rfl (zb rfl) (zd rfl rfl rfl rfl rfl (zb rfl) (zd rfl rfl rfl rfl rfl (zF rfl rfl (decide_eq_true hg9)) (za rfl rfl (zj rfl rfl) (za rfl rfl (zb rfl) (zi rfl rfl rfl rfl rfl (by decide) (zi rfl rfl rfl rfl rfl (by decide) (za rfl rfl (zl rfl rfl) (za rfl rfl (ze rfl) (zf rfl ?_))))))))))))))))))))))))
                  exact PD.sub ((10, dB ((((decide ((97 : Int) ≤ r) && decide (r ≤ (122 : Int))) || (decide ((65 : Int) ≤ r) && decide (r ≤ (90 : Int)))) || decide (r = (95 : Int))) || decide ((128 : Int) ≤ r))) :: [(0, .v (.int .i32 r)), (2, dI 0)]) ⟨sc rfl (Cv.eq (congrArg (fun b => D.v (.bool b)) (by first | (simp [hg5, hg6, hg7, hg8, hg9]; done) | (simp_all; done)))), sk rfl, sk rfl, trivial⟩ hQ4
                · skip
                  refine zc rfl (za rfl rfl (zb rfl) (za rfl rfl (zK rfl rfl (decide_eq_true hg5)) (za rfl rfl (zb rfl) (zd rfl rfl rfl rfl rfl (zb rfl) (zd rfl rfl rfl rfl rfl (zak rfl rfl (decide_eq_false hg6)) (za rfl rfl (zl rfl rfl) (za rfl rfl (zb rfl) (zd rfl rfl rfl rfl rfl (zb rfl) (zd rfl rfl rfl rfl rfl (zK rfl rfl (decide_eq_true hg7)) (zd rfl rfl rfl rfl rfl (zb rfl) (zd rfl rfl rfl rfl rfl (zb rfl) (zd rfl rfl rfl rfl rfl (zak rfl rfl (decide_eq_false hg8)) (zd rfl rfl rfl rfl rfl (zl rfl rfl) (za rfl rfl (zj rfl rfl) (za rfl rfl (zb rfl) (zd rfl rfl rfl rfl rfl (zb rfl) (zd rfl rfl rfl rfl rfl (zF rfl rfl (decide_eq_false hg9)) (za rfl rfl (zj rfl rfl) (za rfl rfl (zb rfl) (zd rfl rfl rfl rfl rfl (zb rfl) (zd rfl rfl rfl rfl rfl (zK rfl rfl rfl) (za rfl rfl (zj rfl rfl) (za rfl rfl (ze rfl) (zf rfl ?_))))))))))))))))))))))))
                  exact PD.sub ((10, dB ((((decide ((97 : Int) ≤ r) && decide (r ≤ (122 : Int))) || (decide ((65 : Int) ≤ r) && decide (r ≤ (90 : Int)))) || decide (r = (95 : Int))) || decide ((128 : Int) ≤ r))) :: [(0, .v (.int .i32 r)), (2, dI 0)]) ⟨sc rfl (Cv.eq (congrArg (fun b => D.v (.bool b)) (by first | (simp [hg5, hg6, hg7, hg8, hg9]; done) | (simp_all; done)))), sk rfl, sk rfl, trivial⟩ hQ4
            · skip
              by_cases hg10 : r = (95 : Int)
              · skip
                refine zc rfl (za rfl rfl (zb rfl) (za rfl rfl (zK rfl rfl (decide_eq_true hg5)) (za rfl rfl (zb rfl) (zd rfl rfl rfl rfl rfl (zb rfl) (zd rfl rfl rfl rfl rfl (zak rfl rfl (decide_eq_false hg6)) (za rfl rfl (zl rfl rfl) (za rfl rfl (zb rfl) (zd rfl rfl rfl rfl rfl (zb rfl) (zd rfl rfl rfl rfl rfl (zK rfl rfl (decide_eq_false hg7)) (zd rfl rfl rfl rfl rfl (zb rfl) (zi rfl rfl rfl rfl rfl (by decide) (zi rfl rfl rfl rfl rfl (by decide) (zd rfl rfl rfl rfl rfl (zj rfl rfl) (za rfl rfl (zj rfl rfl) (za rfl rfl (zb rfl) (zd rfl rfl rfl rfl rfl (zb rfl) (zd rfl rfl rfl rfl rfl (zF rfl rfl (decide_eq_true hg10)) (za rfl rfl (zj rfl rfl) (za rfl rfl (zb rfl) (zi rfl rfl rfl rfl rfl (by decide) (zi rfl rfl rfl rfl rfl (by decide) (za rfl rfl (zl rfl rfl) (za rfl rfl (ze rfl) (zf rfl ?_))))))))))))))))))))))))
                exact PD.sub ((10, dB ((((decide ((97 : Int) ≤ r) && decide (r ≤ (122 : Int))) || (decide ((65 : Int) ≤ r) && decide (r ≤ (90 : Int)))) || decide (r = (95 : Int))) || decide ((128 : Int) ≤ r))) :: [(0, .v (.int .i32 r)), (2, dI 0)]) ⟨sc rfl (Cv.eq (congrArg (fun b => D.v (.bool b)) (by first | (simp [hg10, hg5, hg6, hg7]; done) | (simp_all; done)))), sk rfl, sk rfl, trivial⟩ hQ4
              · skip
                refine zc rfl (za rfl rfl (zb rfl) (za rfl rfl (zK rfl rfl (decide_eq_true hg5)) (za rfl rfl (zb rfl) (zd rfl rfl rfl rfl rfl (zb rfl) (zd rfl rfl rfl rfl rfl (zak rfl rfl (decide_eq_false hg6)) (za rfl rfl (zl rfl rfl) (za rfl rfl (zb rfl) (zd rfl rfl rfl rfl rfl (zb rfl) (zd rfl rfl rfl rfl rfl (zK rfl rfl (decide_eq_false hg7)) (zd rfl rfl rfl rfl rfl (zb rfl) (zi rfl rfl rfl rfl rfl (by decide) (zi rfl rfl rfl rfl rfl (by decide) (zd rfl rfl rfl rfl rfl (zj rfl rfl) (za rfl rfl (zj rfl rfl) (za rfl rfl (zb rfl) (zd rfl rfl rfl rfl rfl (zb rfl) (zd rfl rfl rfl rfl rfl (zF rfl rfl (decide_eq_false hg10)) (za rfl rfl (zj rfl rfl) (za rfl rfl (zb rfl) (zd rfl rfl rfl rfl rfl (zb rfl) (zd rfl rfl rfl rfl rfl (zK rfl rfl rfl) (za rfl rfl (zj rfl rfl) (za rfl rfl (ze rfl) (zf rfl ?_))))))))))))))))))))))))
                exact PD.sub ((10, dB ((((decide ((97 : Int) ≤ r) && decide (r ≤ (122 : Int))) || (decide ((65 : Int) ≤ r) && decide (r ≤ (90 : Int)))) || decide (r = (95 : Int))) || decide ((128 : Int) ≤ r))) :: [(0, .v (.int .i32 r)), (2, dI 0)]) ⟨sc rfl (Cv.eq (congrArg (fun b => D.v (.bool b)) (by first | (simp [hg10, hg5, hg6, hg7]; done) | (simp_all; done)))), sk rfl, sk rfl, trivial⟩ hQ4
        · skip
          by_cases hg11 : (65 : Int) ≤ r
          · skip
            by_cases hg12 : r ≤ (90 : Int)
            · skip
              refine zc rfl (za rfl rfl (zb rfl) (za rfl rfl (zK rfl rfl (decide_eq_false hg5)) (za rfl rfl (zb rfl) (zi rfl rfl rfl rfl rfl (by decide) (zi rfl rfl rfl rfl rfl (by decide) (za rfl rfl (zj rfl rfl) (za rfl rfl (zb rfl) (zd rfl rfl rfl rfl rfl (zb rfl) (zd rfl rfl rfl rfl rfl (zK rfl rfl (decide_eq_true hg11)) (zd rfl rfl rfl rfl rfl (zb rfl) (zd rfl rfl rfl rfl rfl (zb rfl) (zd rfl rfl rfl rfl rfl (zak rfl rfl (decide_eq_true hg12)) (zd rfl rfl rfl rfl rfl (zl rfl rfl) (za rfl rfl (zj rfl rfl) (za rfl rfl (zb rfl) (zi rfl rfl rfl rfl rfl (by decide) (zi rfl rfl rfl rfl rfl (by decide) (za rfl rfl (zl rfl rfl) (za rfl rfl (zb rfl) (zi rfl rfl rfl rfl rfl (by decide) (zi rfl rfl rfl rfl rfl (by decide) (za rfl rfl (zl rfl rfl) (za rfl rfl (ze rfl) (zf rfl ?_))))))))))))))))))))))))
              exact PD.sub ((10, dB ((((decide ((97 : Int) ≤ r) && decide (r ≤ (122 : Int))) || (decide ((65 : Int) ≤ r) && decide (r ≤ (90 : Int)))) || decide (r = (95 : Int))) || decide ((128 : Int) ≤ r))) :: [(0, .v (.int .i32 r)), (2, dI 0)]) ⟨sc rfl (Cv.eq (congrArg (fun b => D.v (.bool b)) (by first | (simp [hg11, hg12, hg5]; done) | (simp_all; done)))), sk rfl, sk rfl, trivial⟩ hQ4
            · skip
              by_cases hg13 : r = (95 : Int)
              · skip
                refine zc rfl (za rfl rfl (zb rfl) (za rfl rfl (zK rfl rfl (decide_eq_false hg5)) (za rfl rfl (zb rfl) (zi rfl rfl rfl rfl rfl (by decide) (zi rfl rfl rfl rfl rfl (by decide) (za rfl rfl (zj rfl rfl) (za rfl rfl (zb rfl) (zd rfl rfl rfl rfl rfl (zb rfl) (zd rfl rfl rfl rfl rfl (zK rfl rfl (decide_eq_true hg11)) (zd rfl rfl rfl rfl rfl (zb rfl) (zd rfl rfl rfl rfl rfl (zb rfl) (zd rfl rfl rfl rfl rfl (zak rfl rfl (decide_eq_false hg12)) (zd rfl rfl rfl rfl rfl (zl rfl rfl) (za rfl rfl (zj rfl rfl) (za rfl rfl (zb rfl) (zd rfl rfl rfl rfl rfl (zb rfl) (zd rfl rfl rfl rfl rfl (zF rfl rfl (decide_eq_true hg13)) (za rfl rfl (zj rfl rfl) (za rfl rfl (zb rfl) (zi rfl rfl rfl rfl rfl (by decide) (zi rfl rfl rfl rfl rfl (by decide) (za rfl rfl (zl rfl rfl) (za rfl rfl (ze rfl) (zf rfl ?_))))))))))))))))))))))))
                exact PD.sub ((10, dB ((((decide ((97 : Int) ≤ r) && decide (r ≤ (122 : Int))) || (decide ((65 : Int) ≤ r) && decide (r ≤ (90 : Int)))) || decide (r = (95 : Int))) || decide ((128 : Int) ≤ r))) :: [(0, .v (.int .i32 r)), (2, dI 0)]) ⟨sc rfl (Cv.eq (congrArg (fun b => D.v (.bool b)) (by first | (simp [hg11, hg12, hg13, hg5]; done) | (simp_all; done)))), sk rfl, sk rfl, trivial⟩ hQ4
              · skip
                refine zc rfl (za rfl rfl (zb rfl) (za rfl rfl (zK rfl rfl (decide_eq_false hg5)) (za rfl rfl (zb rfl) (zi rfl rfl rfl rfl rfl (by decide) (zi rfl rfl rfl rfl rfl (by decide) (za rfl rfl (zj rfl rfl) (za rfl rfl (zb rfl) (zd rfl rfl rfl rfl rfl (zb rfl) (zd rfl rfl rfl rfl rfl (zK rfl rfl (decide_eq_true hg11)) (zd rfl rfl rfl rfl rfl (zb rfl) (zd rfl rfl rfl rfl rfl (zb rfl) (zd rfl rfl rfl rfl rfl (zak rfl rfl (decide_eq_false hg12)) (zd rfl rfl rfl rfl rfl (zl rfl rfl) (za rfl rfl (zj rfl rfl) (za rfl rfl (zb rfl) (zd rfl rfl rfl rfl rfl (zb rfl) (zd rfl rfl rfl rfl rfl (zF rfl rfl (decide_eq_false hg13)) (za rfl rfl (zj rfl rfl) (za rfl rfl (zb rfl) (zd rfl rfl rfl rfl rfl (zb rfl) (zd rfl rfl rfl rfl rfl (zK rfl rfl rfl) (za rfl rfl (zj rfl rfl) (za rfl rfl (ze rfl) (zf rfl ?_))))))))))))))))))))))))
                exact PD.sub ((10, dB ((((decide ((97 : Int) ≤ r) && decide (r ≤ (122 : Int))) || (decide ((65 : Int) ≤ r) && decide (r ≤ (90 : Int)))) || decide (r = (95 : Int))) || decide ((128 : Int) ≤ r))) :: [(0, .v (.int .i32 r)), (2, dI 0)]) ⟨sc rfl (Cv.eq (congrArg (fun b => D.v (.bool b)) (by first | (simp [hg11, hg12, hg13, hg5]; done) | (simp_all; done)))), sk rfl, sk rfl, trivial⟩ hQ4
          · skip
            by_cases hg14 : r = (95 : Int)
            · skip
              refine zc rfl (za rfl rfl (zb rfl) (za rfl rfl (zK rfl rfl (decide_eq_false hg5)) (za rfl rfl (zb rfl) (zi rfl rfl rfl rfl rfl (by decide) (zi rfl rfl rfl rfl rfl (by decide) (za rfl rfl (zj rfl rfl) (za rfl rfl (zb rfl) (zd rfl rfl rfl rfl rfl (zb rfl) (zd rfl rfl rfl rfl rfl (zK rfl rfl (decide_eq_false hg11)) (zd rfl rfl rfl rfl rfl (zb rfl) (zi rfl rfl rfl rfl rfl (by decide) (zi rfl rfl rfl rfl rfl (by decide) (zd rfl rfl rfl rfl rfl (zj rfl rfl) (za rfl rfl (zj rfl rfl) (za rfl rfl (zb rfl) (zd rfl rfl rfl rfl rfl (zb rfl) (zd rfl rfl rfl rfl rfl (zF rfl rfl (decide_eq_true hg14)) (za rfl rfl (zj rfl rfl) (za rfl rfl (zb rfl) (zi rfl rfl rfl rfl rfl (by decide) (zi rfl rfl rfl rfl rfl (by decide) (za rfl rfl (zl rfl rfl) (za rfl rfl (ze rfl) (zf rfl ?_))))))))))))))))))))))))
              exact PD.sub ((10, dB ((((decide ((97 : Int) ≤ r) && decide (r ≤ (122 : Int))) || (decide ((65 : Int) ≤ r) && decide (r ≤ (90 : Int)))) || decide (r = (95 : Int))) || decide ((128 : Int) ≤ r))) :: [(0, .v (.int .i32 r)), (2, dI 0)]) ⟨sc rfl (Cv.eq (congrArg (fun b => D.v (.bool b)) (by first | (simp [hg11, hg14, hg5]; done) | (simp_all; done)))), sk rfl, sk rfl, trivial⟩ hQ4
            · skip
              refine zc rfl (za rfl rfl (zb rfl) (za rfl rfl (zK rfl rfl (decide_eq_false hg5)) (za rfl rfl (zb rfl) (zi rfl rfl rfl rfl rfl (by decide) (zi rfl rfl rfl rfl rfl (by decide) (za rfl rfl (zj rfl rfl) (za rfl rfl (zb rfl) (zd rfl rfl rfl rfl rfl (zb rfl) (zd rfl rfl rfl rfl rfl (zK rfl rfl (decide_eq_false hg11)) (zd rfl rfl rfl rfl rfl (zb rfl) (zi rfl rfl rfl rfl rfl (by decide) (zi rfl rfl rfl rfl rfl (by decide) (zd rfl rfl rfl rfl rfl (zj rfl rfl) (za rfl rfl (zj rfl rfl) (za rfl rfl (zb rfl) (zd rfl rfl rfl rfl rfl (zb rfl) (zd rfl rfl rfl rfl rfl (zF rfl rfl (decide_eq_false hg14)) (za rfl rfl (zj rfl rfl) (za rfl rfl (zb rfl) (zd rfl rfl rfl rfl rfl (zb rfl) (zd rfl rfl rfl rfl rfl (zK rfl rfl rfl) (za rfl rfl (zj rfl rfl) (za rfl rfl (ze rfl) (zf rfl ?_))))))))))))))))))))))))
              exact PD.sub ((10, dB ((((decide ((97 : Int) ≤ r) && decide (r ≤ (122 : Int))) || (decide ((65 : Int) ≤ r) && decide (r ≤ (90 : Int)))) || decide (r = (95 : Int))) || decide ((128 : Int) ≤ r))) :: [(0, .v (.int .i32 r)), (2, dI 0)]) ⟨sc rfl (Cv.eq (congrArg (fun b => D.v (.bool b)) (by first | (simp [hg11, hg14, hg5]; done) | (simp_all; done)))), sk rfl, sk rfl, trivial⟩ hQ4
      · skip
        refine zg ?_
        refine zy _ _ rfl rfl rfl rfl (fun hc15 => ?_) (fun hc15 => ?_)
        · simp only [Bool.and_eq_true, Bool.or_eq_true, Bool.not_eq_true', Bool.not_eq_false', Bool.and_eq_false_iff, Bool.or_eq_false_iff, decide_eq_true_eq, decide_eq_false_iff_not, Decidable.not_not, ne_eq] at hc15
          refine zh _ _ rfl rfl rfl (zc rfl (za rfl rfl (ze rfl) (zf rfl (zg (zw rfl (zo (zt ?_)))))))
          exact zp Tryd.results20 (.cons (zB (zr rfl) (Cv.eq (congrArg (fun n => D.v (.int .i64 n)) (by unfold zM; (repeat (any_goals split)) <;> omega)))) .nil) rfl HSub.none ⟨rfl, rfl⟩
        · simp only [Bool.and_eq_true, Bool.or_eq_true, Bool.not_eq_true', Bool.not_eq_false', Bool.and_eq_false_iff, Bool.or_eq_false_iff, decide_eq_true_eq, decide_eq_false_iff_not, Decidable.not_not, ne_eq] at hc15
          refine zh _ _ rfl rfl rfl (JD.keep [0, 2] [(0, .v (.int .i32 r)), (2, dI 0)] rfl ?_)
          refine zab 33 ((decide ((48 : Int) ≤ r) && decide (r ≤ (57 : Int)))) [] (fun _ hQ16 => ?_) ?_
          · skip
            by_cases hg17 : (48 : Int) ≤ r
            · skip
              refine zc rfl (za rfl rfl (zb rfl) (za rfl rfl (zK rfl rfl (decide_eq_true hg17)) (za rfl rfl (zb rfl) (zd rfl rfl rfl rfl rfl (zb rfl) (zd rfl rfl rfl rfl rfl (zak rfl rfl rfl) (za rfl rfl (zl rfl rfl) (za rfl rfl (ze rfl) (zf rfl ?_))))))))
              exact PD.sub ((33, dB (decide ((48 : Int) ≤ r) && decide (r ≤ (57 : Int)))) :: [(0, .v (.int .i32 r)), (2, dI 0)]) ⟨sc rfl (Cv.eq (congrArg (fun b => D.v (.bool b)) (by first | (simp [hg17]; done) | (simp_all; done)))), sk rfl, sk rfl, trivial⟩ hQ16
            · skip
              refine zc rfl (za rfl rfl (zb rfl) (za rfl rfl (zK rfl rfl (decide_eq_false hg17)) (za rfl rfl (zb rfl) (zi rfl rfl rfl rfl rfl (by decide) (zi rfl rfl rfl rfl rfl (by decide) (za rfl rfl (zj rfl rfl) (za rfl rfl (ze rfl) (zf rfl ?_))))))))
              exact PD.sub ((33, dB (decide ((48 : Int) ≤ r) && decide (r ≤ (57 : Int)))) :: [(0, .v (.int .i32 r)), (2, dI 0)]) ⟨sc rfl (Cv.eq (congrArg (fun b => D.v (.bool b)) (by first | (simp [hg17]; done) | (simp_all; done)))), sk rfl, sk rfl, trivial⟩ hQ16
          · skip
            refine zg ?_
            refine zy _ _ rfl rfl rfl rfl (fun hc18 => ?_) (fun hc18 => ?_)
            · simp only [Bool.and_eq_true, Bool.or_eq_true, Bool.not_eq_true', Bool.not_eq_false', Bool.and_eq_false_iff, Bool.or_eq_false_iff, decide_eq_true_eq, decide_eq_false_iff_not, Decidable.not_not, ne_eq] at hc18
              refine zh _ _ rfl rfl rfl (zc rfl (za rfl rfl (ze rfl) (zf rfl (zg (zw rfl (zo (zt ?_)))))))
              exact zp Tryd.results20 (.cons (zB (zr rfl) (Cv.eq (congrArg (fun n => D.v (.int .i64 n)) (by unfold zM; (repeat (any_goals split)) <;> omega)))) .nil) rfl HSub.none ⟨rfl, rfl⟩
            · simp only [Bool.and_eq_true, Bool.or_eq_true, Bool.not_eq_true', Bool.not_eq_false', Bool.and_eq_false_iff, Bool.or_eq_false_iff, decide_eq_true_eq, decide_eq_false_iff_not, Decidable.not_not, ne_eq] at hc18
              refine zh _ _ rfl rfl rfl (JD.keep [0, 2] [(0, .v (.int .i32 r)), (2, dI 0)] rfl ?_)
              refine zab 40 (((decide (r = (32 : Int)) || decide (r = (9 : Int))) || decide (r = (10 : Int)))) [] (fun _ hQ19 => ?_) ?_
              · skip
                by_cases hg20 : r = (32 : Int)
                · skip
                  refine zc rfl (za rfl rfl (zb rfl) (za rfl rfl (zF rfl rfl (decide_eq_true hg20)) (za rfl rfl (zb rfl) (zi rfl rfl rfl rfl rfl (by decide) (zi rfl rfl rfl rfl rfl (by decide) (za rfl rfl (zl rfl rfl) (za rfl rfl (zb rfl) (zi rfl rfl rfl rfl rfl (by decide) (zi rfl rfl rfl rfl rfl (by decide) (za rfl rfl (zl rfl rfl) (za rfl rfl (ze rfl) (zf rfl ?_))))))))))))
                  exact PD.sub ((40, dB ((decide (r = (32 : Int)) || decide (r = (9 : Int))) || decide (r = (10 : Int)))) :: [(0, .v (.int .i32 r)), (2, dI 0)]) ⟨sc rfl (Cv.eq (congrArg (fun b => D.v (.bool b)) (by first | (simp [hg20]; done) | (simp_all; done)))), sk rfl, sk rfl, trivial⟩ hQ19
                · skip
                  by_cases hg21 : r = (9 : Int)
                  · skip
                    refine zc rfl (za rfl rfl (zb rfl) (za rfl rfl (zF rfl rfl (decide_eq_false hg20)) (za rfl rfl (zb rfl) (zd rfl rfl rfl rfl rfl (zb rfl) (zd rfl rfl rfl rfl rfl (zF rfl rfl (decide_eq_true hg21)) (za rfl rfl (zj rfl rfl) (za rfl rfl (zb rfl) (zi rfl rfl rfl rfl rfl (by decide) (zi rfl rfl rfl rfl rfl (by decide) (za rfl rfl (zl rfl rfl) (za rfl rfl (ze rfl) (zf rfl ?_))))))))))))
                    exact PD.sub ((40, dB ((decide (r = (32 : Int)) || decide (r = (9 : Int))) || decide (r = (10 : Int)))) :: [(0, .v (.int .i32 r)), (2, dI 0)]) ⟨sc rfl (Cv.eq (congrArg (fun b => D.v (.bool b)) (by first | (simp [hg20, hg21]; done) | (simp_all; done)))), sk rfl, sk rfl, trivial⟩ hQ19
                  · skip
                    refine zc rfl (za rfl rfl (zb rfl) (za rfl rfl (zF rfl rfl (decide_eq_false hg20)) (za rfl rfl (zb rfl) (zd rfl rfl rfl rfl rfl (zb rfl) (zd rfl rfl rfl rfl rfl (zF rfl rfl (decide_eq_false hg21)) (za rfl rfl (zj rfl rfl) (za rfl rfl (zb rfl) (zd rfl rfl rfl rfl rfl (zb rfl) (zd rfl rfl rfl rfl rfl (zF rfl rfl rfl) (za rfl rfl (zj rfl rfl) (za rfl rfl (ze rfl) (zf rfl ?_))))))))))))
                    exact PD.sub ((40, dB ((decide (r = (32 : Int)) || decide (r = (9 : Int))) || decide (r = (10 : Int)))) :: [(0, .v (.int .i32 r)), (2, dI 0)]) ⟨sc rfl (Cv.eq (congrArg (fun b => D.v (.bool b)) (by first | (simp [hg20, hg21]; done) | (simp_all; done)))), sk rfl, sk rfl, trivial⟩ hQ19
              · skip
                refine zg ?_
                refine zy _ _ rfl rfl rfl rfl (fun hc22 => ?_) (fun hc22 => ?_)
                · simp only [Bool.and_eq_true, Bool.or_eq_true, Bool.not_eq_true', Bool.not_eq_false', Bool.and_eq_false_iff, Bool.or_eq_false_iff, decide_eq_true_eq, decide_eq_false_iff_not, Decidable.not_not, ne_eq] at hc22
                  refine zh _ _ rfl rfl rfl (zc rfl (za rfl rfl (ze rfl) (zf rfl (zg (zw rfl (zo (zt ?_)))))))
                  exact zp Tryd.results20 (.cons (zB (zr rfl) (Cv.eq (congrArg (fun n => D.v (.int .i64 n)) (by unfold zM; (repeat (any_goals split)) <;> omega)))) .nil) rfl HSub.none ⟨rfl, rfl⟩
                · simp only [Bool.and_eq_true, Bool.or_eq_true, Bool.not_eq_true', Bool.not_eq_false', Bool.and_eq_false_iff, Bool.or_eq_false_iff, decide_eq_true_eq, decide_eq_false_iff_not, Decidable.not_not, ne_eq] at hc22
                  refine zG rfl (zN (zg (zh _ _ rfl rfl rfl (zc rfl (za rfl rfl (ze rfl) (zf rfl (zg (zw rfl ?_))))))))
                  exact zp Tryd.results20 (.cons (zB (zr rfl) (Cv.eq (congrArg (fun n => D.v (.int .i64 n)) (by unfold zM; (repeat (any_goals split)) <;> omega)))) .nil) rfl HSub.none ⟨rfl, rfl⟩

set_option maxHeartbeats 4000000 in
set_option maxRecDepth 100000 in
theorem refKind_c (r : Int)  :
    CD Tryd.prog 9 [] [.v (.int .i32 r)] (isR (dI (zM r))) := by
  refine zC Tryd.func9 rfl (N := 51) rfl rfl (fun C => ?_)
  refine JD.keep [0] [(0, .v (.int .i32 r))] rfl (zh _ _ rfl rfl rfl (zc rfl (za rfl rfl (ze rfl) (zf rfl (zg (zh _ _ rfl rfl rfl (zL _ rfl rfl (zh _ _ rfl rfl rfl (JD.keep [0, 2] [(0, .v (.int .i32 r)), (2, dI 0)] rfl ?_)))))))))
  refine zab 3 ((decide (r < (0 : Int)) || decide (r = (65533 : Int)))) [] (fun _ hQ1 => ?_) ?_
  · skip
    by_cases hg2 : r < (0 : Int)
    · skip
      refine zc rfl (za rfl rfl (zb rfl) (za rfl rfl (zbd rfl rfl (decide_eq_true hg2)) (za rfl rfl (zb rfl) (zi rfl rfl rfl rfl rfl (by decide) (zi rfl rfl rfl rfl rfl (by decide) (za rfl rfl (zl rfl rfl) (za rfl rfl (ze rfl) (zf rfl ?_))))))))
      exact PD.sub ((3, dB (decide (r < (0 : Int)) || decide (r = (65533 : Int)))) :: [(0, .v (.int .i32 r)), (2, dI 0)]) ⟨sc rfl (Cv.eq (congrArg (fun b => D.v (.bool b)) (by first | (simp [hg2]; done) | (simp_all; done)))), sk rfl, sk rfl, trivial⟩ hQ1
    · skip
      refine zc rfl (za rfl rfl (zb rfl) (za rfl rfl (zbd rfl rfl (decide_eq_false hg2)) (za rfl rfl (zb rfl) (zd rfl rfl rfl rfl rfl (zb rfl) (zd rfl rfl rfl rfl rfl (zF rfl rfl rfl) (za rfl rfl (zj rfl rfl) (za rfl rfl (ze rfl) (zf rfl ?_))))))))
      exact PD.sub ((3, dB (decide (r < (0 : Int)) || decide (r = (65533 : Int)))) :: [(0, .v (.int .i32 r)), (2, dI 0)]) ⟨sc rfl (Cv.eq (congrArg (fun b => D.v (.bool b)) (by first | (simp [hg2]; done) | (simp_all; done)))), sk rfl, sk rfl, trivial⟩ hQ1
  · skip
    refine zg ?_
    refine zy _ _ rfl rfl rfl rfl (fun hc3 => ?_) (fun hc3 => ?_)
    · simp only [Bool.and_eq_true, Bool.or_eq_true, Bool.not_eq_true', Bool.not_eq_false', Bool.and_eq_false_iff, Bool.or_eq_false_iff, decide_eq_true_eq, decide_eq_false_iff_not, Decidable.not_not, ne_eq] at hc3
      refine zh _ _ rfl rfl rfl (zc rfl (za rfl rfl (ze rfl) (zf rfl (zg (zw rfl (zo (zt ?_)))))))
      exact zp Tryd.results9 (.cons (zB (zr rfl) (Cv.eq (congrArg (fun n => D.v (.int .i64 n)) (by unfold zM; (repeat (any_goals split)) <;> omega)))) .nil) rfl HSub.none ⟨rfl, rfl⟩
    · simp only [Bool.and_eq_true, Bool.or_eq_true, Bool.not_eq_true', Bool.not_eq_false', Bool.and_eq_false_iff, Bool.or_eq_false_iff, decide_eq_true_eq, decide_eq_false_iff_not, Decidable.not_not, ne_eq] at hc3
      refine zh _ _ rfl rfl rfl (JD.keep [0, 2] [(0, .v (.int .i32 r)), (2, dI 0)] rfl ?_)
      refine zab 10 (((((decide ((97 : Int) ≤ r) && decide (r ≤ (122 : Int))) || (decide ((65 : Int) ≤ r) && decide (r ≤ (90 : Int)))) || decide (r = (95 : Int))) || decide ((128 : Int) ≤ r))) [] (fun _ hQ4 => ?_) ?_
      · skip
        by_cases hg5 : (97 : Int) ≤ r
        · skip
          by_cases hg6 : r ≤ (122 : Int)
          · skip
            refine zc rfl (za rfl rfl (zb rfl) (za rfl rfl (zK rfl rfl (decide_eq_true hg5)) (za rfl rfl (zb rfl) (zd rfl rfl rfl rfl rfl (zb rfl) (zd rfl rfl rfl rfl rfl (zak rfl rfl (decide_eq_true hg6)) (za rfl rfl (zl rfl rfl) (za rfl rfl (zb rfl) (zi rfl rfl rfl rfl rfl (by decide) (zi rfl rfl rfl rfl rfl (by decide) (zi rfl rfl rfl rfl rfl (by decide) (zi rfl rfl rfl rfl rfl (by decide) (zi rfl rfl rfl rfl rfl (by decide) (zi rfl rfl rfl rfl rfl (by decide) (za rfl rfl (zl rfl rfl) (za rfl rfl (zb rfl) (zi rfl rfl rfl rfl rfl (by decide) (zi rfl rfl rfl rfl rfl (by decide) (za rfl rfl (zl rfl rfl) (za rfl rfl (zb rfl) (zi rfl rfl rfl rfl rfl (by decide) (zi rfl rfl rfl rfl rfl (by decide) (za rfl rfl (zl rfl rfl) (za rfl rfl (ze rfl) (zf rfl ?_))))))))))))))))))))))))
            exact PD.sub ((10, dB ((((decide ((97 : Int) ≤ r) && decide (r ≤ (122 : Int))) || (decide ((65 : Int) ≤ r) && decide (r ≤ (90 : Int)))) || decide (r = (95 : Int))) || decide ((128 : Int) ≤ r))) :: [(0, .v (.int .i32 r)), (2, dI 0)]) ⟨sc rfl (Cv.eq (congrArg (fun b => D.v (.bool b)) (by first | (simp [hg5, hg6]; done) | (simp_all; done)))), sk rfl, sk rfl, trivial⟩ hQ4
          · skip
            by_cases hg7 : (65 : Int) ≤ r
            · skip
              by_cases hg8 : r ≤ (90 : Int)
              · skip
                refine zc rfl (za rfl rfl (zb rfl) (za rfl rfl (zK rfl rfl (decide_eq_true hg5)) (za rfl rfl (zb rfl) (zd rfl rfl rfl rfl rfl (zb rfl) (zd rfl rfl rfl rfl rfl (zak rfl rfl (decide_eq_false hg6)) (za rfl rfl (zl rfl rfl) (za rfl rfl (zb rfl) (zd rfl rfl rfl rfl rfl (zb rfl) (zd rfl rfl rfl rfl rfl (zK rfl rfl (decide_eq_true hg7)) (zd rfl rfl rfl rfl rfl (zb rfl) (zd rfl rfl rfl rfl rfl (zb rfl) (zd rfl rfl rfl rfl rfl (zak rfl rfl (decide_eq_true hg8)) (zd rfl rfl rfl rfl rfl (zl rfl rfl) (za rfl rfl (zj rfl rfl) (za rfl rfl (zb rfl) (zi rfl rfl rfl rfl rfl (by decide) (zi rfl rfl rfl rfl rfl (by decide) (za rfl rfl (zl rfl rfl) (za rfl rfl (zb rfl) (zi rfl rfl rfl rfl rfl (by decide) (zi rfl rfl rfl rfl rfl (by decide) (za rfl rfl (zl rfl rfl) (za rfl rfl (ze rfl) (zf rfl ?_))))))))))))))))))))))))
                exact PD.sub ((10, dB ((((decide ((97 : Int) ≤ r) && decide (r ≤ (122 : Int))) || (decide ((65 : Int) ≤ r) && decide (r ≤ (90 : Int)))) || decide (r = (95 : Int))) || decide ((128 : Int) ≤ r))) :: [(0, .v (.int .i32 r)), (2, dI 0)]) ⟨sc rfl (Cv.eq (congrArg (fun b => D.v (.bool b)) (by first | (simp [hg5, hg6, hg7, hg8]; done) | (simp_all; done)))), sk rfl, sk rfl, trivial⟩ hQ4
              · skip
                by_cases hg9 : r = (95 : Int)
                · skip
                  refine zc rfl (za rfl rfl (zb rfl) (za rfl rfl (zK rfl rfl (decide_eq_true hg5)) (za rfl rfl (zb rfl) (zd rfl rfl rfl rfl rfl (zb rfl) (zd rfl rfl rfl rfl rfl (zak rfl rfl (decide_eq_false hg6)) (za rfl rfl (zl rfl rfl) (za rfl rfl (zb rfl) (zd rfl rfl rfl rfl rfl (zb rfl) (zd rfl rfl rfl rfl rfl (zK rfl rfl (decide_eq_true hg7)) (zd rfl rfl rfl rfl rfl (zb rfl) (zd rfl rfl rfl rfl rfl (zb rfl) (zd rfl rfl rfl rfl rfl (zak rfl rfl (decide_eq_false hg8)) (zd rfl rfl rfl rfl rfl (zl rfl rfl) (za rfl rfl (zj rfl rfl) (za rfl rfl (zb rfl) (zd rfl rfl rfl rfl rfl (zb rfl) (zd rfl rfl rfl rfl rfl (zF rfl rfl (decide_eq_true hg9)) (za rfl rfl (zj rfl rfl) (za rfl rfl (zb rfl) (zi rfl rfl rfl rfl rfl (by decide) (zi rfl rfl rfl rfl rfl (by decide) (za rfl rfl (zl rfl rfl) (za rfl rfl (ze rfl) (zf rfl ?_))))))))))))))))))))))))
                  exact PD.sub ((10, dB ((((decide ((97 : Int) ≤ r) && decide (r ≤ (122 : Int))) || (decide ((65 : Int) ≤ r) && decide (r ≤ (90 : Int)))) || decide (r = (95 : Int))) || decide ((128 : Int) ≤ r))) :: [(0, .v (.int .i32 r)), (2, dI 0)]) ⟨sc rfl (Cv.eq (congrArg (fun b => D.v (.bool b)) (by first | (simp [hg5, hg6, hg7, hg8, hg9]; done) | (simp_all; done)))), sk rfl, sk rfl, trivial⟩ hQ4
                · skip
                  refine zc rfl (za rfl rfl (zb rfl) (za rfl rfl (zK rfl rfl (decide_eq_true hg5)) (za rfl rfl (zb rfl) (zd rfl rfl rfl rfl rfl (zb rfl) (zd rfl rfl rfl rfl rfl (zak rfl rfl (decide_eq_false hg6)) (za rfl rfl (zl rfl rfl) (za rfl rfl (zb rfl) (zd rfl rfl rfl rfl rfl (zb rfl) (zd rfl rfl rfl rfl rfl (zK rfl rfl (decide_eq_true hg7)) (zd rfl rfl rfl rfl rfl (zb rfl) (zd rfl rfl rfl rfl rfl (zb rfl) (zd rfl rfl rfl rfl rfl (zak rfl rfl (decide_eq_false hg8)) (zd rfl rfl rfl rfl rfl (zl rfl rfl) (za rfl rfl (zj rfl rfl) (za rfl rfl (zb rfl) (zd rfl rfl rfl rfl rfl (zb rfl) (zd rfl rfl rfl rfl rfl (zF rfl rfl (decide_eq_false hg9)) (za rfl rfl (zj rfl rfl) (za rfl rfl (zb rfl) (zd rfl rfl rfl rfl rfl (zb rfl) (zd rfl rfl rfl rfl rfl (zK rfl rfl rfl) (za rfl rfl (zj rfl rfl) (za rfl rfl (ze rfl) (zf rfl ?_))))))))))))))))))))))))
                  exact PD.sub ((10, dB ((((decide ((97 : Int) ≤ r) && decide (r ≤ (122 : Int))) || (decide ((65 : Int) ≤ r) && decide (r ≤ (90 : Int)))) || decide (r = (95 : Int))) || decide ((128 : Int) ≤ r))) :: [(0, .v (.int .i32 r)), (2, dI 0)]) ⟨sc rfl (Cv.eq (congrArg (fun b => D.v (.bool b)) (by first | (simp [hg5, hg6, hg7, hg8, hg9]; done) | (simp_all; done)))), sk rfl, sk rfl, trivial⟩ hQ4
            · skip
              by_cases hg10 : r = (95 : Int)
              · skip
                refine zc rfl (za rfl rfl (zb rfl) (za rfl rfl (zK rfl rfl (decide_eq_true hg5)) (za rfl rfl (zb rfl) (zd rfl rfl rfl rfl rfl (zb rfl) (zd rfl rfl rfl rfl rfl (zak rfl rfl (decide_eq_false hg6)) (za rfl rfl (zl rfl rfl) (za rfl rfl (zb rfl) (zd rfl rfl rfl rfl rfl (zb rfl) (zd rfl rfl rfl rfl rfl (zK rfl rfl (decide_eq_false hg7)) (zd rfl rfl rfl rfl rfl (zb rfl) (zi rfl rfl rfl rfl rfl (by decide) (zi rfl rfl rfl rfl rfl (by decide) (zd rfl rfl rfl rfl rfl (zj rfl rfl) (za rfl rfl (zj rfl rfl) (za rfl rfl (zb rfl) (zd rfl rfl rfl rfl rfl (zb rfl) (zd rfl rfl rfl rfl rfl (zF rfl rfl (decide_eq_true hg10)) (za rfl rfl (zj rfl rfl) (za rfl rfl (zb rfl) (zi rfl rfl rfl rfl rfl (by decide) (zi rfl rfl rfl rfl rfl (by decide) (za rfl rfl (zl rfl rfl) (za rfl rfl (ze rfl) (zf rfl ?_))))))))))))))))))))))))
                exact PD.sub ((10, dB ((((decide ((97 : Int) ≤ r) && decide (r ≤ (122 : Int))) || (decide ((65 : Int) ≤ r) && decide (r ≤ (90 : Int)))) || decide (r = (95 : Int))) || decide ((128 : Int) ≤ r))) :: [(0, .v (.int .i32 r)), (2, dI 0)]) ⟨sc rfl (Cv.eq (congrArg (fun b => D.v (.bool b)) (by first | (simp [hg10, hg5, hg6, hg7]; done) | (simp_all; done)))), sk rfl, sk rfl, trivial⟩ hQ4
              · skip
                refine zc rfl (za rfl rfl (zb rfl) (za rfl rfl (zK rfl rfl (decide_eq_true hg5)) (za rfl rfl (zb rfl) (zd rfl rfl rfl rfl rfl (zb rfl) (zd rfl rfl rfl rfl rfl (zak rfl rfl (decide_eq_false hg6)) (za rfl rfl (zl rfl rfl) (za rfl rfl (zb rfl) (zd rfl rfl rfl rfl rfl (zb rfl) (zd rfl rfl rfl rfl rfl (zK rfl rfl (decide_eq_false hg7)) (zd rfl rfl rfl rfl rfl (zb rfl) (zi rfl rfl rfl rfl rfl (by decide) (zi rfl rfl rfl rfl rfl (by decide) (zd rfl rfl rfl rfl rfl (zj rfl rfl) (za rfl rfl (zj rfl rfl) (za rfl rfl (zb rfl) (zd rfl rfl rfl rfl rfl (zb rfl) (zd rfl rfl rfl rfl rfl (zF rfl rfl (decide_eq_false hg10)) (za rfl rfl (zj rfl rfl) (za rfl rfl (zb rfl) (zd rfl rfl rfl rfl rfl (zb rfl) (zd rfl rfl rfl rfl rfl (zK rfl rfl rfl) (za rfl rfl (zj rfl rfl) (za rfl rfl (ze rfl) (zf rfl ?_))))))))))))))))))))))))
                exact PD.sub ((10, dB ((((decide ((97 : Int) ≤ r) && decide (r ≤ (122 : Int))) || (decide ((65 : Int) ≤ r) && decide (r ≤ (90 : Int)))) || decide (r = (95 : Int))) || decide ((128 : Int) ≤ r))) :: [(0, .v (.int .i32 r)), (2, dI 0)]) ⟨sc rfl (Cv.eq (congrArg (fun b => D.v (.bool b)) (by first | (simp [hg10, hg5, hg6, hg7]; done) | (simp_all; done)))), sk rfl, sk rfl, trivial⟩ hQ4
        · skip
          by_cases hg11 : (65 : Int) ≤ r
          · skip
            by_cases hg12 : r ≤ (90 : Int)
            · skip
              refine zc rfl (za rfl rfl (zb rfl) (za rfl rfl (zK rfl rfl (decide_eq_false hg5)) (za rfl rfl (zb rfl) (zi rfl rfl rfl rfl rfl (by decide) (zi rfl rfl rfl rfl rfl (by decide) (za rfl rfl (zj rfl rfl) (za rfl rfl (zb rfl) (zd rfl rfl rfl rfl rfl (zb rfl) (zd rfl rfl rfl rfl rfl (zK rfl rfl (decide_eq_true hg11)) (zd rfl rfl rfl rfl rfl (zb rfl) (zd rfl rfl rfl rfl rfl (zb rfl) (zd rfl rfl rfl rfl rfl (zak rfl rfl (decide_eq_true hg12)) (zd rfl rfl rfl rfl rfl (zl rfl rfl) (za rfl rfl (zj rfl rfl) (za rfl rfl (zb rfl) (zi rfl rfl rfl rfl rfl (by decide) (zi rfl rfl rfl rfl rfl (by decide) (za rfl rfl (zl rfl rfl) (za rfl rfl (zb rfl) (zi rfl rfl rfl rfl rfl (by decide) (zi rfl rfl rfl rfl rfl (by decide) (za rfl rfl (zl rfl rfl) (za rfl rfl (ze rfl) (zf rfl ?_))))))))))))))))))))))))
              exact PD.sub ((10, dB ((((decide ((97 : Int) ≤ r) && decide (r ≤ (122 : Int))) || (decide ((65 : Int) ≤ r) && decide (r ≤ (90 : Int)))) || decide (r = (95 : Int))) || decide ((128 : Int) ≤ r))) :: [(0, .v (.int .i32 r)), (2, dI 0)]) ⟨sc rfl (Cv.eq (congrArg (fun b => D.v (.bool b)) (by first | (simp [hg11, hg12, hg5]; done) | (simp_all; done)))), sk rfl, sk rfl, trivial⟩ hQ4
            · skip
              by_cases hg13 : r = (95 : Int)
              · skip
                refine zc rfl (za rfl rfl (zb rfl) (za rfl rfl (zK rfl rfl (decide_eq_false hg5)) (za rfl rfl (zb rfl) (zi rfl rfl rfl rfl rfl (by decide) (zi rfl rfl rfl rfl rfl (by decide) (za rfl rfl (zj rfl rfl) (za rfl rfl (zb rfl) (zd rfl rfl rfl rfl rfl (zb rfl) (zd rfl rfl rfl rfl rfl (zK rfl rfl (decide_eq_true hg11)) (zd rfl rfl rfl rfl rfl (zb rfl) (zd rfl rfl rfl rfl rfl (zb rfl) (zd rfl rfl rfl rfl rfl (zak rfl rfl (decide_eq_false hg12)) (zd rfl rfl rfl rfl rfl (zl rfl rfl) (za rfl rfl (zj rfl rfl) (za rfl rfl (zb rfl) (zd rfl rfl rfl rfl rfl (zb rfl) (zd rfl rfl rfl rfl rfl (zF rfl rfl (decide_eq_true hg13)) (za rfl rfl (zj rfl rfl) (za rfl rfl (zb rfl) (zi rfl rfl rfl rfl rfl (by decide) (zi rfl rfl rfl rfl rfl (by decide) (za rfl rfl (zl rfl rfl) (za rfl rfl (ze rfl) (zf rfl ?_))))))))))))))))))))))))
                exact PD.sub ((10, dB ((((decide ((97 : Int) ≤ r) && decide (r ≤ (122 : Int))) || (decide ((65 : Int) ≤ r) && decide (r ≤ (90 : Int)))) || decide (r = (95 : Int))) || decide ((128 : Int) ≤ r))) :: [(0, .v (.int .i32 r)), (2, dI 0)]) ⟨sc rfl (Cv.eq (congrArg (fun b => D.v (.bool b)) (by first | (simp [hg11, hg12, hg13, hg5]; done) | (simp_all; done)))), sk rfl, sk rfl, trivial⟩ hQ4
              · skip
                refine zc rfl (za rfl rfl (zb rfl) (za rfl rfl (zK rfl rfl (decide_eq_false hg5)) (za rfl rfl (zb rfl) (zi rfl rfl rfl rfl rfl (by decide) (zi rfl rfl rfl rfl rfl (by decide) (za rfl rfl (zj rfl rfl) (za rfl rfl (zb rfl) (zd rfl rfl rfl rfl rfl (zb rfl) (zd rfl rfl rfl rfl rfl (zK rfl rfl (decide_eq_true hg11)) (zd rfl rfl rfl rfl rfl (zb rfl) (zd rfl rfl rfl rfl rfl (zb rfl) (zd rfl rfl rfl rfl rfl (zak rfl rfl (decide_eq_false hg12)) (zd rfl rfl rfl rfl rfl (zl rfl rfl) (za rfl rfl (zj rfl rfl) (za rfl rfl (zb rfl) (zd rfl rfl rfl rfl rfl (zb rfl) (zd rfl rfl rfl rfl rfl (zF rfl rfl (decide_eq_false hg13)) (za rfl rfl (zj rfl rfl) (za rfl rfl (zb rfl) (zd rfl rfl rfl rfl rfl (zb rfl) (zd rfl rfl rfl rfl rfl (zK rfl rfl rfl) (za rfl rfl (zj rfl rfl) (za rfl rfl (ze rfl) (zf rfl ?_))))))))))))))))))))))))
                exact PD.sub ((10, dB ((((decide ((97 : Int) ≤ r) && decide (r ≤ (122 : Int))) || (decide ((65 : Int) ≤ r) && decide (r ≤ (90 : Int)))) || decide (r = (95 : Int))) || decide ((128 : Int) ≤ r))) :: [(0, .v (.int .i32 r)), (2, dI 0)]) ⟨sc rfl (Cv.eq (congrArg (fun b => D.v (.bool b)) (by first | (simp [hg11, hg12, hg13, hg5]; done) | (simp_all; done)))), sk rfl, sk rfl, trivial⟩ hQ4
          · skip
            by_cases hg14 : r = (95 : Int)
            · skip
              refine zc rfl (za rfl rfl (zb rfl) (za rfl rfl (zK rfl rfl (decide_eq_false hg5)) (za rfl rfl (zb rfl) (zi rfl rfl rfl rfl rfl (by decide) (zi rfl rfl rfl rfl rfl (by decide) (za rfl rfl (zj rfl rfl) (za rfl rfl (zb rfl) (zd rfl rfl rfl rfl rfl (zb rfl) (zd rfl rfl rfl rfl rfl (zK rfl rfl (decide_eq_false hg11)) (zd rfl rfl rfl rfl rfl (zb rfl) (zi rfl rfl rfl rfl rfl (by decide) (zi rfl rfl rfl rfl rfl (by decide) (zd rfl rfl rfl rfl rfl (zj rfl rfl) (za rfl rfl (zj rfl rfl) (za rfl rfl (zb rfl) (zd rfl rfl rfl rfl rfl (zb rfl) (zd rfl rfl rfl rfl rfl (zF rfl rfl (decide_eq_true hg14)) (za rfl rfl (zj rfl rfl) (za rfl rfl (zb rfl) (zi rfl rfl rfl rfl rfl (by decide) (zi rfl rfl rfl rfl rfl (by decide) (za rfl rfl (zl rfl rfl) (za rfl rfl (ze rfl) (zf rfl ?_))))))))))))))))))))))))
              exact PD.sub ((10, dB ((((decide ((97 : Int) ≤ r) && decide (r ≤ (122 : Int))) || (decide ((65 : Int) ≤ r) && decide (r ≤ (90 : Int)))) || decide (r = (95 : Int))) || decide ((128 : Int) ≤ r))) :: [(0, .v (.int .i32 r)), (2, dI 0)]) ⟨sc rfl (Cv.eq (congrArg (fun b => D.v (.bool b)) (by first | (simp [hg11, hg14, hg5]; done) | (simp_all; done)))), sk rfl, sk rfl, trivial⟩ hQ4
            · skip
              refine zc rfl (za rfl rfl (zb rfl) (za rfl rfl (zK rfl rfl (decide_eq_false hg5)) (za rfl rfl (zb rfl) (zi rfl rfl rfl rfl rfl (by decide) (zi rfl rfl rfl rfl rfl (by decide) (za rfl rfl (zj rfl rfl) (za rfl rfl (zb rfl) (zd rfl rfl rfl rfl rfl (zb rfl) (zd rfl rfl rfl rfl rfl (zK rfl rfl (decide_eq_false hg11)) (zd rfl rfl rfl rfl rfl (zb rfl) (zi rfl rfl rfl rfl rfl (by decide) (zi rfl rfl rfl rfl rfl (by decide) (zd rfl rfl rfl rfl rfl (zj rfl rfl) (za rfl rfl (zj rfl rfl) (za rfl rfl (zb rfl) (zd rfl rfl rfl rfl rfl (zb rfl) (zd rfl rfl rfl rfl rfl (zF rfl rfl (decide_eq_false hg14)) (za rfl rfl (zj rfl rfl) (za rfl rfl (zb rfl) (zd rfl rfl rfl rfl rfl (zb rfl) (zd rfl rfl rfl rfl rfl (zK rfl rfl rfl) (za rfl rfl (zj rfl rfl) (za rfl rfl (ze rfl) (zf rfl ?_))))))))))))))))))))))))
              exact PD.sub ((10, dB ((((decide ((97 : Int) ≤ r) && decide (r ≤ (122 : Int))) || (decide ((65 : Int) ≤ r) && decide (r ≤ (90 : Int)))) || decide (r = (95 : Int))) || decide ((128 : Int) ≤ r))) :: [(0, .v (.int .i32 r)), (2, dI 0)]) ⟨sc rfl (Cv.eq (congrArg (fun b => D.v (.bool b)) (by first | (simp [hg11, hg14, hg5]; done) | (simp_all; done)))), sk rfl, sk rfl, trivial⟩ hQ4
      · skip
        refine zg ?_
        refine zy _ _ rfl rfl rfl rfl (fun hc15 => ?_) (fun hc15 => ?_)
        · simp only [Bool.and_eq_true, Bool.or_eq_true, Bool.not_eq_true', Bool.not_eq_false', Bool.and_eq_false_iff, Bool.or_eq_false_iff, decide_eq_true_eq, decide_eq_false_iff_not, Decidable.not_not, ne_eq] at hc15
          refine zh _ _ rfl rfl rfl (zc rfl (za rfl rfl (ze rfl) (zf rfl (zg (zw rfl (zo (zt ?_)))))))
          exact zp Tryd.results9 (.cons (zB (zr rfl) (Cv.eq (congrArg (fun n => D.v (.int .i64 n)) (by unfold zM; (repeat (any_goals split)) <;> omega)))) .nil) rfl HSub.none ⟨rfl, rfl⟩
        · simp only [Bool.and_eq_true, Bool.or_eq_true, Bool.not_eq_true', Bool.not_eq_false', Bool.and_eq_false_iff, Bool.or_eq_false_iff, decide_eq_true_eq, decide_eq_false_iff_not, Decidable.not_not, ne_eq] at hc15
          refine zh _ _ rfl rfl rfl (JD.keep [0, 2] [(0, .v (.int .i32 r)), (2, dI 0)] rfl ?_)
          refine zab 33 ((decide ((48 : Int) ≤ r) && decide (r ≤ (57 : Int)))) [] (fun _ hQ16 => ?_) ?_
          · skip
            by_cases hg17 : (48 : Int) ≤ r
            · skip
              refine zc rfl (za rfl rfl (zb rfl) (za rfl rfl (zK rfl rfl (decide_eq_true hg17)) (za rfl rfl (zb rfl) (zd rfl rfl rfl rfl rfl (zb rfl) (zd rfl rfl rfl rfl rfl (zak rfl rfl rfl) (za rfl rfl (zl rfl rfl) (za rfl rfl (ze rfl) (zf rfl ?_))))))))
              exact PD.sub ((33, dB (decide ((48 : Int) ≤ r) && decide (r ≤ (57 : Int)))) :: [(0, .v (.int .i32 r)), (2, dI 0)]) ⟨sc rfl (Cv.eq (congrArg (fun b => D.v (.bool b)) (by first | (simp [hg17]; done) | (simp_all; done)))), sk rfl, sk rfl, trivial⟩ hQ16
            · skip
              refine zc rfl (za rfl rfl (zb rfl) (za rfl rfl (zK rfl rfl (decide_eq_false hg17)) (za rfl rfl (zb rfl) (zi rfl rfl rfl rfl rfl (by decide) (zi rfl rfl rfl rfl rfl (by decide) (za rfl rfl (zj rfl rfl) (za rfl rfl (ze rfl) (zf rfl ?_))))))))
              exact PD.sub ((33, dB (decide ((48 : Int) ≤ r) && decide (r ≤ (57 : Int)))) :: [(0, .v (.int .i32 r)), (2, dI 0)]) ⟨sc rfl (Cv.eq (congrArg (fun b => D.v (.bool b)) (by first | (simp [hg17]; done) | (simp_all; done)))), sk rfl, sk rfl, trivial⟩ hQ16
          · skip
            refine zg ?_
            refine zy _ _ rfl rfl rfl rfl (fun hc18 => ?_) (fun hc18 => ?_)
            · simp only [Bool.and_eq_true, Bool.or_eq_true, Bool.not_eq_true', Bool.not_eq_false', Bool.and_eq_false_iff, Bool.or_eq_false_iff, decide_eq_true_eq, decide_eq_false_iff_not, Decidable.not_not, ne_eq] at hc18
              refine zh _ _ rfl rfl rfl (zc rfl (za rfl rfl (ze rfl) (zf rfl (zg (zw rfl (zo (zt ?_)))))))
              exact zp Tryd.results9 (.cons (zB (zr rfl) (Cv.eq (congrArg (fun n => D.v (.int .i64 n)) (by unfold zM; (repeat (any_goals split)) <;> omega)))) .nil) rfl HSub.none ⟨rfl, rfl⟩
            · simp only [Bool.and_eq_true, Bool.or_eq_true, Bool.not_eq_true', Bool.not_eq_false', Bool.and_eq_false_iff, Bool.or_eq_false_iff, decide_eq_true_eq, decide_eq_false_iff_not, Decidable.not_not, ne_eq] at hc18
              refine zh _ _ rfl rfl rfl (JD.keep [0, 2] [(0, .v (.int .i32 r)), (2, dI 0)] rfl ?_)
              refine zab 40 (((decide (r = (32 : Int)) || decide (r = (9 : Int))) || decide (r = (10 : Int)))) [] (fun _ hQ19 => ?_) ?_
              · skip
                by_cases hg20 : r = (32 : Int)
                · skip
                  refine zc rfl (za rfl rfl (zb rfl) (za rfl rfl (zF rfl rfl (decide_eq_true hg20)) (za rfl rfl (zb rfl) (zi rfl rfl rfl rfl rfl (by decide) (zi rfl rfl rfl rfl rfl (by decide) (za rfl rfl (zl rfl rfl) (za rfl rfl (zb rfl) (zi rfl rfl rfl rfl rfl (by decide) (zi rfl rfl rfl rfl rfl (by decide) (za rfl rfl (zl rfl rfl) (za rfl rfl (ze rfl) (zf rfl ?_))))))))))))
                  exact PD.sub ((40, dB ((decide (r = (32 : Int)) || decide (r = (9 : Int))) || decide (r = (10 : Int)))) :: [(0, .v (.int .i32 r)), (2, dI 0)]) ⟨sc rfl (Cv.eq (congrArg (fun b => D.v (.bool b)) (by first | (simp [hg20]; done) | (simp_all; done)))), sk rfl, sk rfl, trivial⟩ hQ19
                · skip
                  by_cases hg21 : r = (9 : Int)
                  · skip
                    refine zc rfl (za rfl rfl (zb rfl) (za rfl rfl (zF rfl rfl (decide_eq_false hg20)) (za rfl rfl (zb rfl) (zd rfl rfl rfl rfl rfl (zb rfl) (zd rfl rfl rfl rfl rfl (zF rfl rfl (decide_eq_true hg21)) (za rfl rfl (zj rfl rfl) (za rfl rfl (zb rfl) (zi rfl rfl rfl rfl rfl (by decide) (zi rfl rfl rfl rfl rfl (by decide) (za rfl rfl (zl rfl rfl) (za rfl rfl (ze rfl) (zf rfl ?_))))))))))))
                    exact PD.sub ((40, dB ((decide (r = (32 : Int)) || decide (r = (9 : Int))) || decide (r = (10 : Int)))) :: [(0, .v (.int .i32 r)), (2, dI 0)]) ⟨sc rfl (Cv.eq (congrArg (fun b => D.v (.bool b)) (by first | (simp [hg20, hg21]; done) | (simp_all; done)))), sk rfl, sk rfl, trivial⟩ hQ19
                  · skip
                    refine zc rfl (za rfl rfl (zb rfl) (za rfl rfl (zF rfl rfl (decide_eq_false hg20)) (za rfl rfl (zb rfl) (zd rfl rfl rfl rfl rfl (zb rfl) (zd rfl rfl rfl rfl rfl (zF rfl rfl (decide_eq_false hg21)) (za rfl rfl (zj rfl rfl) (za rfl rfl (zb rfl) (zd rfl rfl rfl rfl rfl (zb rfl) (zd rfl rfl rfl rfl rfl (zF rfl rfl rfl) (za rfl rfl (zj rfl rfl) (za rfl rfl (ze rfl) (zf rfl ?_))))))))))))
                    exact PD.sub ((40, dB ((decide (r = (32 : Int)) || decide (r = (9 : Int))) || decide (r = (10 : Int)))) :: [(0, .v (.int .i32 r)), (2, dI 0)]) ⟨sc rfl (Cv.eq (congrArg (fun b => D.v (.bool b)) (by first | (simp [hg20, hg21]; done) | (simp_all; done)))), sk rfl, sk rfl, trivial⟩ hQ19
              · skip
                refine zg ?_
                refine zy _ _ rfl rfl rfl rfl (fun hc22 => ?_) (fun hc22 => ?_)
                · simp only [Bool.and_eq_true, Bool.or_eq_true, Bool.not_eq_true', Bool.not_eq_false', Bool.and_eq_false_iff, Bool.or_eq_false_iff, decide_eq_true_eq, decide_eq_false_iff_not, Decidable.not_not, ne_eq] at hc22
                  refine zh _ _ rfl rfl rfl (zc rfl (za rfl rfl (ze rfl) (zf rfl (zg (zw rfl (zo (zt ?_)))))))
                  exact zp Tryd.results9 (.cons (zB (zr rfl) (Cv.eq (congrArg (fun n => D.v (.int .i64 n)) (by unfold zM; (repeat (any_goals split)) <;> omega)))) .nil) rfl HSub.none ⟨rfl, rfl⟩
                · simp only [Bool.and_eq_true, Bool.or_eq_true, Bool.not_eq_true', Bool.not_eq_false', Bool.and_eq_false_iff, Bool.or_eq_false_iff, decide_eq_true_eq, decide_eq_false_iff_not, Decidable.not_not, ne_eq] at hc22
                  refine zG rfl (zN (zg (zh _ _ rfl rfl rfl (zc rfl (za rfl rfl (ze rfl) (zf rfl (zg (zw rfl ?_))))))))
                  exact zp Tryd.results9 (.cons (zB (zr rfl) (Cv.eq (congrArg (fun n => D.v (.int .i64 n)) (by unfold zM; (repeat (any_goals split)) <;> omega)))) .nil) rfl HSub.none ⟨rfl, rfl⟩

set_option maxHeartbeats 4000000 in
set_option maxRecDepth 100000 in
theorem Name_c (s : ByteArray)  :
    CD Tryd.prog 34 [] [.s s] (isR (dB (zb9 s))) := by
  refine zC Tryd.func34 rfl (N := 32) rfl rfl (fun C => ?_)
  refine JD.keep [0] [(0, .s s)] rfl ?_
  refine JD.bd 0 rfl (fun bd0 => ?_)
  have sz0 : s.size ≤ 9223372036854775807 := bd0
  refine zh _ _ rfl rfl rfl (zc rfl (za rfl rfl (ze rfl) (zf rfl (zg (zh _ _ rfl rfl rfl (zc rfl (za rfl rfl (ze rfl) (zf rfl (zg (zh _ _ rfl rfl rfl (zh _ _ rfl rfl rfl (zc rfl (za rfl rfl (zb rfl) (zk rfl rfl (zb0 rfl Tryd.runUnderlying9) ?_))))))))))))))
  rintro _ _ ⟨g1, rfl, rfl⟩
  refine zf rfl (zg (zL _ rfl rfl (zaP (fun (g : Nat × Nat) => [(8, dP g1 0), (3, dN g.2)]) (fun (g : Nat × Nat) => [.it g1 s g.1]) (fun (g : Nat × Nat) => (g.1 ≤ s.size) ∧ (g.2 ≤ g.1) ∧ (zbQ 0 (zac s) = zbQ g.2 (zaO s g.1))) (fun (g : Nat × Nat) => s.size - g.1) _ (0, 0) rfl rfl ⟨sk rfl, sk rfl, trivial⟩ HSub.rfl' ⟨Nat.zero_le _, Nat.le_refl _, rfl⟩ ?_)))
  rintro ⟨p, n⟩ ⟨hp, hn, hf⟩
  replace hp : p ≤ s.size := hp
  replace hn : n ≤ p := hn
  replace hf : zbQ 0 (zac s) = zbQ n (zaO s p) := hf
  refine JD.keep [8, 3] [(8, dP g1 0), (3, dN n)] rfl (JD.norm [.it g1 s p] rfl ?_)
  rcases Nat.lt_or_ge p s.size with hlt | hge
  · skip
    have hrune := zaS hlt
    have hrl := zbN s p
    have hdw := zaw s p hlt
    have hdp := zS s p
    refine zh _ _ rfl rfl rfl (zc rfl (zk rfl rfl (zbI (i := 0) rfl rfl hlt) ?_))
    rintro _ _ ⟨rfl, rfl⟩
    refine OpsD.norm [.it g1 s (p + decW s p)] rfl (za rfl rfl (zz rfl rfl) (zf rfl (zg (zh _ _ rfl rfl rfl (za9 _ rfl rfl rfl (zG rfl (zg (zL _ rfl rfl (zh _ _ rfl rfl rfl (zc rfl (za rfl rfl (zz rfl rfl) (za rfl rfl (ze rfl) (zf rfl (zg (zh _ _ rfl rfl rfl (zh _ _ rfl rfl rfl (zc rfl (za rfl rfl (zb rfl) (zk rfl rfl (zu [] _ [] rfl rfl (.cons ArgC.id .nil) zq Tryd.call20 (Kind_c ((decR s p : Nat) : Int)) (.inl rfl)) ?_)))))))))))))))))))
    rintro _ _ ⟨_, ⟨rfl, rfl⟩, rfl⟩
    refine OpsD.norm [.it g1 s (p + decW s p)] rfl (za rfl rfl (ze rfl) (zf rfl (zg (zh _ _ rfl rfl rfl (JD.keep [3, 5, 6, 8, 9, 10, 11, 12, 13] [(3, dN n), (5, .v (.int .i32 ((decR s p : Nat) : Int))), (6, dI (zM ((decR s p : Nat) : Int))), (8, dP g1 0), (9, .tup [dB true, dN p, .v (.int .i32 ((decR s p : Nat) : Int))]), (10, dB true), (11, .v (.int .i32 ((decR s p : Nat) : Int))), (12, .v (.int .i32 ((decR s p : Nat) : Int))), (13, dI (zM ((decR s p : Nat) : Int)))] rfl ?_)))))
    refine zab 23 ((decide (zM ((decR s p : Nat) : Int) ≠ (1 : Int)) && (decide (zM ((decR s p : Nat) : Int) ≠ (2 : Int)) || decide (((n : Nat) : Int) = (0 : Int))))) [.it g1 s (p + decW s p)] (fun _ hQ2 => ?_) ?_
    · skip
      by_cases hg3 : zM ((decR s p : Nat) : Int) ≠ (1 : Int)
      · skip
        by_cases hg4 : zM ((decR s p : Nat) : Int) ≠ (2 : Int)
        · skip
          refine zc rfl (za rfl rfl (zb rfl) (za rfl rfl (zbi rfl rfl (decide_eq_true hg3)) (za rfl rfl (zb rfl) (zd rfl rfl rfl rfl rfl (zb rfl) (zd rfl rfl rfl rfl rfl (zbi rfl rfl (decide_eq_true hg4)) (zd rfl rfl rfl rfl rfl (zb rfl) (zi rfl rfl rfl rfl rfl (by decide) (zi rfl rfl rfl rfl rfl (by decide) (zd rfl rfl rfl rfl rfl (zl rfl rfl) (za rfl rfl (zl rfl rfl) (zf rfl ?_)))))))))))
          exact PD.sub ((23, dB (decide (zM ((decR s p : Nat) : Int) ≠ (1 : Int)) && (decide (zM ((decR s p : Nat) : Int) ≠ (2 : Int)) || decide (((n : Nat) : Int) = (0 : Int))))) :: [(3, dN n), (5, .v (.int .i32 ((decR s p : Nat) : Int))), (6, dI (zM ((decR s p : Nat) : Int))), (8, dP g1 0), (9, .tup [dB true, dN p, .v (.int .i32 ((decR s p : Nat) : Int))]), (10, dB true), (11, .v (.int .i32 ((decR s p : Nat) : Int))), (12, .v (.int .i32 ((decR s p : Nat) : Int))), (13, dI (zM ((decR s p : Nat) : Int)))]) ⟨sc rfl (Cv.eq (congrArg (fun b => D.v (.bool b)) (by first | (simp [hg3, hg4]; done) | (simp_all; done)))), sk rfl, sk rfl, sk rfl, sk rfl, sk rfl, sk rfl, sk rfl, sk rfl, sk rfl, trivial⟩ hQ2
        · skip
          refine zc rfl (za rfl rfl (zb rfl) (za rfl rfl (zbi rfl rfl (decide_eq_true hg3)) (za rfl rfl (zb rfl) (zd rfl rfl rfl rfl rfl (zb rfl) (zd rfl rfl rfl rfl rfl (zbi rfl rfl (decide_eq_false hg4)) (zd rfl rfl rfl rfl rfl (zb rfl) (zd rfl rfl rfl rfl rfl (zb rfl) (zd rfl rfl rfl rfl rfl (zF rfl rfl rfl) (zd rfl rfl rfl rfl rfl (zj rfl rfl) (za rfl rfl (zl rfl rfl) (zf rfl ?_)))))))))))
          exact PD.sub ((23, dB (decide (zM ((decR s p : Nat) : Int) ≠ (1 : Int)) && (decide (zM ((decR s p : Nat) : Int) ≠ (2 : Int)) || decide (((n : Nat) : Int) = (0 : Int))))) :: [(3, dN n), (5, .v (.int .i32 ((decR s p : Nat) : Int))), (6, dI (zM ((decR s p : Nat) : Int))), (8, dP g1 0), (9, .tup [dB true, dN p, .v (.int .i32 ((decR s p : Nat) : Int))]), (10, dB true), (11, .v (.int .i32 ((decR s p : Nat) : Int))), (12, .v (.int .i32 ((decR s p : Nat) : Int))), (13, dI (zM ((decR s p : Nat) : Int)))]) ⟨sc rfl (Cv.eq (congrArg (fun b => D.v (.bool b)) (by first | (simp [hg3, hg4]; done) | (simp_all; done)))), sk rfl, sk rfl, sk rfl, sk rfl, sk rfl, sk rfl, sk rfl, sk rfl, sk rfl, trivial⟩ hQ2
      · skip
        refine zc rfl (za rfl rfl (zb rfl) (za rfl rfl (zbi rfl rfl (decide_eq_false hg3)) (za rfl rfl (zb rfl) (zi rfl rfl rfl rfl rfl (by decide) (zi rfl rfl rfl rfl rfl (by decide) (zi rfl rfl rfl rfl rfl (by decide) (zi rfl rfl rfl rfl rfl (by decide) (zi rfl rfl rfl rfl rfl (by decide) (zi rfl rfl rfl rfl rfl (by decide) (za rfl rfl (zj rfl rfl) (zf rfl ?_)))))))))))
        exact PD.sub ((23, dB (decide (zM ((decR s p : Nat) : Int) ≠ (1 : Int)) && (decide (zM ((decR s p : Nat) : Int) ≠ (2 : Int)) || decide (((n : Nat) : Int) = (0 : Int))))) :: [(3, dN n), (5, .v (.int .i32 ((decR s p : Nat) : Int))), (6, dI (zM ((decR s p : Nat) : Int))), (8, dP g1 0), (9, .tup [dB true, dN p, .v (.int .i32 ((decR s p : Nat) : Int))]), (10, dB true), (11, .v (.int .i32 ((decR s p : Nat) : Int))), (12, .v (.int .i32 ((decR s p : Nat) : Int))), (13, dI (zM ((decR s p : Nat) : Int)))]) ⟨sc rfl (Cv.eq (congrArg (fun b => D.v (.bool b)) (by first | (simp [hg3]; done) | (simp_all; done)))), sk rfl, sk rfl, sk rfl, sk rfl, sk rfl, sk rfl, sk rfl, sk rfl, sk rfl, trivial⟩ hQ2
    · skip
      refine zg ?_
      refine zy _ _ rfl rfl rfl rfl (fun hc5 => ?_) (fun hc5 => ?_)
      · simp only [Bool.and_eq_true, Bool.or_eq_true, Bool.not_eq_true', Bool.not_eq_false', Bool.and_eq_false_iff, Bool.or_eq_false_iff, decide_eq_true_eq, decide_eq_false_iff_not, Decidable.not_not, ne_eq] at hc5
        refine zh _ _ rfl rfl rfl (zc rfl (za rfl rfl (ze rfl) (zf rfl (zg (zw rfl (zt (zo (zaq (zo (zt ?_))))))))))
        exact zp Tryd.results34 (.cons (zB (zr rfl) (Cv.eq (congrArg (fun b => D.v (.bool b)) (by unfold zb9; rw [hf, hrune]; rw [nameR_bad (by omega)])))) .nil) rfl HSub.none ⟨rfl, rfl⟩
      · simp only [Bool.and_eq_true, Bool.or_eq_true, Bool.not_eq_true', Bool.not_eq_false', Bool.and_eq_false_iff, Bool.or_eq_false_iff, decide_eq_true_eq, decide_eq_false_iff_not, Decidable.not_not, ne_eq] at hc5
        refine zG rfl (zg (zc rfl (za rfl rfl (zb rfl) (za rfl rfl (zbe (c := ((n + 1 : Nat) : Int)) rfl rfl (zaE (by omega) (by omega))) (za rfl rfl (ze rfl) (zf rfl (zN ?_)))))))
        exact zaj (p + decW s p, n + 1) ⟨sk rfl, sk rfl, trivial⟩ HSub.rfl' ⟨by have := zaw s p hlt; omega, by omega, by rw [hf, hrune, nameR_next (by omega)]⟩ (by have := zS s p; omega)
  · skip
    have hrune := za7 hge
    refine zh _ _ rfl rfl rfl (zc rfl (za rfl rfl (zbW (i := 0) rfl rfl hge) (za rfl rfl (zz rfl rfl) (zf rfl (zg (zh _ _ rfl rfl rfl (zaM _ rfl rfl rfl (zaL rfl (z6 (zZ (zQ (zg (zh _ _ rfl rfl rfl (JD.keep [3] [(3, dN n)] rfl ?_))))))))))))))
    refine zab 2 ((decide ((1 : Int) ≤ ((n : Nat) : Int)) && decide (((n : Nat) : Int) ≤ (30 : Int)))) [.it g1 s p] (fun _ hQ6 => ?_) ?_
    · skip
      by_cases hg7 : (1 : Int) ≤ ((n : Nat) : Int)
      · skip
        refine zc rfl (za rfl rfl (zb rfl) (za rfl rfl (zK rfl rfl (decide_eq_true hg7)) (za rfl rfl (zb rfl) (zd rfl rfl rfl rfl rfl (zb rfl) (zd rfl rfl rfl rfl rfl (zak rfl rfl rfl) (za rfl rfl (zl rfl rfl) (za rfl rfl (ze rfl) (zf rfl ?_))))))))
        exact PD.sub ((2, dB (decide ((1 : Int) ≤ ((n : Nat) : Int)) && decide (((n : Nat) : Int) ≤ (30 : Int)))) :: [(3, dN n)]) ⟨sc rfl (Cv.eq (congrArg (fun b => D.v (.bool b)) (by first | (simp [hg7]; done) | (simp_all; done)))), sk rfl, trivial⟩ hQ6
      · skip
        refine zc rfl (za rfl rfl (zb rfl) (za rfl rfl (zK rfl rfl (decide_eq_false hg7)) (za rfl rfl (zb rfl) (zi rfl rfl rfl rfl rfl (by decide) (zi rfl rfl rfl rfl rfl (by decide) (za rfl rfl (zj rfl rfl) (za rfl rfl (ze rfl) (zf rfl ?_))))))))
        exact PD.sub ((2, dB (decide ((1 : Int) ≤ ((n : Nat) : Int)) && decide (((n : Nat) : Int) ≤ (30 : Int)))) :: [(3, dN n)]) ⟨sc rfl (Cv.eq (congrArg (fun b => D.v (.bool b)) (by first | (simp [hg7]; done) | (simp_all; done)))), sk rfl, trivial⟩ hQ6
    · skip
      refine zg (zw rfl ?_)
      exact zp Tryd.results34 (.cons (zB (zr rfl) (Cv.eq (congrArg (fun b => D.v (.bool b)) (by unfold zb9; rw [hf, hrune]; simp only [zbQ]; congr 1 <;> exact decide_eq_decide.2 (by omega))))) .nil) rfl HSub.none ⟨rfl, rfl⟩
end Lp
