/- Walks, printed by a program of mine. -/
import Derived.Test.YtoanlikkhjohpaaDoorDP
set_option linter.unusedSimpArgs false
set_option linter.unusedVariables false
namespace Lp
open Go Go.RowKit Go.Proofs

namespace HdYtoanlikkhjohpaaDoorV5
end HdYtoanlikkhjohpaaDoorV5
open HdYtoanlikkhjohpaaDoorV5

set_option maxHeartbeats 4000000 in
set_option maxRecDepth 100000 in
theorem Kind_c (r : Int)  :
    CD Tryd.prog 20 [] [.v (.int .i32 r)] (isR (dI (zE r))) := by
  refine zC Tryd.func20 rfl (N := 51) rfl rfl (fun C => ?_)
  refine JD.keep [0] [(0, .v (.int .i32 r))] rfl (zf _ _ rfl rfl rfl (zb rfl (za rfl rfl (zd rfl) (zg rfl (ze (zf _ _ rfl rfl rfl (zH _ rfl rfl (zf _ _ rfl rfl rfl (JD.keep [0, 2] [(0, .v (.int .i32 r)), (2, dI 0)] rfl ?_)))))))))
  refine zaF 3 ((decide (r < (0 : Int)) || decide (r = (65533 : Int)))) [] (fun _ hQ1 => ?_) ?_
  · skip
    by_cases hg2 : r < (0 : Int)
    · skip
      refine zb rfl (za rfl rfl (zc rfl) (za rfl rfl (zbL rfl rfl (decide_eq_true hg2)) (za rfl rfl (zc rfl) (zj rfl rfl rfl rfl rfl (by decide) (zj rfl rfl rfl rfl rfl (by decide) (za rfl rfl (zt rfl rfl) (za rfl rfl (zd rfl) (zg rfl ?_))))))))
      exact PD.sub ((3, dB (decide (r < (0 : Int)) || decide (r = (65533 : Int)))) :: [(0, .v (.int .i32 r)), (2, dI 0)]) ⟨sc rfl (Cv.eq (congrArg (fun b => D.v (.bool b)) (by first | (simp [hg2]; done) | (simp_all; done)))), sk rfl, sk rfl, trivial⟩ hQ1
    · skip
      refine zb rfl (za rfl rfl (zc rfl) (za rfl rfl (zbL rfl rfl (decide_eq_false hg2)) (za rfl rfl (zc rfl) (zh rfl rfl rfl rfl rfl (zc rfl) (zh rfl rfl rfl rfl rfl (zR rfl rfl rfl) (za rfl rfl (zo rfl rfl) (za rfl rfl (zd rfl) (zg rfl ?_))))))))
      exact PD.sub ((3, dB (decide (r < (0 : Int)) || decide (r = (65533 : Int)))) :: [(0, .v (.int .i32 r)), (2, dI 0)]) ⟨sc rfl (Cv.eq (congrArg (fun b => D.v (.bool b)) (by first | (simp [hg2]; done) | (simp_all; done)))), sk rfl, sk rfl, trivial⟩ hQ1
  · skip
    refine ze ?_
    refine zw _ _ rfl rfl rfl rfl (fun hc3 => ?_) (fun hc3 => ?_)
    · simp only [Bool.and_eq_true, Bool.or_eq_true, Bool.not_eq_true', Bool.not_eq_false', Bool.and_eq_false_iff, Bool.or_eq_false_iff, decide_eq_true_eq, decide_eq_false_iff_not, Decidable.not_not, ne_eq] at hc3
      refine zf _ _ rfl rfl rfl (zb rfl (za rfl rfl (zd rfl) (zg rfl (ze (zx rfl (zn (zu ?_)))))))
      exact zp Tryd.results20 (.cons (zB (zq rfl) (Cv.eq (congrArg (fun n => D.v (.int .i64 n)) (by unfold zE; (repeat (any_goals split)) <;> omega)))) .nil) rfl HSub.none ⟨rfl, rfl⟩
    · simp only [Bool.and_eq_true, Bool.or_eq_true, Bool.not_eq_true', Bool.not_eq_false', Bool.and_eq_false_iff, Bool.or_eq_false_iff, decide_eq_true_eq, decide_eq_false_iff_not, Decidable.not_not, ne_eq] at hc3
      refine zf _ _ rfl rfl rfl (JD.keep [0, 2] [(0, .v (.int .i32 r)), (2, dI 0)] rfl ?_)
      refine zaF 10 (((((decide ((97 : Int) ≤ r) && decide (r ≤ (122 : Int))) || (decide ((65 : Int) ≤ r) && decide (r ≤ (90 : Int)))) || decide (r = (95 : Int))) || decide ((128 : Int) ≤ r))) [] (fun _ hQ4 => ?_) ?_
      · skip
        by_cases hg5 : (97 : Int) ≤ r
        · skip
          by_cases hg6 : r ≤ (122 : Int)
          · skip
            refine zb rfl (za rfl rfl (zc rfl) (za rfl rfl (zag rfl rfl (decide_eq_true hg5)) (za rfl rfl (zc rfl) (zh rfl rfl rfl rfl rfl (zc rfl) (zh rfl rfl rfl rfl rfl (zbm rfl rfl (decide_eq_true hg6)) (za rfl rfl (zt rfl rfl) (za rfl rfl (zc rfl) (zj rfl rfl rfl rfl rfl (by decide) (zj rfl rfl rfl rfl rfl (by decide) (zj rfl rfl rfl rfl rfl (by decide) (zj rfl rfl rfl rfl rfl (by decide) (zj rfl rfl rfl rfl rfl (by decide) (zj rfl rfl rfl rfl rfl (by decide) (za rfl rfl (zt rfl rfl) (za rfl rfl (zc rfl) (zj rfl rfl rfl rfl rfl (by decide) (zj rfl rfl rfl rfl rfl (by decide) (za rfl rfl (zt rfl rfl) (za rfl rfl (zc rfl) (zj rfl rfl rfl rfl rfl (by decide) (zj rfl rfl rfl rfl rfl (by decide) (za rfl rfl (zt rfl rfl) (za rfl rfl (zd rfl) (zg rfl ?_))))))))))))))))))))))))
            exact PD.sub ((10, dB ((((decide ((97 : Int) ≤ r) && decide (r ≤ (122 : Int))) || (decide ((65 : Int) ≤ r) && decide (r ≤ (90 : Int)))) || decide (r = (95 : Int))) || decide ((128 : Int) ≤ r))) :: [(0, .v (.int .i32 r)), (2, dI 0)]) ⟨sc rfl (Cv.eq (congrArg (fun b => D.v (.bool b)) (by first | (simp [hg5, hg6]; done) | (simp_all; done)))), sk rfl, sk rfl, trivial⟩ hQ4
          · skip
            by_cases hg7 : (65 : Int) ≤ r
            · skip
              by_cases hg8 : r ≤ (90 : Int)
              · skip
                refine zb rfl (za rfl rfl (zc rfl) (za rfl rfl (zag rfl rfl (decide_eq_true hg5)) (za rfl rfl (zc rfl) (zh rfl rfl rfl rfl rfl (zc rfl) (zh rfl rfl rfl rfl rfl (zbm rfl rfl (decide_eq_false hg6)) (za rfl rfl (zt rfl rfl) (za rfl rfl (zc rfl) (zh rfl rfl rfl rfl rfl (zc rfl) (zh rfl rfl rfl rfl rfl (zag rfl rfl (decide_eq_true hg7)) (zh rfl rfl rfl rfl rfl (zc rfl) (zh rfl rfl rfl rfl rfl (zc rfl) (zh rfl rfl rfl rfl rfl (zbm rfl rfl (decide_eq_true hg8)) (zh rfl rfl rfl rfl rfl (zt rfl rfl) (za rfl rfl (zo rfl rfl) (za rfl rfl (zc rfl) (zj rfl rfl rfl rfl rfl (by decide) (zj rfl rfl rfl rfl rfl (by decide) (za rfl rfl (zt rfl rfl) (za rfl rfl (zc rfl) (zj rfl rfl rfl rfl rfl (by decide) (zj rfl rfl rfl rfl rfl (by decide) (za rfl rfl (zt rfl rfl) (za rfl rfl (zd rfl) (zg rfl ?_))))))))))))))))))))))))
                exact PD.sub ((10, dB ((((decide ((97 : Int) ≤ r) && decide (r ≤ (122 : Int))) || (decide ((65 : Int) ≤ r) && decide (r ≤ (90 : Int)))) || decide (r = (95 : Int))) || decide ((128 : Int) ≤ r))) :: [(0, .v (.int .i32 r)), (2, dI 0)]) ⟨sc rfl (Cv.eq (congrArg (fun b => D.v (.bool b)) (by first | (simp [hg5, hg6, hg7, hg8]; done) | (simp_all; done)))), sk rfl, sk rfl, trivial⟩ hQ4
              · skip
                by_cases hg9 : r = (95 : Int)
                · skip
                  refine zb rfl (za rfl rfl (zc rfl) (za rfl rfl (zag rfl rfl (decide_eq_true hg5)) (za rfl rfl (zc rfl) (zh rfl rfl rfl rfl rfl (zc rfl) (zh rfl rfl rfl rfl rfl (zbm rfl rfl (decide_eq_false hg6)) (za rfl rfl (zt rfl rfl) (za rfl rfl (zc rfl) (zh rfl rfl rfl rfl rfl (zc rfl) (zh rfl rfl rfl rfl rfl (zag rfl rfl (decide_eq_true hg7)) (zh rfl rfl rfl rfl rfl (zc rfl) (zh rfl rfl rfl rfl rfl (zc rfl) (zh rfl rfl rfl rfl rfl (zbm rfl rfl (decide_eq_false hg8)) (zh rfl rfl rfl rfl rfl (zt rfl rfl) (za rfl rfl (zo rfl rfl) (za rfl rfl (zc rfl) (zh rfl rfl rfl rfl rfl (zc rfl) (zh rfl rfl rfl rfl rfl (zR rfl rfl (decide_eq_true hg9)) (za rfl rfl (zo rfl rfl) (za rfl rfl (zc rfl) (zj rfl rfl rfl rfl rfl (by decide) (zj rfl rfl rfl rfl rfl (by decide) (za rfl rfl (zt rfl rfl) (za rfl rfl (zd rfl) (zg rfl ?_))))))))))))))))))))))))
                  exact PD.sub ((10, dB ((((decide ((97 : Int) ≤ r) && decide (r ≤ (122 : Int))) || (decide ((65 : Int) ≤ r) && decide (r ≤ (90 : Int)))) || decide (r = (95 : Int))) || decide ((128 : Int) ≤ r))) :: [(0, .v (.int .i32 r)), (2, dI 0)]) ⟨sc rfl (Cv.eq (congrArg (fun b => D.v (.bool b)) (by first | (simp [hg5, hg6, hg7, hg8, hg9]; done) | (simp_all; done)))), sk rfl, sk rfl, trivial⟩ hQ4
                · skip
                  refine zb rfl (za rfl rfl (zc rfl) (za rfl rfl (zag rfl rfl (decide_eq_true hg5)) (za rfl rfl (zc rfl) (zh rfl rfl rfl rfl rfl (zc rfl) (zh rfl rfl rfl rfl rfl (zbm rfl rfl (decide_eq_false hg6)) (za rfl rfl (zt rfl rfl) (za rfl rfl (zc rfl) (zh rfl rfl rfl rfl rfl (zc rfl) (zh rfl rfl rfl rfl rfl (zag rfl rfl (decide_eq_true hg7)) (zh rfl rfl rfl rfl rfl (zc rfl) (zh rfl rfl rfl rfl rfl (zc rfl) (zh rfl rfl rfl rfl rfl (zbm rfl rfl (decide_eq_false hg8)) (zh rfl rfl rfl rfl rfl (zt rfl rfl) (za rfl rfl (zo rfl rfl) (za rfl rfl (zc rfl) (zh rfl rfl rfl rfl rfl (zc rfl) (zh rfl rfl rfl rfl rfl (zR rfl rfl (decide_eq_false hg9)) (za rfl rfl (zo rfl rfl) (za rfl rfl (zc rfl) (zh rfl rfl rfl rfl rfl (zc rfl) (zh rfl rfl rfl rfl rfl (zag rfl rfl rfl) (za rfl rfl (zo rfl rfl) (za rfl rfl (zd rfl) (zg rfl ?_))))))))))))))))))))))))
                  exact PD.sub ((10, dB ((((decide ((97 : Int) ≤ r) && decide (r ≤ (122 : Int))) || (decide ((65 : Int) ≤ r) && decide (r ≤ (90 : Int)))) || decide (r = (95 : Int))) || decide ((128 : Int) ≤ r))) :: [(0, .v (.int .i32 r)), (2, dI 0)]) ⟨sc rfl (Cv.eq (congrArg (fun b => D.v (.bool b)) (by first | (simp [hg5, hg6, hg7, hg8, hg9]; done) | (simp_all; done)))), sk rfl, sk rfl, trivial⟩ hQ4
            · skip
              by_cases hg10 : r = (95 : Int)
              · skip
                refine zb rfl (za rfl rfl (zc rfl) (za rfl rfl (zag rfl rfl (decide_eq_true hg5)) (za rfl rfl (zc rfl) (zh rfl rfl rfl rfl rfl (zc rfl) (zh rfl rfl rfl rfl rfl (zbm rfl rfl (decide_eq_false hg6)) (za rfl rfl (zt rfl rfl) (za rfl rfl (zc rfl) (zh rfl rfl rfl rfl rfl (zc rfl) (zh rfl rfl rfl rfl rfl (zag rfl rfl (decide_eq_false hg7)) (zh rfl rfl rfl rfl rfl (zc rfl) (zj rfl rfl rfl rfl rfl (by decide) (zj rfl rfl rfl rfl rfl (by decide) (zh rfl rfl rfl rfl rfl (zo rfl rfl) (za rfl rfl (zo rfl rfl) (za rfl rfl (zc rfl) (zh rfl rfl rfl rfl rfl (zc rfl) (zh rfl rfl rfl rfl rfl (zR rfl rfl (decide_eq_true hg10)) (za rfl rfl (zo rfl rfl) (za rfl rfl (zc rfl) (zj rfl rfl rfl rfl rfl (by decide) (zj rfl rfl rfl rfl rfl (by decide) (za rfl rfl (zt rfl rfl) (za rfl rfl (zd rfl) (zg rfl ?_))))))))))))))))))))))))
                exact PD.sub ((10, dB ((((decide ((97 : Int) ≤ r) && decide (r ≤ (122 : Int))) || (decide ((65 : Int) ≤ r) && decide (r ≤ (90 : Int)))) || decide (r = (95 : Int))) || decide ((128 : Int) ≤ r))) :: [(0, .v (.int .i32 r)), (2, dI 0)]) ⟨sc rfl (Cv.eq (congrArg (fun b => D.v (.bool b)) (by first | (simp [hg10, hg5, hg6, hg7]; done) | (simp_all; done)))), sk rfl, sk rfl, trivial⟩ hQ4
              · skip
                refine zb rfl (za rfl rfl (zc rfl) (za rfl rfl (zag rfl rfl (decide_eq_true hg5)) (za rfl rfl (zc rfl) (zh rfl rfl rfl rfl rfl (zc rfl) (zh rfl rfl rfl rfl rfl (zbm rfl rfl (decide_eq_false hg6)) (za rfl rfl (zt rfl rfl) (za rfl rfl (zc rfl) (zh rfl rfl rfl rfl rfl (zc rfl) (zh rfl rfl rfl rfl rfl (zag rfl rfl (decide_eq_false hg7)) (zh rfl rfl rfl rfl rfl (zc rfl) (zj rfl rfl rfl rfl rfl (by decide) (zj rfl rfl rfl rfl rfl (by decide) (zh rfl rfl rfl rfl rfl (zo rfl rfl) (za rfl rfl (zo rfl rfl) (za rfl rfl (zc rfl) (zh rfl rfl rfl rfl rfl (zc rfl) (zh rfl rfl rfl rfl rfl (zR rfl rfl (decide_eq_false hg10)) (za rfl rfl (zo rfl rfl) (za rfl rfl (zc rfl) (zh rfl rfl rfl rfl rfl (zc rfl) (zh rfl rfl rfl rfl rfl (zag rfl rfl rfl) (za rfl rfl (zo rfl rfl) (za rfl rfl (zd rfl) (zg rfl ?_))))))))))))))))))))))))
                exact PD.sub ((10, dB ((((decide ((97 : Int) ≤ r) && decide (r ≤ (122 : Int))) || (decide ((65 : Int) ≤ r) && decide (r ≤ (90 : Int)))) || decide (r = (95 : Int))) || decide ((128 : Int) ≤ r))) :: [(0, .v (.int .i32 r)), (2, dI 0)]) ⟨sc rfl (Cv.eq (congrArg (fun b => D.v (.bool b)) (by first | (simp [hg10, hg5, hg6, hg7]; done) | (simp_all; done)))), sk rfl, sk rfl, trivial⟩ hQ4
        · skip
          by_cases hg11 : (65 : Int) ≤ r
          · skip
            by_cases hg12 : r ≤ (90 : Int)
            · skip
              refine zb rfl (za rfl rfl (zc rfl) (za rfl rfl (zag rfl rfl (decide_eq_false hg5)) (za rfl rfl (zc rfl) (zj rfl rfl rfl rfl rfl (by decide) (zj rfl rfl rfl rfl rfl (by decide) (za rfl rfl (zo rfl rfl) (za rfl rfl (zc rfl) (zh rfl rfl rfl rfl rfl (zc rfl) (zh rfl rfl rfl rfl rfl (zag rfl rfl (decide_eq_true hg11)) (zh rfl rfl rfl rfl rfl (zc rfl) (zh rfl rfl rfl rfl rfl (zc rfl) (zh rfl rfl rfl rfl rfl (zbm rfl rfl (decide_eq_true hg12)) (zh rfl rfl rfl rfl rfl (zt rfl rfl) (za rfl rfl (zo rfl rfl) (za rfl rfl (zc rfl) (zj rfl rfl rfl rfl rfl (by decide) (zj rfl rfl rfl rfl rfl (by decide) (za rfl rfl (zt rfl rfl) (za rfl rfl (zc rfl) (zj rfl rfl rfl rfl rfl (by decide) (zj rfl rfl rfl rfl rfl (by decide) (za rfl rfl (zt rfl rfl) (za rfl rfl (zd rfl) (zg rfl ?_))))))))))))))))))))))))
              exact PD.sub ((10, dB ((((decide ((97 : Int) ≤ r) && decide (r ≤ (122 : Int))) || (decide ((65 : Int) ≤ r) && decide (r ≤ (90 : Int)))) || decide (r = (95 : Int))) || decide ((128 : Int) ≤ r))) :: [(0, .v (.int .i32 r)), (2, dI 0)]) ⟨sc rfl (Cv.eq (congrArg (fun b => D.v (.bool b)) (by first | (simp [hg11, hg12, hg5]; done) | (simp_all; done)))), sk rfl, sk rfl, trivial⟩ hQ4
            · skip
              by_cases hg13 : r = (95 : Int)
              · skip
                refine zb rfl (za rfl rfl (zc rfl) (za rfl rfl (zag rfl rfl (decide_eq_false hg5)) (za rfl rfl (zc rfl) (zj rfl rfl rfl rfl rfl (by decide) (zj rfl rfl rfl rfl rfl (by decide) (za rfl rfl (zo rfl rfl) (za rfl rfl (zc rfl) (zh rfl rfl rfl rfl rfl (zc rfl) (zh rfl rfl rfl rfl rfl (zag rfl rfl (decide_eq_true hg11)) (zh rfl rfl rfl rfl rfl (zc rfl) (zh rfl rfl rfl rfl rfl (zc rfl) (zh rfl rfl rfl rfl rfl (zbm rfl rfl (decide_eq_false hg12)) (zh rfl rfl rfl rfl rfl (zt rfl rfl) (za rfl rfl (zo rfl rfl) (za rfl rfl (zc rfl) (zh rfl rfl rfl rfl rfl (zc rfl) (zh rfl rfl rfl rfl rfl (zR rfl rfl (decide_eq_true hg13)) (za rfl rfl (zo rfl rfl) (za rfl rfl (zc rfl) (zj rfl rfl rfl rfl rfl (by decide) (zj rfl rfl rfl rfl rfl (by decide) (za rfl rfl (zt rfl rfl) (za rfl rfl (zd rfl) (zg rfl ?_))))))))))))))))))))))))
                exact PD.sub ((10, dB ((((decide ((97 : Int) ≤ r) && decide (r ≤ (122 : Int))) || (decide ((65 : Int) ≤ r) && decide (r ≤ (90 : Int)))) || decide (r = (95 : Int))) || decide ((128 : Int) ≤ r))) :: [(0, .v (.int .i32 r)), (2, dI 0)]) ⟨sc rfl (Cv.eq (congrArg (fun b => D.v (.bool b)) (by first | (simp [hg11, hg12, hg13, hg5]; done) | (simp_all; done)))), sk rfl, sk rfl, trivial⟩ hQ4
              · skip
                refine zb rfl (za rfl rfl (zc rfl) (za rfl rfl (zag rfl rfl (decide_eq_false hg5)) (za rfl rfl (zc rfl) (zj rfl rfl rfl rfl rfl (by decide) (zj rfl rfl rfl rfl rfl (by decide) (za rfl rfl (zo rfl rfl) (za rfl rfl (zc rfl) (zh rfl rfl rfl rfl rfl (zc rfl) (zh rfl rfl rfl rfl rfl (zag rfl rfl (decide_eq_true hg11)) (zh rfl rfl rfl rfl rfl (zc rfl) (zh rfl rfl rfl rfl rfl (zc rfl) (zh rfl rfl rfl rfl rfl (zbm rfl rfl (decide_eq_false hg12)) (zh rfl rfl rfl rfl rfl (zt rfl rfl) (za rfl rfl (zo rfl rfl) (za rfl rfl (zc rfl) (zh rfl rfl rfl rfl rfl (zc rfl) (zh rfl rfl rfl rfl rfl (zR rfl rfl (decide_eq_false hg13)) (za rfl rfl (zo rfl rfl) (za rfl rfl (zc rfl) (zh rfl rfl rfl rfl rfl (zc rfl) (zh rfl rfl rfl rfl rfl (zag rfl rfl rfl) (za rfl rfl (zo rfl rfl) (za rfl rfl (zd rfl) (zg rfl ?_))))))))))))))))))))))))
                exact PD.sub ((10, dB ((((decide ((97 : Int) ≤ r) && decide (r ≤ (122 : Int))) || (decide ((65 : Int) ≤ r) && decide (r ≤ (90 : Int)))) || decide (r = (95 : Int))) || decide ((128 : Int) ≤ r))) :: [(0, .v (.int .i32 r)), (2, dI 0)]) ⟨sc rfl (Cv.eq (congrArg (fun b => D.v (.bool b)) (by first | (simp [hg11, hg12, hg13, hg5]; done) | (simp_all; done)))), sk rfl, sk rfl, trivial⟩ hQ4
          · skip
            by_cases hg14 : r = (95 : Int)
            · skip
              refine zb rfl (za rfl rfl (zc rfl) (za rfl rfl (zag rfl rfl (decide_eq_false hg5)) (za rfl rfl (zc rfl) (zj rfl rfl rfl rfl rfl (by decide) (zj rfl rfl rfl rfl rfl (by decide) (za rfl rfl (zo rfl rfl) (za rfl rfl (zc rfl) (zh rfl rfl rfl rfl rfl (zc rfl) (zh rfl rfl rfl rfl rfl (zag rfl rfl (decide_eq_false hg11)) (zh rfl rfl rfl rfl rfl (zc rfl) (zj rfl rfl rfl rfl rfl (by decide) (zj rfl rfl rfl rfl rfl (by decide) (zh rfl rfl rfl rfl rfl (zo rfl rfl) (za rfl rfl (zo rfl rfl) (za rfl rfl (zc rfl) (zh rfl rfl rfl rfl rfl (zc rfl) (zh rfl rfl rfl rfl rfl (zR rfl rfl (decide_eq_true hg14)) (za rfl rfl (zo rfl rfl) (za rfl rfl (zc rfl) (zj rfl rfl rfl rfl rfl (by decide) (zj rfl rfl rfl rfl rfl (by decide) (za rfl rfl (zt rfl rfl) (za rfl rfl (zd rfl) (zg rfl ?_))))))))))))))))))))))))
              exact PD.sub ((10, dB ((((decide ((97 : Int) ≤ r) && decide (r ≤ (122 : Int))) || (decide ((65 : Int) ≤ r) && decide (r ≤ (90 : Int)))) || decide (r = (95 : Int))) || decide ((128 : Int) ≤ r))) :: [(0, .v (.int .i32 r)), (2, dI 0)]) ⟨sc rfl (Cv.eq (congrArg (fun b => D.v (.bool b)) (by first | (simp [hg11, hg14, hg5]; done) | (simp_all; done)))), sk rfl, sk rfl, trivial⟩ hQ4
            · skip
              refine zb rfl (za rfl rfl (zc rfl) (za rfl rfl (zag rfl rfl (decide_eq_false hg5)) (za rfl rfl (zc rfl) (zj rfl rfl rfl rfl rfl (by decide) (zj rfl rfl rfl rfl rfl (by decide) (za rfl rfl (zo rfl rfl) (za rfl rfl (zc rfl) (zh rfl rfl rfl rfl rfl (zc rfl) (zh rfl rfl rfl rfl rfl (zag rfl rfl (decide_eq_false hg11)) (zh rfl rfl rfl rfl rfl (zc rfl) (zj rfl rfl rfl rfl rfl (by decide) (zj rfl rfl rfl rfl rfl (by decide) (zh rfl rfl rfl rfl rfl (zo rfl rfl) (za rfl rfl (zo rfl rfl) (za rfl rfl (zc rfl) (zh rfl rfl rfl rfl rfl (zc rfl) (zh rfl rfl rfl rfl rfl (zR rfl rfl (decide_eq_false hg14)) (za rfl rfl (zo rfl rfl) (za rfl rfl (zc rfl) (zh rfl rfl rfl rfl rfl (zc rfl) (zh rfl rfl rfl rfl rfl (zag rfl rfl rfl) (za rfl rfl (zo rfl rfl) (za rfl rfl (zd rfl) (zg rfl ?_))))))))))))))))))))))))
              exact PD.sub ((10, dB ((((decide ((97 : Int) ≤ r) && decide (r ≤ (122 : Int))) || (decide ((65 : Int) ≤ r) && decide (r ≤ (90 : Int)))) || decide (r = (95 : Int))) || decide ((128 : Int) ≤ r))) :: [(0, .v (.int .i32 r)), (2, dI 0)]) ⟨sc rfl (Cv.eq (congrArg (fun b => D.v (.bool b)) (by first | (simp [hg11, hg14, hg5]; done) | (simp_all; done)))), sk rfl, sk rfl, trivial⟩ hQ4
      · skip
        refine ze ?_
        refine zw _ _ rfl rfl rfl rfl (fun hc15 => ?_) (fun hc15 => ?_)
        · simp only [Bool.and_eq_true, Bool.or_eq_true, Bool.not_eq_true', Bool.not_eq_false', Bool.and_eq_false_iff, Bool.or_eq_false_iff, decide_eq_true_eq, decide_eq_false_iff_not, Decidable.not_not, ne_eq] at hc15
          refine zf _ _ rfl rfl rfl (zb rfl (za rfl rfl (zd rfl) (zg rfl (ze (zx rfl (zn (zu ?_)))))))
          exact zp Tryd.results20 (.cons (zB (zq rfl) (Cv.eq (congrArg (fun n => D.v (.int .i64 n)) (by unfold zE; (repeat (any_goals split)) <;> omega)))) .nil) rfl HSub.none ⟨rfl, rfl⟩
        · simp only [Bool.and_eq_true, Bool.or_eq_true, Bool.not_eq_true', Bool.not_eq_false', Bool.and_eq_false_iff, Bool.or_eq_false_iff, decide_eq_true_eq, decide_eq_false_iff_not, Decidable.not_not, ne_eq] at hc15
          refine zf _ _ rfl rfl rfl (JD.keep [0, 2] [(0, .v (.int .i32 r)), (2, dI 0)] rfl ?_)
          refine zaF 33 ((decide ((48 : Int) ≤ r) && decide (r ≤ (57 : Int)))) [] (fun _ hQ16 => ?_) ?_
          · skip
            by_cases hg17 : (48 : Int) ≤ r
            · skip
              refine zb rfl (za rfl rfl (zc rfl) (za rfl rfl (zag rfl rfl (decide_eq_true hg17)) (za rfl rfl (zc rfl) (zh rfl rfl rfl rfl rfl (zc rfl) (zh rfl rfl rfl rfl rfl (zbm rfl rfl rfl) (za rfl rfl (zt rfl rfl) (za rfl rfl (zd rfl) (zg rfl ?_))))))))
              exact PD.sub ((33, dB (decide ((48 : Int) ≤ r) && decide (r ≤ (57 : Int)))) :: [(0, .v (.int .i32 r)), (2, dI 0)]) ⟨sc rfl (Cv.eq (congrArg (fun b => D.v (.bool b)) (by first | (simp [hg17]; done) | (simp_all; done)))), sk rfl, sk rfl, trivial⟩ hQ16
            · skip
              refine zb rfl (za rfl rfl (zc rfl) (za rfl rfl (zag rfl rfl (decide_eq_false hg17)) (za rfl rfl (zc rfl) (zj rfl rfl rfl rfl rfl (by decide) (zj rfl rfl rfl rfl rfl (by decide) (za rfl rfl (zo rfl rfl) (za rfl rfl (zd rfl) (zg rfl ?_))))))))
              exact PD.sub ((33, dB (decide ((48 : Int) ≤ r) && decide (r ≤ (57 : Int)))) :: [(0, .v (.int .i32 r)), (2, dI 0)]) ⟨sc rfl (Cv.eq (congrArg (fun b => D.v (.bool b)) (by first | (simp [hg17]; done) | (simp_all; done)))), sk rfl, sk rfl, trivial⟩ hQ16
          · skip
            refine ze ?_
            refine zw _ _ rfl rfl rfl rfl (fun hc18 => ?_) (fun hc18 => ?_)
            · simp only [Bool.and_eq_true, Bool.or_eq_true, Bool.not_eq_true', Bool.not_eq_false', Bool.and_eq_false_iff, Bool.or_eq_false_iff, decide_eq_true_eq, decide_eq_false_iff_not, Decidable.not_not, ne_eq] at hc18
              refine zf _ _ rfl rfl rfl (zb rfl (za rfl rfl (zd rfl) (zg rfl (ze (zx rfl (zn (zu ?_)))))))
              exact zp Tryd.results20 (.cons (zB (zq rfl) (Cv.eq (congrArg (fun n => D.v (.int .i64 n)) (by unfold zE; (repeat (any_goals split)) <;> omega)))) .nil) rfl HSub.none ⟨rfl, rfl⟩
            · simp only [Bool.and_eq_true, Bool.or_eq_true, Bool.not_eq_true', Bool.not_eq_false', Bool.and_eq_false_iff, Bool.or_eq_false_iff, decide_eq_true_eq, decide_eq_false_iff_not, Decidable.not_not, ne_eq] at hc18
              refine zf _ _ rfl rfl rfl (JD.keep [0, 2] [(0, .v (.int .i32 r)), (2, dI 0)] rfl ?_)
              refine zaF 40 (((decide (r = (32 : Int)) || decide (r = (9 : Int))) || decide (r = (10 : Int)))) [] (fun _ hQ19 => ?_) ?_
              · skip
                by_cases hg20 : r = (32 : Int)
                · skip
                  refine zb rfl (za rfl rfl (zc rfl) (za rfl rfl (zR rfl rfl (decide_eq_true hg20)) (za rfl rfl (zc rfl) (zj rfl rfl rfl rfl rfl (by decide) (zj rfl rfl rfl rfl rfl (by decide) (za rfl rfl (zt rfl rfl) (za rfl rfl (zc rfl) (zj rfl rfl rfl rfl rfl (by decide) (zj rfl rfl rfl rfl rfl (by decide) (za rfl rfl (zt rfl rfl) (za rfl rfl (zd rfl) (zg rfl ?_))))))))))))
                  exact PD.sub ((40, dB ((decide (r = (32 : Int)) || decide (r = (9 : Int))) || decide (r = (10 : Int)))) :: [(0, .v (.int .i32 r)), (2, dI 0)]) ⟨sc rfl (Cv.eq (congrArg (fun b => D.v (.bool b)) (by first | (simp [hg20]; done) | (simp_all; done)))), sk rfl, sk rfl, trivial⟩ hQ19
                · skip
                  by_cases hg21 : r = (9 : Int)
                  · skip
                    refine zb rfl (za rfl rfl (zc rfl) (za rfl rfl (zR rfl rfl (decide_eq_false hg20)) (za rfl rfl (zc rfl) (zh rfl rfl rfl rfl rfl (zc rfl) (zh rfl rfl rfl rfl rfl (zR rfl rfl (decide_eq_true hg21)) (za rfl rfl (zo rfl rfl) (za rfl rfl (zc rfl) (zj rfl rfl rfl rfl rfl (by decide) (zj rfl rfl rfl rfl rfl (by decide) (za rfl rfl (zt rfl rfl) (za rfl rfl (zd rfl) (zg rfl ?_))))))))))))
                    exact PD.sub ((40, dB ((decide (r = (32 : Int)) || decide (r = (9 : Int))) || decide (r = (10 : Int)))) :: [(0, .v (.int .i32 r)), (2, dI 0)]) ⟨sc rfl (Cv.eq (congrArg (fun b => D.v (.bool b)) (by first | (simp [hg20, hg21]; done) | (simp_all; done)))), sk rfl, sk rfl, trivial⟩ hQ19
                  · skip
                    refine zb rfl (za rfl rfl (zc rfl) (za rfl rfl (zR rfl rfl (decide_eq_false hg20)) (za rfl rfl (zc rfl) (zh rfl rfl rfl rfl rfl (zc rfl) (zh rfl rfl rfl rfl rfl (zR rfl rfl (decide_eq_false hg21)) (za rfl rfl (zo rfl rfl) (za rfl rfl (zc rfl) (zh rfl rfl rfl rfl rfl (zc rfl) (zh rfl rfl rfl rfl rfl (zR rfl rfl rfl) (za rfl rfl (zo rfl rfl) (za rfl rfl (zd rfl) (zg rfl ?_))))))))))))
                    exact PD.sub ((40, dB ((decide (r = (32 : Int)) || decide (r = (9 : Int))) || decide (r = (10 : Int)))) :: [(0, .v (.int .i32 r)), (2, dI 0)]) ⟨sc rfl (Cv.eq (congrArg (fun b => D.v (.bool b)) (by first | (simp [hg20, hg21]; done) | (simp_all; done)))), sk rfl, sk rfl, trivial⟩ hQ19
              · skip
                refine ze ?_
                refine zw _ _ rfl rfl rfl rfl (fun hc22 => ?_) (fun hc22 => ?_)
                · simp only [Bool.and_eq_true, Bool.or_eq_true, Bool.not_eq_true', Bool.not_eq_false', Bool.and_eq_false_iff, Bool.or_eq_false_iff, decide_eq_true_eq, decide_eq_false_iff_not, Decidable.not_not, ne_eq] at hc22
                  refine zf _ _ rfl rfl rfl (zb rfl (za rfl rfl (zd rfl) (zg rfl (ze (zx rfl (zn (zu ?_)))))))
                  exact zp Tryd.results20 (.cons (zB (zq rfl) (Cv.eq (congrArg (fun n => D.v (.int .i64 n)) (by unfold zE; (repeat (any_goals split)) <;> omega)))) .nil) rfl HSub.none ⟨rfl, rfl⟩
                · simp only [Bool.and_eq_true, Bool.or_eq_true, Bool.not_eq_true', Bool.not_eq_false', Bool.and_eq_false_iff, Bool.or_eq_false_iff, decide_eq_true_eq, decide_eq_false_iff_not, Decidable.not_not, ne_eq] at hc22
                  refine zD rfl (zG (ze (zf _ _ rfl rfl rfl (zb rfl (za rfl rfl (zd rfl) (zg rfl (ze (zx rfl ?_))))))))
                  exact zp Tryd.results20 (.cons (zB (zq rfl) (Cv.eq (congrArg (fun n => D.v (.int .i64 n)) (by unfold zE; (repeat (any_goals split)) <;> omega)))) .nil) rfl HSub.none ⟨rfl, rfl⟩

set_option maxHeartbeats 4000000 in
set_option maxRecDepth 100000 in
theorem Name_c (s : ByteArray)  :
    CD Tryd.prog 34 [] [.s s] (isR (dB (zcc s))) := by
  refine zC Tryd.func34 rfl (N := 32) rfl rfl (fun C => ?_)
  refine JD.keep [0] [(0, .s s)] rfl ?_
  refine JD.bd 0 rfl (fun bd0 => ?_)
  have sz0 : s.size ≤ 9223372036854775807 := bd0
  refine zf _ _ rfl rfl rfl (zb rfl (za rfl rfl (zd rfl) (zg rfl (ze (zf _ _ rfl rfl rfl (zb rfl (za rfl rfl (zd rfl) (zg rfl (ze (zf _ _ rfl rfl rfl (zf _ _ rfl rfl rfl (zb rfl (za rfl rfl (zc rfl) (zi rfl rfl (zcq rfl Tryd.runUnderlying9) ?_))))))))))))))
  rintro _ _ ⟨g1, rfl, rfl⟩
  refine zg rfl (ze (zH _ rfl rfl (zaX (fun (g : Nat × Nat) => [(8, dP g1 0), (3, dN g.2)]) (fun (g : Nat × Nat) => [.it g1 s g.1]) (fun (g : Nat × Nat) => (g.1 ≤ s.size) ∧ (g.2 ≤ g.1) ∧ (zbE 0 (zaj s) = zbE g.2 (zaH s g.1))) (fun (g : Nat × Nat) => s.size - g.1) _ (0, 0) rfl rfl ⟨sk rfl, sk rfl, trivial⟩ HSub.rfl' ⟨Nat.zero_le _, Nat.le_refl _, rfl⟩ ?_)))
  rintro ⟨p, n⟩ ⟨hp, hn, hf⟩
  replace hp : p ≤ s.size := hp
  replace hn : n ≤ p := hn
  replace hf : zbE 0 (zaj s) = zbE n (zaH s p) := hf
  refine JD.keep [8, 3] [(8, dP g1 0), (3, dN n)] rfl (JD.norm [.it g1 s p] rfl ?_)
  rcases Nat.lt_or_ge p s.size with hlt | hge
  · skip
    have hrune := zaO hlt
    have hrl := zca s p
    have hdw := zax s p hlt
    have hdp := zV s p
    refine zf _ _ rfl rfl rfl (zb rfl (zi rfl rfl (zb6 (i := 0) rfl rfl hlt) ?_))
    rintro _ _ ⟨rfl, rfl⟩
    refine OpsD.norm [.it g1 s (p + decW s p)] rfl (za rfl rfl (zA rfl rfl) (zg rfl (ze (zf _ _ rfl rfl rfl (zbt _ rfl rfl rfl (zD rfl (ze (zH _ rfl rfl (zf _ _ rfl rfl rfl (zb rfl (za rfl rfl (zA rfl rfl) (za rfl rfl (zd rfl) (zg rfl (ze (zf _ _ rfl rfl rfl (zf _ _ rfl rfl rfl (zb rfl (za rfl rfl (zc rfl) (zi rfl rfl (zr [] _ [] rfl rfl (.cons ArgC.id .nil) zm Tryd.call20 (Kind_c ((decR s p : Nat) : Int)) (.inl rfl)) ?_)))))))))))))))))))
    rintro _ _ ⟨_, ⟨rfl, rfl⟩, rfl⟩
    refine OpsD.norm [.it g1 s (p + decW s p)] rfl (za rfl rfl (zd rfl) (zg rfl (ze (zf _ _ rfl rfl rfl (JD.keep [3, 5, 6, 8, 9, 10, 11, 12, 13] [(3, dN n), (5, .v (.int .i32 ((decR s p : Nat) : Int))), (6, dI (zE ((decR s p : Nat) : Int))), (8, dP g1 0), (9, .tup [dB true, dN p, .v (.int .i32 ((decR s p : Nat) : Int))]), (10, dB true), (11, .v (.int .i32 ((decR s p : Nat) : Int))), (12, .v (.int .i32 ((decR s p : Nat) : Int))), (13, dI (zE ((decR s p : Nat) : Int)))] rfl ?_)))))
    refine zaF 23 ((decide (zE ((decR s p : Nat) : Int) ≠ (1 : Int)) && (decide (zE ((decR s p : Nat) : Int) ≠ (2 : Int)) || decide (((n : Nat) : Int) = (0 : Int))))) [.it g1 s (p + decW s p)] (fun _ hQ2 => ?_) ?_
    · skip
      by_cases hg3 : zE ((decR s p : Nat) : Int) ≠ (1 : Int)
      · skip
        by_cases hg4 : zE ((decR s p : Nat) : Int) ≠ (2 : Int)
        · skip
          refine zb rfl (za rfl rfl (zc rfl) (za rfl rfl (zcl rfl rfl (decide_eq_true hg3)) (za rfl rfl (zc rfl) (zh rfl rfl rfl rfl rfl (zc rfl) (zh rfl rfl rfl rfl rfl (zcl rfl rfl (decide_eq_true hg4)) (zh rfl rfl rfl rfl rfl (zc rfl) (zj rfl rfl rfl rfl rfl (by decide) (zj rfl rfl rfl rfl rfl (by decide) (zh rfl rfl rfl rfl rfl (zt rfl rfl) (za rfl rfl (zt rfl rfl) (zg rfl ?_)))))))))))
          exact PD.sub ((23, dB (decide (zE ((decR s p : Nat) : Int) ≠ (1 : Int)) && (decide (zE ((decR s p : Nat) : Int) ≠ (2 : Int)) || decide (((n : Nat) : Int) = (0 : Int))))) :: [(3, dN n), (5, .v (.int .i32 ((decR s p : Nat) : Int))), (6, dI (zE ((decR s p : Nat) : Int))), (8, dP g1 0), (9, .tup [dB true, dN p, .v (.int .i32 ((decR s p : Nat) : Int))]), (10, dB true), (11, .v (.int .i32 ((decR s p : Nat) : Int))), (12, .v (.int .i32 ((decR s p : Nat) : Int))), (13, dI (zE ((decR s p : Nat) : Int)))]) ⟨sc rfl (Cv.eq (congrArg (fun b => D.v (.bool b)) (by first | (simp [hg3, hg4]; done) | (simp_all; done)))), sk rfl, sk rfl, sk rfl, sk rfl, sk rfl, sk rfl, sk rfl, sk rfl, sk rfl, trivial⟩ hQ2
        · skip
          refine zb rfl (za rfl rfl (zc rfl) (za rfl rfl (zcl rfl rfl (decide_eq_true hg3)) (za rfl rfl (zc rfl) (zh rfl rfl rfl rfl rfl (zc rfl) (zh rfl rfl rfl rfl rfl (zcl rfl rfl (decide_eq_false hg4)) (zh rfl rfl rfl rfl rfl (zc rfl) (zh rfl rfl rfl rfl rfl (zc rfl) (zh rfl rfl rfl rfl rfl (zR rfl rfl rfl) (zh rfl rfl rfl rfl rfl (zo rfl rfl) (za rfl rfl (zt rfl rfl) (zg rfl ?_)))))))))))
          exact PD.sub ((23, dB (decide (zE ((decR s p : Nat) : Int) ≠ (1 : Int)) && (decide (zE ((decR s p : Nat) : Int) ≠ (2 : Int)) || decide (((n : Nat) : Int) = (0 : Int))))) :: [(3, dN n), (5, .v (.int .i32 ((decR s p : Nat) : Int))), (6, dI (zE ((decR s p : Nat) : Int))), (8, dP g1 0), (9, .tup [dB true, dN p, .v (.int .i32 ((decR s p : Nat) : Int))]), (10, dB true), (11, .v (.int .i32 ((decR s p : Nat) : Int))), (12, .v (.int .i32 ((decR s p : Nat) : Int))), (13, dI (zE ((decR s p : Nat) : Int)))]) ⟨sc rfl (Cv.eq (congrArg (fun b => D.v (.bool b)) (by first | (simp [hg3, hg4]; done) | (simp_all; done)))), sk rfl, sk rfl, sk rfl, sk rfl, sk rfl, sk rfl, sk rfl, sk rfl, sk rfl, trivial⟩ hQ2
      · skip
        refine zb rfl (za rfl rfl (zc rfl) (za rfl rfl (zcl rfl rfl (decide_eq_false hg3)) (za rfl rfl (zc rfl) (zj rfl rfl rfl rfl rfl (by decide) (zj rfl rfl rfl rfl rfl (by decide) (zj rfl rfl rfl rfl rfl (by decide) (zj rfl rfl rfl rfl rfl (by decide) (zj rfl rfl rfl rfl rfl (by decide) (zj rfl rfl rfl rfl rfl (by decide) (za rfl rfl (zo rfl rfl) (zg rfl ?_)))))))))))
        exact PD.sub ((23, dB (decide (zE ((decR s p : Nat) : Int) ≠ (1 : Int)) && (decide (zE ((decR s p : Nat) : Int) ≠ (2 : Int)) || decide (((n : Nat) : Int) = (0 : Int))))) :: [(3, dN n), (5, .v (.int .i32 ((decR s p : Nat) : Int))), (6, dI (zE ((decR s p : Nat) : Int))), (8, dP g1 0), (9, .tup [dB true, dN p, .v (.int .i32 ((decR s p : Nat) : Int))]), (10, dB true), (11, .v (.int .i32 ((decR s p : Nat) : Int))), (12, .v (.int .i32 ((decR s p : Nat) : Int))), (13, dI (zE ((decR s p : Nat) : Int)))]) ⟨sc rfl (Cv.eq (congrArg (fun b => D.v (.bool b)) (by first | (simp [hg3]; done) | (simp_all; done)))), sk rfl, sk rfl, sk rfl, sk rfl, sk rfl, sk rfl, sk rfl, sk rfl, sk rfl, trivial⟩ hQ2
    · skip
      refine ze ?_
      refine zw _ _ rfl rfl rfl rfl (fun hc5 => ?_) (fun hc5 => ?_)
      · simp only [Bool.and_eq_true, Bool.or_eq_true, Bool.not_eq_true', Bool.not_eq_false', Bool.and_eq_false_iff, Bool.or_eq_false_iff, decide_eq_true_eq, decide_eq_false_iff_not, Decidable.not_not, ne_eq] at hc5
        refine zf _ _ rfl rfl rfl (zb rfl (za rfl rfl (zd rfl) (zg rfl (ze (zx rfl (zu (zn (zaz (zn (zu ?_))))))))))
        exact zp Tryd.results34 (.cons (zB (zq rfl) (Cv.eq (congrArg (fun b => D.v (.bool b)) (by unfold zcc; rw [hf, hrune]; rw [nameR_bad (by omega)])))) .nil) rfl HSub.none ⟨rfl, rfl⟩
      · simp only [Bool.and_eq_true, Bool.or_eq_true, Bool.not_eq_true', Bool.not_eq_false', Bool.and_eq_false_iff, Bool.or_eq_false_iff, decide_eq_true_eq, decide_eq_false_iff_not, Decidable.not_not, ne_eq] at hc5
        refine zD rfl (ze (zb rfl (za rfl rfl (zc rfl) (za rfl rfl (zbd (c := ((n + 1 : Nat) : Int)) rfl rfl (zas (by omega) (by omega))) (za rfl rfl (zd rfl) (zg rfl (zG ?_)))))))
        exact zai (p + decW s p, n + 1) ⟨sk rfl, sk rfl, trivial⟩ HSub.rfl' ⟨by have := zax s p hlt; omega, by omega, by rw [hf, hrune, nameR_next (by omega)]⟩ (by have := zV s p; omega)
  · skip
    have hrune := zba hge
    refine zf _ _ rfl rfl rfl (zb rfl (za rfl rfl (zck (i := 0) rfl rfl hge) (za rfl rfl (zA rfl rfl) (zg rfl (ze (zf _ _ rfl rfl rfl (za1 _ rfl rfl rfl (zaQ rfl (zaa (z7 (zO (ze (zf _ _ rfl rfl rfl (JD.keep [3] [(3, dN n)] rfl ?_))))))))))))))
    refine zaF 2 ((decide ((1 : Int) ≤ ((n : Nat) : Int)) && decide (((n : Nat) : Int) ≤ (30 : Int)))) [.it g1 s p] (fun _ hQ6 => ?_) ?_
    · skip
      by_cases hg7 : (1 : Int) ≤ ((n : Nat) : Int)
      · skip
        refine zb rfl (za rfl rfl (zc rfl) (za rfl rfl (zag rfl rfl (decide_eq_true hg7)) (za rfl rfl (zc rfl) (zh rfl rfl rfl rfl rfl (zc rfl) (zh rfl rfl rfl rfl rfl (zbm rfl rfl rfl) (za rfl rfl (zt rfl rfl) (za rfl rfl (zd rfl) (zg rfl ?_))))))))
        exact PD.sub ((2, dB (decide ((1 : Int) ≤ ((n : Nat) : Int)) && decide (((n : Nat) : Int) ≤ (30 : Int)))) :: [(3, dN n)]) ⟨sc rfl (Cv.eq (congrArg (fun b => D.v (.bool b)) (by first | (simp [hg7]; done) | (simp_all; done)))), sk rfl, trivial⟩ hQ6
      · skip
        refine zb rfl (za rfl rfl (zc rfl) (za rfl rfl (zag rfl rfl (decide_eq_false hg7)) (za rfl rfl (zc rfl) (zj rfl rfl rfl rfl rfl (by decide) (zj rfl rfl rfl rfl rfl (by decide) (za rfl rfl (zo rfl rfl) (za rfl rfl (zd rfl) (zg rfl ?_))))))))
        exact PD.sub ((2, dB (decide ((1 : Int) ≤ ((n : Nat) : Int)) && decide (((n : Nat) : Int) ≤ (30 : Int)))) :: [(3, dN n)]) ⟨sc rfl (Cv.eq (congrArg (fun b => D.v (.bool b)) (by first | (simp [hg7]; done) | (simp_all; done)))), sk rfl, trivial⟩ hQ6
    · skip
      refine ze (zx rfl ?_)
      exact zp Tryd.results34 (.cons (zB (zq rfl) (Cv.eq (congrArg (fun b => D.v (.bool b)) (by unfold zcc; rw [hf, hrune]; simp only [zbE]; congr 1 <;> exact decide_eq_decide.2 (by omega))))) .nil) rfl HSub.none ⟨rfl, rfl⟩
end Lp
/- Walks, printed by a program of mine. -/
set_option linter.unusedSimpArgs false
set_option linter.unusedVariables false
namespace Lp
open Go Go.RowKit Go.Proofs

namespace HdYtoanlikkhjohpaaDoorV4
theorem eqp_49_eql (x y : Operand) (a : Addr) (w : World) : (do eqGuard .eql 49 x y (.pointer (some a)) (.pointer none); binOp .eql 49 (.pointer (some a)) (.pointer none) : Sem Value).run Tryd.prog w = .ok (.bool false) w := by kernel_rfl
theorem eqs_49_neq (d : Nat) (a : Addr) (w : World) : (Op.equalIn (d + 1) 49 (.pointer (some a)) (.pointer (some a))).run Tryd.prog w = .ok true w := by
  rw [Op.equalIn]
  simp only [Sem.run_bind, run_underlying (show Tryd.prog.underlying 49 = some (.pointer 51) by kernel_rfl), Result.andThen_ok, Tryd.sizeOf51]
  simp [sameAddr]
theorem eqt_49_neq (a : Addr) (w : World) : (Op.equal 49 (.pointer (some a)) (.pointer (some a))).run Tryd.prog w = .ok true w := eqs_49_neq 9999 a w
theorem eqq_49_neq (x y : Operand) (a : Addr) (w : World) : (do eqGuard .neq 49 x y (.pointer (some a)) (.pointer (some a)); binOp .neq 49 (.pointer (some a)) (.pointer (some a)) : Sem Value).run Tryd.prog w = .ok (.bool false) w := by simp [eqGuard, binOp, eqt_49_neq]
theorem fa_51_0 (b o : Nat) : ∀ w, (Instr.fieldAt 51 (.pointer (some ⟨b, o, none⟩)) 0).run Tryd.prog w = .ok (.pointer (some ⟨b, o + 0, none⟩)) w := fun _ => by kernel_rfl
theorem zaA (b o : Nat) : ∀ w, (Instr.fieldAt 51 (.pointer (some ⟨b, o, none⟩)) 1).run Tryd.prog w = .ok (.pointer (some ⟨b, o + 1, none⟩)) w := fun _ => by kernel_rfl
theorem zbM : ∃ i, Tryd.prog.info? 5 = some i ∧ i.zero = some (.int .u8 0) ∧ i.size = 1 ∧ i.bytes = 1 := zcC (by kernel_rfl)
theorem zbh : Tryd.prog.underlying 39 = some (.slice 5) := by kernel_rfl
end HdYtoanlikkhjohpaaDoorV4
open HdYtoanlikkhjohpaaDoorV4

theorem cv_up {w : World} {g : Nat} {c : Array Value} (h : w.heap[g]? = some (.cells c 51 (0, 0))) (hc : c.size = 2) : (convert 49 72 (.pointer (some ⟨g, 0, none⟩))).run Tryd.prog w = .ok (.pointer (some ⟨g, 0, none⟩)) w := by
  simp [convert, run_underlying (show Tryd.prog.underlying 49 = some _ by kernel_rfl), run_underlying (show Tryd.prog.underlying 72 = some _ by kernel_rfl), Conv.unsafePointer, Conv.seenAt, viewAt, cellsIn, run_shape, h, hc, World.shape?, Tryd.sizeOf51]
theorem cv_down {w : World} {g : Nat} {c : Array Value} (h : w.heap[g]? = some (.cells c 51 (0, 0))) (hc : c.size = 2) : (convert 72 49 (.pointer (some ⟨g, 0, none⟩))).run Tryd.prog w = .ok (.pointer (some ⟨g, 0, none⟩)) w := by
  have e : liesAt Tryd.prog Tryd.prog.depth 51 (2 / Tryd.prog.cellsOf 51) 0 51 1 = true := by kernel_rfl
  simp [convert, run_underlying (show Tryd.prog.underlying 49 = some _ by kernel_rfl), run_underlying (show Tryd.prog.underlying 72 = some _ by kernel_rfl), Conv.unsafePointer, Conv.seenAt, viewAt, cellsIn, run_shape, h, hc, World.shape?, Tryd.sizeOf51, variablesAt, e]
theorem p_upto {ty : TypeId} {K : Kd} {H : List Hp} {t1 t2 : TypeId} {x : Operand} {g i : Nat} {X : D} (ht : (t1 = 49 ∧ t2 = 72) ∨ (t1 = 72 ∧ t2 = 49)) (hx : opD K x = some (dP g 0)) (hm : nth H i = some (.bx g 51 X)) (hX : Nat.beq X.cells.length 2 = true) : Pu Tryd.prog (.convert t1 t2 x) ty K H (dP g 0) :=
  ⟨fun ρ w F hk _ hH => by
    obtain ⟨u, h1, h2, h3⟩ := hH _ (zQ hm)
    have hl := zaZ (D.rep_cells h1 h2)
    have hc : u.cells.size = 2 := by have := Nat.eq_of_beq_eq_true hX; rw [← hl] at this; simpa [vcs] using this
    have e : ev ρ x = _ := hk.op hx
    refine EOp.of_run (v := .pointer (some ⟨g, 0, none⟩)) (w' := w) ?_ ⟨rfl, rfl⟩
    rcases ht with ⟨rfl, rfl⟩ | ⟨rfl, rfl⟩
    · have := zbC (cv_up h3 hc); simpa [execOp, zaf, e] using this
    · have := zbC (cv_down h3 hc); simpa [execOp, zaf, e] using this⟩
theorem p_noEscape {ty : TypeId} {K : Kd} {H : List Hp} {x : Operand} {ats : Array TypeId} {v : Value} (hx : opD K x = some (.v v)) : Pu Tryd.prog (.call { callee := .value (.func 49), args := #[x], argTypes := ats }) ty K H (.v v) :=
  ⟨fun ρ w F hk _ _ => e_ext (vs := [v]) (zy ρ [x]) (by rw [show (#[x] : Array Operand).toList = [x] from rfl, zb2 ρ [x] [x] (fun _ h => h)]; have e : ev ρ x = v := hk.op hx; simp [e]) (fun w => by
    rw [run_callFunc_extern Tryd.func49 (by kernel_rfl) (by kernel_rfl) (by kernel_rfl) (e := Extern.AbiNoEscape.same) (by kernel_rfl)]; rfl) ⟨rfl, rfl⟩⟩

set_option maxHeartbeats 4000000 in
set_option maxRecDepth 100000 in
theorem copyCheck_c (g : Nat) (p : Value) (x : D) (hp : p = .pointer none ∨ p = .pointer (some ⟨g, 0, none⟩)) :
    CD Tryd.prog 39 [.bx g 51 (.agg [.v p, x])] [dP g 0] (fun r H' => r = .tup [] ∧ H' = [.bx g 51 (.agg [dP g 0, x])]) := by
  refine zC Tryd.func39 rfl (N := 20) rfl rfl (fun C => ?_)
  refine JD.keep [0] [(0, dP g 0)] rfl ?_
  rcases hp with rfl | rfl
  · skip
    refine zf _ _ rfl rfl rfl (zb rfl (za rfl rfl (zc rfl) (za rfl rfl (zU rfl) (za rfl rfl (zz rfl fa_51_0 rfl) (za rfl rfl (zY rfl (i := 0) rfl Tryd.isAgg49 rfl) (za rfl rfl (zcB (r := .bool true) rfl rfl (fun _ => by kernel_rfl)) (zg rfl (ze (zbt _ rfl rfl rfl (zb rfl (za rfl rfl (zc rfl) (za rfl rfl (zc rfl) (za rfl rfl (p_upto (i := 0) (by first | exact .inl ⟨rfl, rfl⟩ | exact .inr ⟨rfl, rfl⟩) rfl rfl rfl) (za rfl rfl (p_noEscape rfl) (za rfl rfl (p_upto (i := 0) (by first | exact .inl ⟨rfl, rfl⟩ | exact .inr ⟨rfl, rfl⟩) rfl rfl rfl) (za rfl rfl (zU rfl) (za rfl rfl (zz rfl fa_51_0 rfl) (zi rfl rfl (zI (i := 0) (X' := .agg [dP g 0, x]) rfl rfl rfl (CellD.v rfl) Tryd.sizeOf49 rfl rfl rfl) ?_))))))))))))))))))
    rintro _ _ ⟨rfl, rfl⟩
    refine OpsD.norm [.bx g 51 (.agg [dP g 0, x])] rfl (zg rfl ?_)
    exact pd_end Tryd.results39 .nil rfl ⟨rfl, rfl⟩
  · skip
    refine zf _ _ rfl rfl rfl (zb rfl (za rfl rfl (zc rfl) (za rfl rfl (zU rfl) (za rfl rfl (zz rfl fa_51_0 rfl) (za rfl rfl (zY rfl (i := 0) rfl Tryd.isAgg49 rfl) (za rfl rfl (zcB (r := .bool false) rfl rfl (eqp_49_eql _ _ _)) (zg rfl (ze (za1 _ rfl rfl rfl (zf _ _ rfl rfl rfl (zb rfl (za rfl rfl (zc rfl) (za rfl rfl (zU rfl) (za rfl rfl (zz rfl fa_51_0 rfl) (za rfl rfl (zY rfl (i := 0) rfl Tryd.isAgg49 rfl) (za rfl rfl (zc rfl) (za rfl rfl (zcB (r := .bool false) rfl rfl (eqq_49_neq _ _ _)) (zg rfl (ze (JD.keep [19] [(19, dB false)] rfl (za1 _ rfl rfl rfl (zD rfl ?_))))))))))))))))))))))
    exact pd_end Tryd.results39 .nil rfl ⟨rfl, rfl⟩

set_option maxHeartbeats 4000000 in
set_option maxRecDepth 100000 in
theorem zbg (g : Nat) (p v : Value) (bs : List UInt8) (c : UInt8) (hp : p = .pointer none ∨ p = .pointer (some ⟨g, 0, none⟩)) (hl : bs.length ≤ 1000000000000) :
    CD Tryd.prog 26 [.bx g 51 (.agg [.v p, .ov v]), .sl v 1 5 (bs.map dU8)] [dP g 0, .v (.int .u8 ((c.toNat : Nat) : Int))] (fun r H' => ∃ v', r = .v .nilIface ∧ H' = [.bx g 51 (.agg [dP g 0, .ov v']), .sl v' 1 5 ((bs ++ [c]).map dU8)]) := by
  refine zC Tryd.func26 rfl (N := 17) rfl rfl (fun C => ?_)
  refine JD.keep [0, 1] [(0, dP g 0), (1, .v (.int .u8 ((c.toNat : Nat) : Int)))] rfl (zf _ _ rfl rfl rfl (zb rfl (za rfl rfl (zd rfl) (zg rfl (ze (zf _ _ rfl rfl rfl (zb rfl (za rfl rfl (zc rfl) (zi rfl rfl (zr [.bx g 51 (.agg [.v p, .ov v])] [.sl v 1 5 (bs.map dU8)] [] rfl rfl (.cons ArgC.id .nil) zm Tryd.call39 (copyCheck_c g p (.ov v) hp) (.inl rfl)) ?_)))))))))
  rintro _ _ ⟨_, ⟨rfl, rfl⟩, rfl⟩
  refine OpsD.norm [.bx g 51 (.agg [dP g 0, .ov v]), .sl v 1 5 (bs.map dU8)] rfl (zg rfl (ze (zf _ _ rfl rfl rfl (zb rfl (za rfl rfl (zc rfl) (za rfl rfl (zc rfl) (za rfl rfl (zU rfl) (za rfl rfl (zz rfl zaA rfl) (za rfl rfl (zY rfl (i := 0) rfl Tryd.isAgg39 rfl) (za rfl rfl (zc rfl) (zi rfl rfl (zP [.tmp 12] rfl rfl (.cons (CellD.v rfl) .nil) rfl Tryd.runUnderlying39 Tryd.sizeOf5 Tryd.zeroValue5 rfl rfl rfl rfl) ?_)))))))))))
  rintro _ _ ⟨g1, rfl, rfl⟩
  refine zi rfl rfl (zad (f := dU8) (l := bs) (l' := [c]) (i := 2) rfl rfl rfl (SrcD.own (j := 0) rfl rfl) zbh zbM rfl rfl (by unfold maxLen; (try simp only [la, lc, ln, lm, lt', ld, ls, lr]); omega) (by (try simp only [la, lc, ln, lm, lt', ld, ls, lr]); omega)) ?_
  rintro _ _ ⟨v2, rfl, rfl⟩
  refine OpsD.norm [.sl (vS g1 1 1) 1 5 ([.v (.int .u8 ((c.toNat : Nat) : Int))]), .bx g 51 (.agg [dP g 0, .ov v]), .sl v2 1 5 ((bs ++ [c]).map dU8)] rfl (za rfl rfl (zU rfl) (za rfl rfl (zz rfl zaA rfl) (zi rfl rfl (zI (i := 1) (X' := .agg [dP g 0, .ov v2]) rfl rfl rfl (CellD.o) Tryd.sizeOf39 rfl rfl rfl) ?_)))
  rintro _ _ ⟨rfl, rfl⟩
  refine OpsD.norm [.sl (vS g1 1 1) 1 5 ([.v (.int .u8 ((c.toNat : Nat) : Int))]), .bx g 51 (.agg [dP g 0, .ov v2]), .sl v2 1 5 ((bs ++ [c]).map dU8)] rfl (zg rfl (ze (JD.keep [4] [(4, .v .nilIface)] rfl (zf _ _ rfl rfl rfl (zb rfl (za rfl rfl (zd rfl) (zg rfl (ze (zx rfl (PD.subH (HSub.perm (zl (i := 2) rfl)) (PD.norm [.sl v2 1 5 ((bs ++ [c]).map dU8), .sl (vS g1 1 1) 1 5 ([.v (.int .u8 ((c.toNat : Nat) : Int))]), .bx g 51 (.agg [dP g 0, .ov v2])] rfl (PD.subH (HSub.perm (zl (i := 2) rfl)) (PD.norm [.bx g 51 (.agg [dP g 0, .ov v2]), .sl v2 1 5 ((bs ++ [c]).map dU8), .sl (vS g1 1 1) 1 5 ([.v (.int .u8 ((c.toNat : Nat) : Int))])] rfl ?_)))))))))))))
  exact zp Tryd.results26 (.cons (zq rfl) .nil) rfl (HSub.fst 2 rfl) ⟨v2, rfl, rfl⟩

set_option maxHeartbeats 4000000 in
set_option maxRecDepth 100000 in
theorem zaU (g : Nat) (p v : Value) (bs : List UInt8) (s : ByteArray) (hp : p = .pointer none ∨ p = .pointer (some ⟨g, 0, none⟩)) (hl : bs.length ≤ 1000000000000) (hs : s.size ≤ 1000000000000) :
    CD Tryd.prog 28 [.bx g 51 (.agg [.v p, .ov v]), .sl v 1 5 (bs.map dU8)] [dP g 0, .s s] (fun r H' => ∃ v', r = .tup [dI (s.size : Int), .v .nilIface] ∧ H' = [.bx g 51 (.agg [dP g 0, .ov v']), .sl v' 1 5 ((bs ++ s.data.toList).map dU8)]) := by
  refine zC Tryd.func28 rfl (N := 19) rfl rfl (fun C => ?_)
  refine JD.keep [0, 1] [(0, dP g 0), (1, .s s)] rfl ?_
  refine JD.bd 1 rfl (fun bd1 => ?_)
  have sz1 : s.size ≤ 9223372036854775807 := bd1
  refine zf _ _ rfl rfl rfl (zb rfl (za rfl rfl (zd rfl) (za rfl rfl (zd rfl) (zg rfl (ze (zf _ _ rfl rfl rfl (zb rfl (za rfl rfl (zc rfl) (zi rfl rfl (zr [.bx g 51 (.agg [.v p, .ov v])] [.sl v 1 5 (bs.map dU8)] [] rfl rfl (.cons ArgC.id .nil) zm Tryd.call39 (copyCheck_c g p (.ov v) hp) (.inl rfl)) ?_)))))))))
  rintro _ _ ⟨_, ⟨rfl, rfl⟩, rfl⟩
  refine OpsD.norm [.bx g 51 (.agg [dP g 0, .ov v]), .sl v 1 5 (bs.map dU8)] rfl (zg rfl (ze (zf _ _ rfl rfl rfl (zb rfl (za rfl rfl (zc rfl) (za rfl rfl (zc rfl) (za rfl rfl (zU rfl) (za rfl rfl (zz rfl zaA rfl) (za rfl rfl (zY rfl (i := 0) rfl Tryd.isAgg39 rfl) (za rfl rfl (zc rfl) (zi rfl rfl (ef_append_s (i := 1) (bs := bs) (s := s) rfl rfl rfl zbh (by kernel_rfl) zbM (by (try simp only [la, lc, ln]); omega)) ?_)))))))))))
  rintro _ _ ⟨v1, rfl, rfl⟩
  refine OpsD.norm [.bx g 51 (.agg [dP g 0, .ov v]), .sl v1 1 5 ((bs ++ s.data.toList).map dU8)] rfl (za rfl rfl (zU rfl) (za rfl rfl (zz rfl zaA rfl) (zi rfl rfl (zI (i := 0) (X' := .agg [dP g 0, .ov v1]) rfl rfl rfl (CellD.o) Tryd.sizeOf39 rfl rfl rfl) ?_)))
  rintro _ _ ⟨rfl, rfl⟩
  refine OpsD.norm [.bx g 51 (.agg [dP g 0, .ov v1]), .sl v1 1 5 ((bs ++ s.data.toList).map dU8)] rfl (zg rfl (ze (JD.keep [1, 4, 5] [(1, .s s), (4, dI 0), (5, .v .nilIface)] rfl (zf _ _ rfl rfl rfl (zb rfl (za rfl rfl (zc rfl) (za rfl rfl (zL rfl Tryd.runUnderlying9) (za rfl rfl (zd rfl) (za rfl rfl (zd rfl) (zg rfl (ze (zx rfl ?_))))))))))))
  exact zp Tryd.results28 (.cons (zq rfl) (.cons (zq rfl) .nil)) rfl (HSub.fst 2 rfl) ⟨v1, rfl, rfl⟩
end Lp
