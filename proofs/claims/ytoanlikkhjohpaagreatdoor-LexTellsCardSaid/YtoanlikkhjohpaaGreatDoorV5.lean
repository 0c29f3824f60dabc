/- Walks, printed by a program of mine. -/
import Derived.Test.YtoanlikkhjohpaaGreatDoorDP
set_option linter.unusedSimpArgs false
set_option linter.unusedVariables false
namespace Lp
open Go Go.RowKit Go.Proofs

namespace HdYtoanlikkhjohpaaGreatDoorV5
end HdYtoanlikkhjohpaaGreatDoorV5
open HdYtoanlikkhjohpaaGreatDoorV5

set_option maxHeartbeats 4000000 in
set_option maxRecDepth 100000 in
theorem Kind_c (r : Int)  :
    CD Tryz.prog 61 [] [.v (.int .i32 r)] (isR (dI (zR r))) := by
  refine zH Tryz.func61 rfl (N := 51) rfl rfl (fun C => ?_)
  refine JD.keep [0] [(0, .v (.int .i32 r))] rfl (zf _ _ rfl rfl rfl (zb rfl (za rfl rfl (zd rfl) (zg rfl (ze (zf _ _ rfl rfl rfl (zB _ rfl rfl (zf _ _ rfl rfl rfl (JD.keep [0, 2] [(0, .v (.int .i32 r)), (2, dI 0)] rfl ?_)))))))))
  refine zak 3 ((decide (r < (0 : Int)) || decide (r = (65533 : Int)))) [] (fun _ hQ1 => ?_) ?_
  · skip
    by_cases hg2 : r < (0 : Int)
    · skip
      refine zb rfl (za rfl rfl (zc rfl) (za rfl rfl (z1 rfl rfl (decide_eq_true hg2)) (za rfl rfl (zc rfl) (zi rfl rfl rfl rfl rfl (by decide) (zi rfl rfl rfl rfl rfl (by decide) (za rfl rfl (zr rfl rfl) (za rfl rfl (zd rfl) (zg rfl ?_))))))))
      exact PD.sub ((3, dB (decide (r < (0 : Int)) || decide (r = (65533 : Int)))) :: [(0, .v (.int .i32 r)), (2, dI 0)]) ⟨sc rfl (Cv.eq (congrArg (fun b => D.v (.bool b)) (by first | (simp [hg2]; done) | (simp_all; done)))), sk rfl, sk rfl, trivial⟩ hQ1
    · skip
      refine zb rfl (za rfl rfl (zc rfl) (za rfl rfl (z1 rfl rfl (decide_eq_false hg2)) (za rfl rfl (zc rfl) (zh rfl rfl rfl rfl rfl (zc rfl) (zh rfl rfl rfl rfl rfl (zU rfl rfl rfl) (za rfl rfl (zt rfl rfl) (za rfl rfl (zd rfl) (zg rfl ?_))))))))
      exact PD.sub ((3, dB (decide (r < (0 : Int)) || decide (r = (65533 : Int)))) :: [(0, .v (.int .i32 r)), (2, dI 0)]) ⟨sc rfl (Cv.eq (congrArg (fun b => D.v (.bool b)) (by first | (simp [hg2]; done) | (simp_all; done)))), sk rfl, sk rfl, trivial⟩ hQ1
  · skip
    refine ze ?_
    refine zl _ _ rfl rfl rfl rfl (fun hc3 => ?_) (fun hc3 => ?_)
    · simp only [Bool.and_eq_true, Bool.or_eq_true, Bool.not_eq_true', Bool.not_eq_false', Bool.and_eq_false_iff, Bool.or_eq_false_iff, decide_eq_true_eq, decide_eq_false_iff_not, Decidable.not_not, ne_eq] at hc3
      refine zf _ _ rfl rfl rfl (zb rfl (za rfl rfl (zd rfl) (zg rfl (ze (zu rfl (zn (zq ?_)))))))
      exact zk Tryz.results61 (.cons (zC (zo rfl) (Cv.eq (congrArg (fun n => D.v (.int .i64 n)) (by unfold zR; (repeat (any_goals split)) <;> omega)))) .nil) rfl HSub.none ⟨rfl, rfl⟩
    · simp only [Bool.and_eq_true, Bool.or_eq_true, Bool.not_eq_true', Bool.not_eq_false', Bool.and_eq_false_iff, Bool.or_eq_false_iff, decide_eq_true_eq, decide_eq_false_iff_not, Decidable.not_not, ne_eq] at hc3
      refine zf _ _ rfl rfl rfl (JD.keep [0, 2] [(0, .v (.int .i32 r)), (2, dI 0)] rfl ?_)
      refine zak 10 (((((decide ((97 : Int) ≤ r) && decide (r ≤ (122 : Int))) || (decide ((65 : Int) ≤ r) && decide (r ≤ (90 : Int)))) || decide (r = (95 : Int))) || decide ((128 : Int) ≤ r))) [] (fun _ hQ4 => ?_) ?_
      · skip
        by_cases hg5 : (97 : Int) ≤ r
        · skip
          by_cases hg6 : r ≤ (122 : Int)
          · skip
            refine zb rfl (za rfl rfl (zc rfl) (za rfl rfl (z8 rfl rfl (decide_eq_true hg5)) (za rfl rfl (zc rfl) (zh rfl rfl rfl rfl rfl (zc rfl) (zh rfl rfl rfl rfl rfl (zaG rfl rfl (decide_eq_true hg6)) (za rfl rfl (zr rfl rfl) (za rfl rfl (zc rfl) (zi rfl rfl rfl rfl rfl (by decide) (zi rfl rfl rfl rfl rfl (by decide) (zi rfl rfl rfl rfl rfl (by decide) (zi rfl rfl rfl rfl rfl (by decide) (zi rfl rfl rfl rfl rfl (by decide) (zi rfl rfl rfl rfl rfl (by decide) (za rfl rfl (zr rfl rfl) (za rfl rfl (zc rfl) (zi rfl rfl rfl rfl rfl (by decide) (zi rfl rfl rfl rfl rfl (by decide) (za rfl rfl (zr rfl rfl) (za rfl rfl (zc rfl) (zi rfl rfl rfl rfl rfl (by decide) (zi rfl rfl rfl rfl rfl (by decide) (za rfl rfl (zr rfl rfl) (za rfl rfl (zd rfl) (zg rfl ?_))))))))))))))))))))))))
            exact PD.sub ((10, dB ((((decide ((97 : Int) ≤ r) && decide (r ≤ (122 : Int))) || (decide ((65 : Int) ≤ r) && decide (r ≤ (90 : Int)))) || decide (r = (95 : Int))) || decide ((128 : Int) ≤ r))) :: [(0, .v (.int .i32 r)), (2, dI 0)]) ⟨sc rfl (Cv.eq (congrArg (fun b => D.v (.bool b)) (by first | (simp [hg5, hg6]; done) | (simp_all; done)))), sk rfl, sk rfl, trivial⟩ hQ4
          · skip
            by_cases hg7 : (65 : Int) ≤ r
            · skip
              by_cases hg8 : r ≤ (90 : Int)
              · skip
                refine zb rfl (za rfl rfl (zc rfl) (za rfl rfl (z8 rfl rfl (decide_eq_true hg5)) (za rfl rfl (zc rfl) (zh rfl rfl rfl rfl rfl (zc rfl) (zh rfl rfl rfl rfl rfl (zaG rfl rfl (decide_eq_false hg6)) (za rfl rfl (zr rfl rfl) (za rfl rfl (zc rfl) (zh rfl rfl rfl rfl rfl (zc rfl) (zh rfl rfl rfl rfl rfl (z8 rfl rfl (decide_eq_true hg7)) (zh rfl rfl rfl rfl rfl (zc rfl) (zh rfl rfl rfl rfl rfl (zc rfl) (zh rfl rfl rfl rfl rfl (zaG rfl rfl (decide_eq_true hg8)) (zh rfl rfl rfl rfl rfl (zr rfl rfl) (za rfl rfl (zt rfl rfl) (za rfl rfl (zc rfl) (zi rfl rfl rfl rfl rfl (by decide) (zi rfl rfl rfl rfl rfl (by decide) (za rfl rfl (zr rfl rfl) (za rfl rfl (zc rfl) (zi rfl rfl rfl rfl rfl (by decide) (zi rfl rfl rfl rfl rfl (by decide) (za rfl rfl (zr rfl rfl) (za rfl rfl (zd rfl) (zg rfl ?_))))))))))))))))))))))))
                exact PD.sub ((10, dB ((((decide ((97 : Int) ≤ r) && decide (r ≤ (122 : Int))) || (decide ((65 : Int) ≤ r) && decide (r ≤ (90 : Int)))) || decide (r = (95 : Int))) || decide ((128 : Int) ≤ r))) :: [(0, .v (.int .i32 r)), (2, dI 0)]) ⟨sc rfl (Cv.eq (congrArg (fun b => D.v (.bool b)) (by first | (simp [hg5, hg6, hg7, hg8]; done) | (simp_all; done)))), sk rfl, sk rfl, trivial⟩ hQ4
              · skip
                by_cases hg9 : r = (95 : Int)
                · skip
                  refine zb rfl (za rfl rfl (zc rfl) (za rfl rfl (z8 rfl rfl (decide_eq_true hg5)) (za rfl rfl (zc rfl) (zh rfl rfl rfl rfl rfl (zc rfl) (zh rfl rfl rfl rfl rfl (zaG rfl rfl (decide_eq_false hg6)) (za rfl rfl (zr rfl rfl) (za rfl rfl (zc rfl) (zh rfl rfl rfl rfl rfl (zc rfl) (zh rfl rfl rfl rfl rfl (z8 rfl rfl (decide_eq_true hg7)) (zh rfl rfl rfl rfl rfl (zc rfl) (zh rfl rfl rfl rfl rfl (zc rfl) (zh rfl rfl rfl rfl rfl (zaG rfl rfl (decide_eq_false hg8)) (zh rfl rfl rfl rfl rfl (zr rfl rfl) (za rfl rfl (zt rfl rfl) (za rfl rfl (zc rfl) (zh rfl rfl rfl rfl rfl (zc rfl) (zh rfl rfl rfl rfl rfl (zU rfl rfl (decide_eq_true hg9)) (za rfl rfl (zt rfl rfl) (za rfl rfl (zc rfl) (zi rfl rfl rfl rfl rfl (by decide) (zi rfl rfl rfl rfl rfl (by decide) (za rfl rfl (zr rfl rfl) (za rfl rfl (zd rfl) (zg rfl ?_))))))))))))))))))))))))
                  exact PD.sub ((10, dB ((((decide ((97 : Int) ≤ r) && decide (r ≤ (122 : Int))) || (decide ((65 : Int) ≤ r) && decide (r ≤ (90 : Int)))) || decide (r = (95 : Int))) || decide ((128 : Int) ≤ r))) :: [(0, .v (.int .i32 r)), (2, dI 0)]) ⟨sc rfl (Cv.eq (congrArg (fun b => D.v (.bool b)) (by first | (simp [hg5, hg6, hg7, hg8, hg9]; done) | (simp_all; done)))), sk rfl, sk rfl, trivial⟩ hQ4
                · skip
                  refine zb rfl (za rfl rfl (zc rfl) (za rfl rfl (z8 rfl rfl (decide_eq_true hg5)) (za rfl rfl (zc rfl) (zh rfl rfl rfl rfl rfl (zc rfl) (zh rfl rfl rfl rfl rfl (zaG rfl rfl (decide_eq_false hg6)) (za rfl rfl (zr rfl rfl) (za rfl rfl (zc rfl) (zh rfl rfl rfl rfl rfl (zc rfl) (zh rfl rfl rfl rfl rfl (z8 rfl rfl (decide_eq_true hg7)) (zh rfl rfl rfl rfl rfl (zc rfl) (zh rfl rfl rfl rfl rfl (zc rfl) (zh rfl rfl rfl rfl rfl (zaG rfl rfl (decide_eq_false hg8)) (zh rfl rfl rfl rfl rfl (zr rfl rfl) (za rfl rfl (zt rfl rfl) (za rfl rfl (zc rfl) (zh rfl rfl rfl rfl rfl (zc rfl) (zh rfl rfl rfl rfl rfl (zU rfl rfl (decide_eq_false hg9)) (za rfl rfl (zt rfl rfl) (za rfl rfl (zc rfl) (zh rfl rfl rfl rfl rfl (zc rfl) (zh rfl rfl rfl rfl rfl (z8 rfl rfl rfl) (za rfl rfl (zt rfl rfl) (za rfl rfl (zd rfl) (zg rfl ?_))))))))))))))))))))))))
                  exact PD.sub ((10, dB ((((decide ((97 : Int) ≤ r) && decide (r ≤ (122 : Int))) || (decide ((65 : Int) ≤ r) && decide (r ≤ (90 : Int)))) || decide (r = (95 : Int))) || decide ((128 : Int) ≤ r))) :: [(0, .v (.int .i32 r)), (2, dI 0)]) ⟨sc rfl (Cv.eq (congrArg (fun b => D.v (.bool b)) (by first | (simp [hg5, hg6, hg7, hg8, hg9]; done) | (simp_all; done)))), sk rfl, sk rfl, trivial⟩ hQ4
            · skip
              by_cases hg10 : r = (95 : Int)
              · skip
                refine zb rfl (za rfl rfl (zc rfl) (za rfl rfl (z8 rfl rfl (decide_eq_true hg5)) (za rfl rfl (zc rfl) (zh rfl rfl rfl rfl rfl (zc rfl) (zh rfl rfl rfl rfl rfl (zaG rfl rfl (decide_eq_false hg6)) (za rfl rfl (zr rfl rfl) (za rfl rfl (zc rfl) (zh rfl rfl rfl rfl rfl (zc rfl) (zh rfl rfl rfl rfl rfl (z8 rfl rfl (decide_eq_false hg7)) (zh rfl rfl rfl rfl rfl (zc rfl) (zi rfl rfl rfl rfl rfl (by decide) (zi rfl rfl rfl rfl rfl (by decide) (zh rfl rfl rfl rfl rfl (zt rfl rfl) (za rfl rfl (zt rfl rfl) (za rfl rfl (zc rfl) (zh rfl rfl rfl rfl rfl (zc rfl) (zh rfl rfl rfl rfl rfl (zU rfl rfl (decide_eq_true hg10)) (za rfl rfl (zt rfl rfl) (za rfl rfl (zc rfl) (zi rfl rfl rfl rfl rfl (by decide) (zi rfl rfl rfl rfl rfl (by decide) (za rfl rfl (zr rfl rfl) (za rfl rfl (zd rfl) (zg rfl ?_))))))))))))))))))))))))
                exact PD.sub ((10, dB ((((decide ((97 : Int) ≤ r) && decide (r ≤ (122 : Int))) || (decide ((65 : Int) ≤ r) && decide (r ≤ (90 : Int)))) || decide (r = (95 : Int))) || decide ((128 : Int) ≤ r))) :: [(0, .v (.int .i32 r)), (2, dI 0)]) ⟨sc rfl (Cv.eq (congrArg (fun b => D.v (.bool b)) (by first | (simp [hg10, hg5, hg6, hg7]; done) | (simp_all; done)))), sk rfl, sk rfl, trivial⟩ hQ4
              · skip
                refine zb rfl (za rfl rfl (zc rfl) (za rfl rfl (z8 rfl rfl (decide_eq_true hg5)) (za rfl rfl (zc rfl) (zh rfl rfl rfl rfl rfl (zc rfl) (zh rfl rfl rfl rfl rfl (zaG rfl rfl (decide_eq_false hg6)) (za rfl rfl (zr rfl rfl) (za rfl rfl (zc rfl) (zh rfl rfl rfl rfl rfl (zc rfl) (zh rfl rfl rfl rfl rfl (z8 rfl rfl (decide_eq_false hg7)) (zh rfl rfl rfl rfl rfl (zc rfl) (zi rfl rfl rfl rfl rfl (by decide) (zi rfl rfl rfl rfl rfl (by decide) (zh rfl rfl rfl rfl rfl (zt rfl rfl) (za rfl rfl (zt rfl rfl) (za rfl rfl (zc rfl) (zh rfl rfl rfl rfl rfl (zc rfl) (zh rfl rfl rfl rfl rfl (zU rfl rfl (decide_eq_false hg10)) (za rfl rfl (zt rfl rfl) (za rfl rfl (zc rfl) (zh rfl rfl rfl rfl rfl (zc rfl) (zh rfl rfl rfl rfl rfl (z8 rfl rfl rfl) (za rfl rfl (zt rfl rfl) (za rfl rfl (zd rfl) (zg rfl ?_))))))))))))))))))))))))
                exact PD.sub ((10, dB ((((decide ((97 : Int) ≤ r) && decide (r ≤ (122 : Int))) || (decide ((65 : Int) ≤ r) && decide (r ≤ (90 : Int)))) || decide (r = (95 : Int))) || decide ((128 : Int) ≤ r))) :: [(0, .v (.int .i32 r)), (2, dI 0)]) ⟨sc rfl (Cv.eq (congrArg (fun b => D.v (.bool b)) (by first | (simp [hg10, hg5, hg6, hg7]; done) | (simp_all; done)))), sk rfl, sk rfl, trivial⟩ hQ4
        · skip
          by_cases hg11 : (65 : Int) ≤ r
          · skip
            by_cases hg12 : r ≤ (90 : Int)
            · skip
              refine zb rfl (za rfl rfl (zc rfl) (za rfl rfl (z8 rfl rfl (decide_eq_false hg5)) (za rfl rfl (zc rfl) (zi rfl rfl rfl rfl rfl (by decide) (zi rfl rfl rfl rfl rfl (by decide) (za rfl rfl (zt rfl rfl) (za rfl rfl (zc rfl) (zh rfl rfl rfl rfl rfl (zc rfl) (zh rfl rfl rfl rfl rfl (z8 rfl rfl (decide_eq_true hg11)) (zh rfl rfl rfl rfl rfl (zc rfl) (zh rfl rfl rfl rfl rfl (zc rfl) (zh rfl rfl rfl rfl rfl (zaG rfl rfl (decide_eq_true hg12)) (zh rfl rfl rfl rfl rfl (zr rfl rfl) (za rfl rfl (zt rfl rfl) (za rfl rfl (zc rfl) (zi rfl rfl rfl rfl rfl (by decide) (zi rfl rfl rfl rfl rfl (by decide) (za rfl rfl (zr rfl rfl) (za rfl rfl (zc rfl) (zi rfl rfl rfl rfl rfl (by decide) (zi rfl rfl rfl rfl rfl (by decide) (za rfl rfl (zr rfl rfl) (za rfl rfl (zd rfl) (zg rfl ?_))))))))))))))))))))))))
              exact PD.sub ((10, dB ((((decide ((97 : Int) ≤ r) && decide (r ≤ (122 : Int))) || (decide ((65 : Int) ≤ r) && decide (r ≤ (90 : Int)))) || decide (r = (95 : Int))) || decide ((128 : Int) ≤ r))) :: [(0, .v (.int .i32 r)), (2, dI 0)]) ⟨sc rfl (Cv.eq (congrArg (fun b => D.v (.bool b)) (by first | (simp [hg11, hg12, hg5]; done) | (simp_all; done)))), sk rfl, sk rfl, trivial⟩ hQ4
            · skip
              by_cases hg13 : r = (95 : Int)
              · skip
                refine zb rfl (za rfl rfl (zc rfl) (za rfl rfl (z8 rfl rfl (decide_eq_false hg5)) (za rfl rfl (zc rfl) (zi rfl rfl rfl rfl rfl (by decide) (zi rfl rfl rfl rfl rfl (by decide) (za rfl rfl (zt rfl rfl) (za rfl rfl (zc rfl) (zh rfl rfl rfl rfl rfl (zc rfl) (zh rfl rfl rfl rfl rfl (z8 rfl rfl (decide_eq_true hg11)) (zh rfl rfl rfl rfl rfl (zc rfl) (zh rfl rfl rfl rfl rfl (zc rfl) (zh rfl rfl rfl rfl rfl (zaG rfl rfl (decide_eq_false hg12)) (zh rfl rfl rfl rfl rfl (zr rfl rfl) (za rfl rfl (zt rfl rfl) (za rfl rfl (zc rfl) (zh rfl rfl rfl rfl rfl (zc rfl) (zh rfl rfl rfl rfl rfl (zU rfl rfl (decide_eq_true hg13)) (za rfl rfl (zt rfl rfl) (za rfl rfl (zc rfl) (zi rfl rfl rfl rfl rfl (by decide) (zi rfl rfl rfl rfl rfl (by decide) (za rfl rfl (zr rfl rfl) (za rfl rfl (zd rfl) (zg rfl ?_))))))))))))))))))))))))
                exact PD.sub ((10, dB ((((decide ((97 : Int) ≤ r) && decide (r ≤ (122 : Int))) || (decide ((65 : Int) ≤ r) && decide (r ≤ (90 : Int)))) || decide (r = (95 : Int))) || decide ((128 : Int) ≤ r))) :: [(0, .v (.int .i32 r)), (2, dI 0)]) ⟨sc rfl (Cv.eq (congrArg (fun b => D.v (.bool b)) (by first | (simp [hg11, hg12, hg13, hg5]; done) | (simp_all; done)))), sk rfl, sk rfl, trivial⟩ hQ4
              · skip
                refine zb rfl (za rfl rfl (zc rfl) (za rfl rfl (z8 rfl rfl (decide_eq_false hg5)) (za rfl rfl (zc rfl) (zi rfl rfl rfl rfl rfl (by decide) (zi rfl rfl rfl rfl rfl (by decide) (za rfl rfl (zt rfl rfl) (za rfl rfl (zc rfl) (zh rfl rfl rfl rfl rfl (zc rfl) (zh rfl rfl rfl rfl rfl (z8 rfl rfl (decide_eq_true hg11)) (zh rfl rfl rfl rfl rfl (zc rfl) (zh rfl rfl rfl rfl rfl (zc rfl) (zh rfl rfl rfl rfl rfl (zaG rfl rfl (decide_eq_false hg12)) (zh rfl rfl rfl rfl rfl (zr rfl rfl) (za rfl rfl (zt rfl rfl) (za rfl rfl (zc rfl) (zh rfl rfl rfl rfl rfl (zc rfl) (zh rfl rfl rfl rfl rfl (zU rfl rfl (decide_eq_false hg13)) (za rfl rfl (zt rfl rfl) (za rfl rfl (zc rfl) (zh rfl rfl rfl rfl rfl (zc rfl) (zh rfl rfl rfl rfl rfl (z8 rfl rfl rfl) (za rfl rfl (zt rfl rfl) (za rfl rfl (zd rfl) (zg rfl ?_))))))))))))))))))))))))
                exact PD.sub ((10, dB ((((decide ((97 : Int) ≤ r) && decide (r ≤ (122 : Int))) || (decide ((65 : Int) ≤ r) && decide (r ≤ (90 : Int)))) || decide (r = (95 : Int))) || decide ((128 : Int) ≤ r))) :: [(0, .v (.int .i32 r)), (2, dI 0)]) ⟨sc rfl (Cv.eq (congrArg (fun b => D.v (.bool b)) (by first | (simp [hg11, hg12, hg13, hg5]; done) | (simp_all; done)))), sk rfl, sk rfl, trivial⟩ hQ4
          · skip
            by_cases hg14 : r = (95 : Int)
            · skip
              refine zb rfl (za rfl rfl (zc rfl) (za rfl rfl (z8 rfl rfl (decide_eq_false hg5)) (za rfl rfl (zc rfl) (zi rfl rfl rfl rfl rfl (by decide) (zi rfl rfl rfl rfl rfl (by decide) (za rfl rfl (zt rfl rfl) (za rfl rfl (zc rfl) (zh rfl rfl rfl rfl rfl (zc rfl) (zh rfl rfl rfl rfl rfl (z8 rfl rfl (decide_eq_false hg11)) (zh rfl rfl rfl rfl rfl (zc rfl) (zi rfl rfl rfl rfl rfl (by decide) (zi rfl rfl rfl rfl rfl (by decide) (zh rfl rfl rfl rfl rfl (zt rfl rfl) (za rfl rfl (zt rfl rfl) (za rfl rfl (zc rfl) (zh rfl rfl rfl rfl rfl (zc rfl) (zh rfl rfl rfl rfl rfl (zU rfl rfl (decide_eq_true hg14)) (za rfl rfl (zt rfl rfl) (za rfl rfl (zc rfl) (zi rfl rfl rfl rfl rfl (by decide) (zi rfl rfl rfl rfl rfl (by decide) (za rfl rfl (zr rfl rfl) (za rfl rfl (zd rfl) (zg rfl ?_))))))))))))))))))))))))
              exact PD.sub ((10, dB ((((decide ((97 : Int) ≤ r) && decide (r ≤ (122 : Int))) || (decide ((65 : Int) ≤ r) && decide (r ≤ (90 : Int)))) || decide (r = (95 : Int))) || decide ((128 : Int) ≤ r))) :: [(0, .v (.int .i32 r)), (2, dI 0)]) ⟨sc rfl (Cv.eq (congrArg (fun b => D.v (.bool b)) (by first | (simp [hg11, hg14, hg5]; done) | (simp_all; done)))), sk rfl, sk rfl, trivial⟩ hQ4
            · skip
              refine zb rfl (za rfl rfl (zc rfl) (za rfl rfl (z8 rfl rfl (decide_eq_false hg5)) (za rfl rfl (zc rfl) (zi rfl rfl rfl rfl rfl (by decide) (zi rfl rfl rfl rfl rfl (by decide) (za rfl rfl (zt rfl rfl) (za rfl rfl (zc rfl) (zh rfl rfl rfl rfl rfl (zc rfl) (zh rfl rfl rfl rfl rfl (z8 rfl rfl (decide_eq_false hg11)) (zh rfl rfl rfl rfl rfl (zc rfl) (zi rfl rfl rfl rfl rfl (by decide) (zi rfl rfl rfl rfl rfl (by decide) (zh rfl rfl rfl rfl rfl (zt rfl rfl) (za rfl rfl (zt rfl rfl) (za rfl rfl (zc rfl) (zh rfl rfl rfl rfl rfl (zc rfl) (zh rfl rfl rfl rfl rfl (zU rfl rfl (decide_eq_false hg14)) (za rfl rfl (zt rfl rfl) (za rfl rfl (zc rfl) (zh rfl rfl rfl rfl rfl (zc rfl) (zh rfl rfl rfl rfl rfl (z8 rfl rfl rfl) (za rfl rfl (zt rfl rfl) (za rfl rfl (zd rfl) (zg rfl ?_))))))))))))))))))))))))
              exact PD.sub ((10, dB ((((decide ((97 : Int) ≤ r) && decide (r ≤ (122 : Int))) || (decide ((65 : Int) ≤ r) && decide (r ≤ (90 : Int)))) || decide (r = (95 : Int))) || decide ((128 : Int) ≤ r))) :: [(0, .v (.int .i32 r)), (2, dI 0)]) ⟨sc rfl (Cv.eq (congrArg (fun b => D.v (.bool b)) (by first | (simp [hg11, hg14, hg5]; done) | (simp_all; done)))), sk rfl, sk rfl, trivial⟩ hQ4
      · skip
        refine ze ?_
        refine zl _ _ rfl rfl rfl rfl (fun hc15 => ?_) (fun hc15 => ?_)
        · simp only [Bool.and_eq_true, Bool.or_eq_true, Bool.not_eq_true', Bool.not_eq_false', Bool.and_eq_false_iff, Bool.or_eq_false_iff, decide_eq_true_eq, decide_eq_false_iff_not, Decidable.not_not, ne_eq] at hc15
          refine zf _ _ rfl rfl rfl (zb rfl (za rfl rfl (zd rfl) (zg rfl (ze (zu rfl (zn (zq ?_)))))))
          exact zk Tryz.results61 (.cons (zC (zo rfl) (Cv.eq (congrArg (fun n => D.v (.int .i64 n)) (by unfold zR; (repeat (any_goals split)) <;> omega)))) .nil) rfl HSub.none ⟨rfl, rfl⟩
        · simp only [Bool.and_eq_true, Bool.or_eq_true, Bool.not_eq_true', Bool.not_eq_false', Bool.and_eq_false_iff, Bool.or_eq_false_iff, decide_eq_true_eq, decide_eq_false_iff_not, Decidable.not_not, ne_eq] at hc15
          refine zf _ _ rfl rfl rfl (JD.keep [0, 2] [(0, .v (.int .i32 r)), (2, dI 0)] rfl ?_)
          refine zak 33 ((decide ((48 : Int) ≤ r) && decide (r ≤ (57 : Int)))) [] (fun _ hQ16 => ?_) ?_
          · skip
            by_cases hg17 : (48 : Int) ≤ r
            · skip
              refine zb rfl (za rfl rfl (zc rfl) (za rfl rfl (z8 rfl rfl (decide_eq_true hg17)) (za rfl rfl (zc rfl) (zh rfl rfl rfl rfl rfl (zc rfl) (zh rfl rfl rfl rfl rfl (zaG rfl rfl rfl) (za rfl rfl (zr rfl rfl) (za rfl rfl (zd rfl) (zg rfl ?_))))))))
              exact PD.sub ((33, dB (decide ((48 : Int) ≤ r) && decide (r ≤ (57 : Int)))) :: [(0, .v (.int .i32 r)), (2, dI 0)]) ⟨sc rfl (Cv.eq (congrArg (fun b => D.v (.bool b)) (by first | (simp [hg17]; done) | (simp_all; done)))), sk rfl, sk rfl, trivial⟩ hQ16
            · skip
              refine zb rfl (za rfl rfl (zc rfl) (za rfl rfl (z8 rfl rfl (decide_eq_false hg17)) (za rfl rfl (zc rfl) (zi rfl rfl rfl rfl rfl (by decide) (zi rfl rfl rfl rfl rfl (by decide) (za rfl rfl (zt rfl rfl) (za rfl rfl (zd rfl) (zg rfl ?_))))))))
              exact PD.sub ((33, dB (decide ((48 : Int) ≤ r) && decide (r ≤ (57 : Int)))) :: [(0, .v (.int .i32 r)), (2, dI 0)]) ⟨sc rfl (Cv.eq (congrArg (fun b => D.v (.bool b)) (by first | (simp [hg17]; done) | (simp_all; done)))), sk rfl, sk rfl, trivial⟩ hQ16
          · skip
            refine ze ?_
            refine zl _ _ rfl rfl rfl rfl (fun hc18 => ?_) (fun hc18 => ?_)
            · simp only [Bool.and_eq_true, Bool.or_eq_true, Bool.not_eq_true', Bool.not_eq_false', Bool.and_eq_false_iff, Bool.or_eq_false_iff, decide_eq_true_eq, decide_eq_false_iff_not, Decidable.not_not, ne_eq] at hc18
              refine zf _ _ rfl rfl rfl (zb rfl (za rfl rfl (zd rfl) (zg rfl (ze (zu rfl (zn (zq ?_)))))))
              exact zk Tryz.results61 (.cons (zC (zo rfl) (Cv.eq (congrArg (fun n => D.v (.int .i64 n)) (by unfold zR; (repeat (any_goals split)) <;> omega)))) .nil) rfl HSub.none ⟨rfl, rfl⟩
            · simp only [Bool.and_eq_true, Bool.or_eq_true, Bool.not_eq_true', Bool.not_eq_false', Bool.and_eq_false_iff, Bool.or_eq_false_iff, decide_eq_true_eq, decide_eq_false_iff_not, Decidable.not_not, ne_eq] at hc18
              refine zf _ _ rfl rfl rfl (JD.keep [0, 2] [(0, .v (.int .i32 r)), (2, dI 0)] rfl ?_)
              refine zak 40 (((decide (r = (32 : Int)) || decide (r = (9 : Int))) || decide (r = (10 : Int)))) [] (fun _ hQ19 => ?_) ?_
              · skip
                by_cases hg20 : r = (32 : Int)
                · skip
                  refine zb rfl (za rfl rfl (zc rfl) (za rfl rfl (zU rfl rfl (decide_eq_true hg20)) (za rfl rfl (zc rfl) (zi rfl rfl rfl rfl rfl (by decide) (zi rfl rfl rfl rfl rfl (by decide) (za rfl rfl (zr rfl rfl) (za rfl rfl (zc rfl) (zi rfl rfl rfl rfl rfl (by decide) (zi rfl rfl rfl rfl rfl (by decide) (za rfl rfl (zr rfl rfl) (za rfl rfl (zd rfl) (zg rfl ?_))))))))))))
                  exact PD.sub ((40, dB ((decide (r = (32 : Int)) || decide (r = (9 : Int))) || decide (r = (10 : Int)))) :: [(0, .v (.int .i32 r)), (2, dI 0)]) ⟨sc rfl (Cv.eq (congrArg (fun b => D.v (.bool b)) (by first | (simp [hg20]; done) | (simp_all; done)))), sk rfl, sk rfl, trivial⟩ hQ19
                · skip
                  by_cases hg21 : r = (9 : Int)
                  · skip
                    refine zb rfl (za rfl rfl (zc rfl) (za rfl rfl (zU rfl rfl (decide_eq_false hg20)) (za rfl rfl (zc rfl) (zh rfl rfl rfl rfl rfl (zc rfl) (zh rfl rfl rfl rfl rfl (zU rfl rfl (decide_eq_true hg21)) (za rfl rfl (zt rfl rfl) (za rfl rfl (zc rfl) (zi rfl rfl rfl rfl rfl (by decide) (zi rfl rfl rfl rfl rfl (by decide) (za rfl rfl (zr rfl rfl) (za rfl rfl (zd rfl) (zg rfl ?_))))))))))))
                    exact PD.sub ((40, dB ((decide (r = (32 : Int)) || decide (r = (9 : Int))) || decide (r = (10 : Int)))) :: [(0, .v (.int .i32 r)), (2, dI 0)]) ⟨sc rfl (Cv.eq (congrArg (fun b => D.v (.bool b)) (by first | (simp [hg20, hg21]; done) | (simp_all; done)))), sk rfl, sk rfl, trivial⟩ hQ19
                  · skip
                    refine zb rfl (za rfl rfl (zc rfl) (za rfl rfl (zU rfl rfl (decide_eq_false hg20)) (za rfl rfl (zc rfl) (zh rfl rfl rfl rfl rfl (zc rfl) (zh rfl rfl rfl rfl rfl (zU rfl rfl (decide_eq_false hg21)) (za rfl rfl (zt rfl rfl) (za rfl rfl (zc rfl) (zh rfl rfl rfl rfl rfl (zc rfl) (zh rfl rfl rfl rfl rfl (zU rfl rfl rfl) (za rfl rfl (zt rfl rfl) (za rfl rfl (zd rfl) (zg rfl ?_))))))))))))
                    exact PD.sub ((40, dB ((decide (r = (32 : Int)) || decide (r = (9 : Int))) || decide (r = (10 : Int)))) :: [(0, .v (.int .i32 r)), (2, dI 0)]) ⟨sc rfl (Cv.eq (congrArg (fun b => D.v (.bool b)) (by first | (simp [hg20, hg21]; done) | (simp_all; done)))), sk rfl, sk rfl, trivial⟩ hQ19
              · skip
                refine ze ?_
                refine zl _ _ rfl rfl rfl rfl (fun hc22 => ?_) (fun hc22 => ?_)
                · simp only [Bool.and_eq_true, Bool.or_eq_true, Bool.not_eq_true', Bool.not_eq_false', Bool.and_eq_false_iff, Bool.or_eq_false_iff, decide_eq_true_eq, decide_eq_false_iff_not, Decidable.not_not, ne_eq] at hc22
                  refine zf _ _ rfl rfl rfl (zb rfl (za rfl rfl (zd rfl) (zg rfl (ze (zu rfl (zn (zq ?_)))))))
                  exact zk Tryz.results61 (.cons (zC (zo rfl) (Cv.eq (congrArg (fun n => D.v (.int .i64 n)) (by unfold zR; (repeat (any_goals split)) <;> omega)))) .nil) rfl HSub.none ⟨rfl, rfl⟩
                · simp only [Bool.and_eq_true, Bool.or_eq_true, Bool.not_eq_true', Bool.not_eq_false', Bool.and_eq_false_iff, Bool.or_eq_false_iff, decide_eq_true_eq, decide_eq_false_iff_not, Decidable.not_not, ne_eq] at hc22
                  refine zy rfl (zG (ze (zf _ _ rfl rfl rfl (zb rfl (za rfl rfl (zd rfl) (zg rfl (ze (zu rfl ?_))))))))
                  exact zk Tryz.results61 (.cons (zC (zo rfl) (Cv.eq (congrArg (fun n => D.v (.int .i64 n)) (by unfold zR; (repeat (any_goals split)) <;> omega)))) .nil) rfl HSub.none ⟨rfl, rfl⟩

set_option maxHeartbeats 4000000 in
set_option maxRecDepth 100000 in
theorem refKind_c (r : Int)  :
    CD Tryz.prog 15 [] [.v (.int .i32 r)] (isR (dI (zR r))) := by
  refine zH Tryz.func15 rfl (N := 51) rfl rfl (fun C => ?_)
  refine JD.keep [0] [(0, .v (.int .i32 r))] rfl (zf _ _ rfl rfl rfl (zb rfl (za rfl rfl (zd rfl) (zg rfl (ze (zf _ _ rfl rfl rfl (zB _ rfl rfl (zf _ _ rfl rfl rfl (JD.keep [0, 2] [(0, .v (.int .i32 r)), (2, dI 0)] rfl ?_)))))))))
  refine zak 3 ((decide (r < (0 : Int)) || decide (r = (65533 : Int)))) [] (fun _ hQ1 => ?_) ?_
  · skip
    by_cases hg2 : r < (0 : Int)
    · skip
      refine zb rfl (za rfl rfl (zc rfl) (za rfl rfl (z1 rfl rfl (decide_eq_true hg2)) (za rfl rfl (zc rfl) (zi rfl rfl rfl rfl rfl (by decide) (zi rfl rfl rfl rfl rfl (by decide) (za rfl rfl (zr rfl rfl) (za rfl rfl (zd rfl) (zg rfl ?_))))))))
      exact PD.sub ((3, dB (decide (r < (0 : Int)) || decide (r = (65533 : Int)))) :: [(0, .v (.int .i32 r)), (2, dI 0)]) ⟨sc rfl (Cv.eq (congrArg (fun b => D.v (.bool b)) (by first | (simp [hg2]; done) | (simp_all; done)))), sk rfl, sk rfl, trivial⟩ hQ1
    · skip
      refine zb rfl (za rfl rfl (zc rfl) (za rfl rfl (z1 rfl rfl (decide_eq_false hg2)) (za rfl rfl (zc rfl) (zh rfl rfl rfl rfl rfl (zc rfl) (zh rfl rfl rfl rfl rfl (zU rfl rfl rfl) (za rfl rfl (zt rfl rfl) (za rfl rfl (zd rfl) (zg rfl ?_))))))))
      exact PD.sub ((3, dB (decide (r < (0 : Int)) || decide (r = (65533 : Int)))) :: [(0, .v (.int .i32 r)), (2, dI 0)]) ⟨sc rfl (Cv.eq (congrArg (fun b => D.v (.bool b)) (by first | (simp [hg2]; done) | (simp_all; done)))), sk rfl, sk rfl, trivial⟩ hQ1
  · skip
    refine ze ?_
    refine zl _ _ rfl rfl rfl rfl (fun hc3 => ?_) (fun hc3 => ?_)
    · simp only [Bool.and_eq_true, Bool.or_eq_true, Bool.not_eq_true', Bool.not_eq_false', Bool.and_eq_false_iff, Bool.or_eq_false_iff, decide_eq_true_eq, decide_eq_false_iff_not, Decidable.not_not, ne_eq] at hc3
      refine zf _ _ rfl rfl rfl (zb rfl (za rfl rfl (zd rfl) (zg rfl (ze (zu rfl (zn (zq ?_)))))))
      exact zk Tryz.results15 (.cons (zC (zo rfl) (Cv.eq (congrArg (fun n => D.v (.int .i64 n)) (by unfold zR; (repeat (any_goals split)) <;> omega)))) .nil) rfl HSub.none ⟨rfl, rfl⟩
    · simp only [Bool.and_eq_true, Bool.or_eq_true, Bool.not_eq_true', Bool.not_eq_false', Bool.and_eq_false_iff, Bool.or_eq_false_iff, decide_eq_true_eq, decide_eq_false_iff_not, Decidable.not_not, ne_eq] at hc3
      refine zf _ _ rfl rfl rfl (JD.keep [0, 2] [(0, .v (.int .i32 r)), (2, dI 0)] rfl ?_)
      refine zak 10 (((((decide ((97 : Int) ≤ r) && decide (r ≤ (122 : Int))) || (decide ((65 : Int) ≤ r) && decide (r ≤ (90 : Int)))) || decide (r = (95 : Int))) || decide ((128 : Int) ≤ r))) [] (fun _ hQ4 => ?_) ?_
      · skip
        by_cases hg5 : (97 : Int) ≤ r
        · skip
          by_cases hg6 : r ≤ (122 : Int)
          · skip
            refine zb rfl (za rfl rfl (zc rfl) (za rfl rfl (z8 rfl rfl (decide_eq_true hg5)) (za rfl rfl (zc rfl) (zh rfl rfl rfl rfl rfl (zc rfl) (zh rfl rfl rfl rfl rfl (zaG rfl rfl (decide_eq_true hg6)) (za rfl rfl (zr rfl rfl) (za rfl rfl (zc rfl) (zi rfl rfl rfl rfl rfl (by decide) (zi rfl rfl rfl rfl rfl (by decide) (zi rfl rfl rfl rfl rfl (by decide) (zi rfl rfl rfl rfl rfl (by decide) (zi rfl rfl rfl rfl rfl (by decide) (zi rfl rfl rfl rfl rfl (by decide) (za rfl rfl (zr rfl rfl) (za rfl rfl (zc rfl) (zi rfl rfl rfl rfl rfl (by decide) (zi rfl rfl rfl rfl rfl (by decide) (za rfl rfl (zr rfl rfl) (za rfl rfl (zc rfl) (zi rfl rfl rfl rfl rfl (by decide) (zi rfl rfl rfl rfl rfl (by decide) (za rfl rfl (zr rfl rfl) (za rfl rfl (zd rfl) (zg rfl ?_))))))))))))))))))))))))
            exact PD.sub ((10, dB ((((decide ((97 : Int) ≤ r) && decide (r ≤ (122 : Int))) || (decide ((65 : Int) ≤ r) && decide (r ≤ (90 : Int)))) || decide (r = (95 : Int))) || decide ((128 : Int) ≤ r))) :: [(0, .v (.int .i32 r)), (2, dI 0)]) ⟨sc rfl (Cv.eq (congrArg (fun b => D.v (.bool b)) (by first | (simp [hg5, hg6]; done) | (simp_all; done)))), sk rfl, sk rfl, trivial⟩ hQ4
          · skip
            by_cases hg7 : (65 : Int) ≤ r
            · skip
              by_cases hg8 : r ≤ (90 : Int)
              · skip
                refine zb rfl (za rfl rfl (zc rfl) (za rfl rfl (z8 rfl rfl (decide_eq_true hg5)) (za rfl rfl (zc rfl) (zh rfl rfl rfl rfl rfl (zc rfl) (zh rfl rfl rfl rfl rfl (zaG rfl rfl (decide_eq_false hg6)) (za rfl rfl (zr rfl rfl) (za rfl rfl (zc rfl) (zh rfl rfl rfl rfl rfl (zc rfl) (zh rfl rfl rfl rfl rfl (z8 rfl rfl (decide_eq_true hg7)) (zh rfl rfl rfl rfl rfl (zc rfl) (zh rfl rfl rfl rfl rfl (zc rfl) (zh rfl rfl rfl rfl rfl (zaG rfl rfl (decide_eq_true hg8)) (zh rfl rfl rfl rfl rfl (zr rfl rfl) (za rfl rfl (zt rfl rfl) (za rfl rfl (zc rfl) (zi rfl rfl rfl rfl rfl (by decide) (zi rfl rfl rfl rfl rfl (by decide) (za rfl rfl (zr rfl rfl) (za rfl rfl (zc rfl) (zi rfl rfl rfl rfl rfl (by decide) (zi rfl rfl rfl rfl rfl (by decide) (za rfl rfl (zr rfl rfl) (za rfl rfl (zd rfl) (zg rfl ?_))))))))))))))))))))))))
                exact PD.sub ((10, dB ((((decide ((97 : Int) ≤ r) && decide (r ≤ (122 : Int))) || (decide ((65 : Int) ≤ r) && decide (r ≤ (90 : Int)))) || decide (r = (95 : Int))) || decide ((128 : Int) ≤ r))) :: [(0, .v (.int .i32 r)), (2, dI 0)]) ⟨sc rfl (Cv.eq (congrArg (fun b => D.v (.bool b)) (by first | (simp [hg5, hg6, hg7, hg8]; done) | (simp_all; done)))), sk rfl, sk rfl, trivial⟩ hQ4
              · skip
                by_cases hg9 : r = (95 : Int)
                · skip
                  refine zb rfl (za rfl rfl (zc rfl) (za rfl rfl (z8 rfl rfl (decide_eq_true hg5)) (za rfl rfl (zc rfl) (zh rfl rfl rfl rfl rfl (zc rfl) (zh rfl rfl rfl rfl rfl (zaG rfl rfl (decide_eq_false hg6)) (za rfl rfl (zr rfl rfl) (za rfl rfl (zc rfl) (zh rfl rfl rfl rfl rfl (zc rfl) (zh rfl rfl rfl rfl rfl (z8 rfl rfl (decide_eq_true hg7)) (zh rfl rfl rfl rfl rfl (zc rfl) (zh rfl rfl rfl rfl rfl (zc rfl) (zh rfl rfl rfl rfl rfl (zaG rfl rfl (decide_eq_false hg8)) (zh rfl rfl rfl rfl rfl (zr rfl rfl) (za rfl rfl (zt rfl rfl) (za rfl rfl (zc rfl) (zh rfl rfl rfl rfl rfl (zc rfl) (zh rfl rfl rfl rfl rfl (zU rfl rfl (decide_eq_true hg9)) (za rfl rfl (zt rfl rfl) (za rfl rfl (zc rfl) (zi rfl rfl rfl rfl rfl (by decide) (zi rfl rfl rfl rfl rfl (by decide) (za rfl rfl (zr rfl rfl) (za rfl rfl (zd rfl) (zg rfl ?_))))))))))))))))))))))))
                  exact PD.sub ((10, dB ((((decide ((97 : Int) ≤ r) && decide (r ≤ (122 : Int))) || (decide ((65 : Int) ≤ r) && decide (r ≤ (90 : Int)))) || decide (r = (95 : Int))) || decide ((128 : Int) ≤ r))) :: [(0, .v (.int .i32 r)), (2, dI 0)]) ⟨sc rfl (Cv.eq (congrArg (fun b => D.v (.bool b)) (by first | (simp [hg5, hg6, hg7, hg8, hg9]; done) | (simp_all; done)))), sk rfl, sk rfl, trivial⟩ hQ4
                · skip
                  refine zb rfl (za rfl rfl (zc rfl) (za rfl rfl (z8 rfl rfl (decide_eq_true hg5)) (za rfl rfl (zc rfl) (zh rfl rfl rfl rfl rfl (zc rfl) (zh rfl rfl rfl rfl rfl (zaG rfl rfl (decide_eq_false hg6)) (za rfl rfl (zr rfl rfl) (za rfl rfl (zc rfl) (zh rfl rfl rfl rfl rfl (zc rfl) (zh rfl rfl rfl rfl rfl (z8 rfl rfl (decide_eq_true hg7)) (zh rfl rfl rfl rfl rfl (zc rfl) (zh rfl rfl rfl rfl rfl (zc rfl) (zh rfl rfl rfl rfl rfl (zaG rfl rfl (decide_eq_false hg8)) (zh rfl rfl rfl rfl rfl (zr rfl rfl) (za rfl rfl (zt rfl rfl) (za rfl rfl (zc rfl) (zh rfl rfl rfl rfl rfl (zc rfl) (zh rfl rfl rfl rfl rfl (zU rfl rfl (decide_eq_false hg9)) (za rfl rfl (zt rfl rfl) (za rfl rfl (zc rfl) (zh rfl rfl rfl rfl rfl (zc rfl) (zh rfl rfl rfl rfl rfl (z8 rfl rfl rfl) (za rfl rfl (zt rfl rfl) (za rfl rfl (zd rfl) (zg rfl ?_))))))))))))))))))))))))
                  exact PD.sub ((10, dB ((((decide ((97 : Int) ≤ r) && decide (r ≤ (122 : Int))) || (decide ((65 : Int) ≤ r) && decide (r ≤ (90 : Int)))) || decide (r = (95 : Int))) || decide ((128 : Int) ≤ r))) :: [(0, .v (.int .i32 r)), (2, dI 0)]) ⟨sc rfl (Cv.eq (congrArg (fun b => D.v (.bool b)) (by first | (simp [hg5, hg6, hg7, hg8, hg9]; done) | (simp_all; done)))), sk rfl, sk rfl, trivial⟩ hQ4
            · skip
              by_cases hg10 : r = (95 : Int)
              · skip
                refine zb rfl (za rfl rfl (zc rfl) (za rfl rfl (z8 rfl rfl (decide_eq_true hg5)) (za rfl rfl (zc rfl) (zh rfl rfl rfl rfl rfl (zc rfl) (zh rfl rfl rfl rfl rfl (zaG rfl rfl (decide_eq_false hg6)) (za rfl rfl (zr rfl rfl) (za rfl rfl (zc rfl) (zh rfl rfl rfl rfl rfl (zc rfl) (zh rfl rfl rfl rfl rfl (z8 rfl rfl (decide_eq_false hg7)) (zh rfl rfl rfl rfl rfl (zc rfl) (zi rfl rfl rfl rfl rfl (by decide) (zi rfl rfl rfl rfl rfl (by decide) (zh rfl rfl rfl rfl rfl (zt rfl rfl) (za rfl rfl (zt rfl rfl) (za rfl rfl (zc rfl) (zh rfl rfl rfl rfl rfl (zc rfl) (zh rfl rfl rfl rfl rfl (zU rfl rfl (decide_eq_true hg10)) (za rfl rfl (zt rfl rfl) (za rfl rfl (zc rfl) (zi rfl rfl rfl rfl rfl (by decide) (zi rfl rfl rfl rfl rfl (by decide) (za rfl rfl (zr rfl rfl) (za rfl rfl (zd rfl) (zg rfl ?_))))))))))))))))))))))))
                exact PD.sub ((10, dB ((((decide ((97 : Int) ≤ r) && decide (r ≤ (122 : Int))) || (decide ((65 : Int) ≤ r) && decide (r ≤ (90 : Int)))) || decide (r = (95 : Int))) || decide ((128 : Int) ≤ r))) :: [(0, .v (.int .i32 r)), (2, dI 0)]) ⟨sc rfl (Cv.eq (congrArg (fun b => D.v (.bool b)) (by first | (simp [hg10, hg5, hg6, hg7]; done) | (simp_all; done)))), sk rfl, sk rfl, trivial⟩ hQ4
              · skip
                refine zb rfl (za rfl rfl (zc rfl) (za rfl rfl (z8 rfl rfl (decide_eq_true hg5)) (za rfl rfl (zc rfl) (zh rfl rfl rfl rfl rfl (zc rfl) (zh rfl rfl rfl rfl rfl (zaG rfl rfl (decide_eq_false hg6)) (za rfl rfl (zr rfl rfl) (za rfl rfl (zc rfl) (zh rfl rfl rfl rfl rfl (zc rfl) (zh rfl rfl rfl rfl rfl (z8 rfl rfl (decide_eq_false hg7)) (zh rfl rfl rfl rfl rfl (zc rfl) (zi rfl rfl rfl rfl rfl (by decide) (zi rfl rfl rfl rfl rfl (by decide) (zh rfl rfl rfl rfl rfl (zt rfl rfl) (za rfl rfl (zt rfl rfl) (za rfl rfl (zc rfl) (zh rfl rfl rfl rfl rfl (zc rfl) (zh rfl rfl rfl rfl rfl (zU rfl rfl (decide_eq_false hg10)) (za rfl rfl (zt rfl rfl) (za rfl rfl (zc rfl) (zh rfl rfl rfl rfl rfl (zc rfl) (zh rfl rfl rfl rfl rfl (z8 rfl rfl rfl) (za rfl rfl (zt rfl rfl) (za rfl rfl (zd rfl) (zg rfl ?_))))))))))))))))))))))))
                exact PD.sub ((10, dB ((((decide ((97 : Int) ≤ r) && decide (r ≤ (122 : Int))) || (decide ((65 : Int) ≤ r) && decide (r ≤ (90 : Int)))) || decide (r = (95 : Int))) || decide ((128 : Int) ≤ r))) :: [(0, .v (.int .i32 r)), (2, dI 0)]) ⟨sc rfl (Cv.eq (congrArg (fun b => D.v (.bool b)) (by first | (simp [hg10, hg5, hg6, hg7]; done) | (simp_all; done)))), sk rfl, sk rfl, trivial⟩ hQ4
        · skip
          by_cases hg11 : (65 : Int) ≤ r
          · skip
            by_cases hg12 : r ≤ (90 : Int)
            · skip
              refine zb rfl (za rfl rfl (zc rfl) (za rfl rfl (z8 rfl rfl (decide_eq_false hg5)) (za rfl rfl (zc rfl) (zi rfl rfl rfl rfl rfl (by decide) (zi rfl rfl rfl rfl rfl (by decide) (za rfl rfl (zt rfl rfl) (za rfl rfl (zc rfl) (zh rfl rfl rfl rfl rfl (zc rfl) (zh rfl rfl rfl rfl rfl (z8 rfl rfl (decide_eq_true hg11)) (zh rfl rfl rfl rfl rfl (zc rfl) (zh rfl rfl rfl rfl rfl (zc rfl) (zh rfl rfl rfl rfl rfl (zaG rfl rfl (decide_eq_true hg12)) (zh rfl rfl rfl rfl rfl (zr rfl rfl) (za rfl rfl (zt rfl rfl) (za rfl rfl (zc rfl) (zi rfl rfl rfl rfl rfl (by decide) (zi rfl rfl rfl rfl rfl (by decide) (za rfl rfl (zr rfl rfl) (za rfl rfl (zc rfl) (zi rfl rfl rfl rfl rfl (by decide) (zi rfl rfl rfl rfl rfl (by decide) (za rfl rfl (zr rfl rfl) (za rfl rfl (zd rfl) (zg rfl ?_))))))))))))))))))))))))
              exact PD.sub ((10, dB ((((decide ((97 : Int) ≤ r) && decide (r ≤ (122 : Int))) || (decide ((65 : Int) ≤ r) && decide (r ≤ (90 : Int)))) || decide (r = (95 : Int))) || decide ((128 : Int) ≤ r))) :: [(0, .v (.int .i32 r)), (2, dI 0)]) ⟨sc rfl (Cv.eq (congrArg (fun b => D.v (.bool b)) (by first | (simp [hg11, hg12, hg5]; done) | (simp_all; done)))), sk rfl, sk rfl, trivial⟩ hQ4
            · skip
              by_cases hg13 : r = (95 : Int)
              · skip
                refine zb rfl (za rfl rfl (zc rfl) (za rfl rfl (z8 rfl rfl (decide_eq_false hg5)) (za rfl rfl (zc rfl) (zi rfl rfl rfl rfl rfl (by decide) (zi rfl rfl rfl rfl rfl (by decide) (za rfl rfl (zt rfl rfl) (za rfl rfl (zc rfl) (zh rfl rfl rfl rfl rfl (zc rfl) (zh rfl rfl rfl rfl rfl (z8 rfl rfl (decide_eq_true hg11)) (zh rfl rfl rfl rfl rfl (zc rfl) (zh rfl rfl rfl rfl rfl (zc rfl) (zh rfl rfl rfl rfl rfl (zaG rfl rfl (decide_eq_false hg12)) (zh rfl rfl rfl rfl rfl (zr rfl rfl) (za rfl rfl (zt rfl rfl) (za rfl rfl (zc rfl) (zh rfl rfl rfl rfl rfl (zc rfl) (zh rfl rfl rfl rfl rfl (zU rfl rfl (decide_eq_true hg13)) (za rfl rfl (zt rfl rfl) (za rfl rfl (zc rfl) (zi rfl rfl rfl rfl rfl (by decide) (zi rfl rfl rfl rfl rfl (by decide) (za rfl rfl (zr rfl rfl) (za rfl rfl (zd rfl) (zg rfl ?_))))))))))))))))))))))))
                exact PD.sub ((10, dB ((((decide ((97 : Int) ≤ r) && decide (r ≤ (122 : Int))) || (decide ((65 : Int) ≤ r) && decide (r ≤ (90 : Int)))) || decide (r = (95 : Int))) || decide ((128 : Int) ≤ r))) :: [(0, .v (.int .i32 r)), (2, dI 0)]) ⟨sc rfl (Cv.eq (congrArg (fun b => D.v (.bool b)) (by first | (simp [hg11, hg12, hg13, hg5]; done) | (simp_all; done)))), sk rfl, sk rfl, trivial⟩ hQ4
              · skip
                refine zb rfl (za rfl rfl (zc rfl) (za rfl rfl (z8 rfl rfl (decide_eq_false hg5)) (za rfl rfl (zc rfl) (zi rfl rfl rfl rfl rfl (by decide) (zi rfl rfl rfl rfl rfl (by decide) (za rfl rfl (zt rfl rfl) (za rfl rfl (zc rfl) (zh rfl rfl rfl rfl rfl (zc rfl) (zh rfl rfl rfl rfl rfl (z8 rfl rfl (decide_eq_true hg11)) (zh rfl rfl rfl rfl rfl (zc rfl) (zh rfl rfl rfl rfl rfl (zc rfl) (zh rfl rfl rfl rfl rfl (zaG rfl rfl (decide_eq_false hg12)) (zh rfl rfl rfl rfl rfl (zr rfl rfl) (za rfl rfl (zt rfl rfl) (za rfl rfl (zc rfl) (zh rfl rfl rfl rfl rfl (zc rfl) (zh rfl rfl rfl rfl rfl (zU rfl rfl (decide_eq_false hg13)) (za rfl rfl (zt rfl rfl) (za rfl rfl (zc rfl) (zh rfl rfl rfl rfl rfl (zc rfl) (zh rfl rfl rfl rfl rfl (z8 rfl rfl rfl) (za rfl rfl (zt rfl rfl) (za rfl rfl (zd rfl) (zg rfl ?_))))))))))))))))))))))))
                exact PD.sub ((10, dB ((((decide ((97 : Int) ≤ r) && decide (r ≤ (122 : Int))) || (decide ((65 : Int) ≤ r) && decide (r ≤ (90 : Int)))) || decide (r = (95 : Int))) || decide ((128 : Int) ≤ r))) :: [(0, .v (.int .i32 r)), (2, dI 0)]) ⟨sc rfl (Cv.eq (congrArg (fun b => D.v (.bool b)) (by first | (simp [hg11, hg12, hg13, hg5]; done) | (simp_all; done)))), sk rfl, sk rfl, trivial⟩ hQ4
          · skip
            by_cases hg14 : r = (95 : Int)
            · skip
              refine zb rfl (za rfl rfl (zc rfl) (za rfl rfl (z8 rfl rfl (decide_eq_false hg5)) (za rfl rfl (zc rfl) (zi rfl rfl rfl rfl rfl (by decide) (zi rfl rfl rfl rfl rfl (by decide) (za rfl rfl (zt rfl rfl) (za rfl rfl (zc rfl) (zh rfl rfl rfl rfl rfl (zc rfl) (zh rfl rfl rfl rfl rfl (z8 rfl rfl (decide_eq_false hg11)) (zh rfl rfl rfl rfl rfl (zc rfl) (zi rfl rfl rfl rfl rfl (by decide) (zi rfl rfl rfl rfl rfl (by decide) (zh rfl rfl rfl rfl rfl (zt rfl rfl) (za rfl rfl (zt rfl rfl) (za rfl rfl (zc rfl) (zh rfl rfl rfl rfl rfl (zc rfl) (zh rfl rfl rfl rfl rfl (zU rfl rfl (decide_eq_true hg14)) (za rfl rfl (zt rfl rfl) (za rfl rfl (zc rfl) (zi rfl rfl rfl rfl rfl (by decide) (zi rfl rfl rfl rfl rfl (by decide) (za rfl rfl (zr rfl rfl) (za rfl rfl (zd rfl) (zg rfl ?_))))))))))))))))))))))))
              exact PD.sub ((10, dB ((((decide ((97 : Int) ≤ r) && decide (r ≤ (122 : Int))) || (decide ((65 : Int) ≤ r) && decide (r ≤ (90 : Int)))) || decide (r = (95 : Int))) || decide ((128 : Int) ≤ r))) :: [(0, .v (.int .i32 r)), (2, dI 0)]) ⟨sc rfl (Cv.eq (congrArg (fun b => D.v (.bool b)) (by first | (simp [hg11, hg14, hg5]; done) | (simp_all; done)))), sk rfl, sk rfl, trivial⟩ hQ4
            · skip
              refine zb rfl (za rfl rfl (zc rfl) (za rfl rfl (z8 rfl rfl (decide_eq_false hg5)) (za rfl rfl (zc rfl) (zi rfl rfl rfl rfl rfl (by decide) (zi rfl rfl rfl rfl rfl (by decide) (za rfl rfl (zt rfl rfl) (za rfl rfl (zc rfl) (zh rfl rfl rfl rfl rfl (zc rfl) (zh rfl rfl rfl rfl rfl (z8 rfl rfl (decide_eq_false hg11)) (zh rfl rfl rfl rfl rfl (zc rfl) (zi rfl rfl rfl rfl rfl (by decide) (zi rfl rfl rfl rfl rfl (by decide) (zh rfl rfl rfl rfl rfl (zt rfl rfl) (za rfl rfl (zt rfl rfl) (za rfl rfl (zc rfl) (zh rfl rfl rfl rfl rfl (zc rfl) (zh rfl rfl rfl rfl rfl (zU rfl rfl (decide_eq_false hg14)) (za rfl rfl (zt rfl rfl) (za rfl rfl (zc rfl) (zh rfl rfl rfl rfl rfl (zc rfl) (zh rfl rfl rfl rfl rfl (z8 rfl rfl rfl) (za rfl rfl (zt rfl rfl) (za rfl rfl (zd rfl) (zg rfl ?_))))))))))))))))))))))))
              exact PD.sub ((10, dB ((((decide ((97 : Int) ≤ r) && decide (r ≤ (122 : Int))) || (decide ((65 : Int) ≤ r) && decide (r ≤ (90 : Int)))) || decide (r = (95 : Int))) || decide ((128 : Int) ≤ r))) :: [(0, .v (.int .i32 r)), (2, dI 0)]) ⟨sc rfl (Cv.eq (congrArg (fun b => D.v (.bool b)) (by first | (simp [hg11, hg14, hg5]; done) | (simp_all; done)))), sk rfl, sk rfl, trivial⟩ hQ4
      · skip
        refine ze ?_
        refine zl _ _ rfl rfl rfl rfl (fun hc15 => ?_) (fun hc15 => ?_)
        · simp only [Bool.and_eq_true, Bool.or_eq_true, Bool.not_eq_true', Bool.not_eq_false', Bool.and_eq_false_iff, Bool.or_eq_false_iff, decide_eq_true_eq, decide_eq_false_iff_not, Decidable.not_not, ne_eq] at hc15
          refine zf _ _ rfl rfl rfl (zb rfl (za rfl rfl (zd rfl) (zg rfl (ze (zu rfl (zn (zq ?_)))))))
          exact zk Tryz.results15 (.cons (zC (zo rfl) (Cv.eq (congrArg (fun n => D.v (.int .i64 n)) (by unfold zR; (repeat (any_goals split)) <;> omega)))) .nil) rfl HSub.none ⟨rfl, rfl⟩
        · simp only [Bool.and_eq_true, Bool.or_eq_true, Bool.not_eq_true', Bool.not_eq_false', Bool.and_eq_false_iff, Bool.or_eq_false_iff, decide_eq_true_eq, decide_eq_false_iff_not, Decidable.not_not, ne_eq] at hc15
          refine zf _ _ rfl rfl rfl (JD.keep [0, 2] [(0, .v (.int .i32 r)), (2, dI 0)] rfl ?_)
          refine zak 33 ((decide ((48 : Int) ≤ r) && decide (r ≤ (57 : Int)))) [] (fun _ hQ16 => ?_) ?_
          · skip
            by_cases hg17 : (48 : Int) ≤ r
            · skip
              refine zb rfl (za rfl rfl (zc rfl) (za rfl rfl (z8 rfl rfl (decide_eq_true hg17)) (za rfl rfl (zc rfl) (zh rfl rfl rfl rfl rfl (zc rfl) (zh rfl rfl rfl rfl rfl (zaG rfl rfl rfl) (za rfl rfl (zr rfl rfl) (za rfl rfl (zd rfl) (zg rfl ?_))))))))
              exact PD.sub ((33, dB (decide ((48 : Int) ≤ r) && decide (r ≤ (57 : Int)))) :: [(0, .v (.int .i32 r)), (2, dI 0)]) ⟨sc rfl (Cv.eq (congrArg (fun b => D.v (.bool b)) (by first | (simp [hg17]; done) | (simp_all; done)))), sk rfl, sk rfl, trivial⟩ hQ16
            · skip
              refine zb rfl (za rfl rfl (zc rfl) (za rfl rfl (z8 rfl rfl (decide_eq_false hg17)) (za rfl rfl (zc rfl) (zi rfl rfl rfl rfl rfl (by decide) (zi rfl rfl rfl rfl rfl (by decide) (za rfl rfl (zt rfl rfl) (za rfl rfl (zd rfl) (zg rfl ?_))))))))
              exact PD.sub ((33, dB (decide ((48 : Int) ≤ r) && decide (r ≤ (57 : Int)))) :: [(0, .v (.int .i32 r)), (2, dI 0)]) ⟨sc rfl (Cv.eq (congrArg (fun b => D.v (.bool b)) (by first | (simp [hg17]; done) | (simp_all; done)))), sk rfl, sk rfl, trivial⟩ hQ16
          · skip
            refine ze ?_
            refine zl _ _ rfl rfl rfl rfl (fun hc18 => ?_) (fun hc18 => ?_)
            · simp only [Bool.and_eq_true, Bool.or_eq_true, Bool.not_eq_true', Bool.not_eq_false', Bool.and_eq_false_iff, Bool.or_eq_false_iff, decide_eq_true_eq, decide_eq_false_iff_not, Decidable.not_not, ne_eq] at hc18
              refine zf _ _ rfl rfl rfl (zb rfl (za rfl rfl (zd rfl) (zg rfl (ze (zu rfl (zn (zq ?_)))))))
              exact zk Tryz.results15 (.cons (zC (zo rfl) (Cv.eq (congrArg (fun n => D.v (.int .i64 n)) (by unfold zR; (repeat (any_goals split)) <;> omega)))) .nil) rfl HSub.none ⟨rfl, rfl⟩
            · simp only [Bool.and_eq_true, Bool.or_eq_true, Bool.not_eq_true', Bool.not_eq_false', Bool.and_eq_false_iff, Bool.or_eq_false_iff, decide_eq_true_eq, decide_eq_false_iff_not, Decidable.not_not, ne_eq] at hc18
              refine zf _ _ rfl rfl rfl (JD.keep [0, 2] [(0, .v (.int .i32 r)), (2, dI 0)] rfl ?_)
              refine zak 40 (((decide (r = (32 : Int)) || decide (r = (9 : Int))) || decide (r = (10 : Int)))) [] (fun _ hQ19 => ?_) ?_
              · skip
                by_cases hg20 : r = (32 : Int)
                · skip
                  refine zb rfl (za rfl rfl (zc rfl) (za rfl rfl (zU rfl rfl (decide_eq_true hg20)) (za rfl rfl (zc rfl) (zi rfl rfl rfl rfl rfl (by decide) (zi rfl rfl rfl rfl rfl (by decide) (za rfl rfl (zr rfl rfl) (za rfl rfl (zc rfl) (zi rfl rfl rfl rfl rfl (by decide) (zi rfl rfl rfl rfl rfl (by decide) (za rfl rfl (zr rfl rfl) (za rfl rfl (zd rfl) (zg rfl ?_))))))))))))
                  exact PD.sub ((40, dB ((decide (r = (32 : Int)) || decide (r = (9 : Int))) || decide (r = (10 : Int)))) :: [(0, .v (.int .i32 r)), (2, dI 0)]) ⟨sc rfl (Cv.eq (congrArg (fun b => D.v (.bool b)) (by first | (simp [hg20]; done) | (simp_all; done)))), sk rfl, sk rfl, trivial⟩ hQ19
                · skip
                  by_cases hg21 : r = (9 : Int)
                  · skip
                    refine zb rfl (za rfl rfl (zc rfl) (za rfl rfl (zU rfl rfl (decide_eq_false hg20)) (za rfl rfl (zc rfl) (zh rfl rfl rfl rfl rfl (zc rfl) (zh rfl rfl rfl rfl rfl (zU rfl rfl (decide_eq_true hg21)) (za rfl rfl (zt rfl rfl) (za rfl rfl (zc rfl) (zi rfl rfl rfl rfl rfl (by decide) (zi rfl rfl rfl rfl rfl (by decide) (za rfl rfl (zr rfl rfl) (za rfl rfl (zd rfl) (zg rfl ?_))))))))))))
                    exact PD.sub ((40, dB ((decide (r = (32 : Int)) || decide (r = (9 : Int))) || decide (r = (10 : Int)))) :: [(0, .v (.int .i32 r)), (2, dI 0)]) ⟨sc rfl (Cv.eq (congrArg (fun b => D.v (.bool b)) (by first | (simp [hg20, hg21]; done) | (simp_all; done)))), sk rfl, sk rfl, trivial⟩ hQ19
                  · skip
                    refine zb rfl (za rfl rfl (zc rfl) (za rfl rfl (zU rfl rfl (decide_eq_false hg20)) (za rfl rfl (zc rfl) (zh rfl rfl rfl rfl rfl (zc rfl) (zh rfl rfl rfl rfl rfl (zU rfl rfl (decide_eq_false hg21)) (za rfl rfl (zt rfl rfl) (za rfl rfl (zc rfl) (zh rfl rfl rfl rfl rfl (zc rfl) (zh rfl rfl rfl rfl rfl (zU rfl rfl rfl) (za rfl rfl (zt rfl rfl) (za rfl rfl (zd rfl) (zg rfl ?_))))))))))))
                    exact PD.sub ((40, dB ((decide (r = (32 : Int)) || decide (r = (9 : Int))) || decide (r = (10 : Int)))) :: [(0, .v (.int .i32 r)), (2, dI 0)]) ⟨sc rfl (Cv.eq (congrArg (fun b => D.v (.bool b)) (by first | (simp [hg20, hg21]; done) | (simp_all; done)))), sk rfl, sk rfl, trivial⟩ hQ19
              · skip
                refine ze ?_
                refine zl _ _ rfl rfl rfl rfl (fun hc22 => ?_) (fun hc22 => ?_)
                · simp only [Bool.and_eq_true, Bool.or_eq_true, Bool.not_eq_true', Bool.not_eq_false', Bool.and_eq_false_iff, Bool.or_eq_false_iff, decide_eq_true_eq, decide_eq_false_iff_not, Decidable.not_not, ne_eq] at hc22
                  refine zf _ _ rfl rfl rfl (zb rfl (za rfl rfl (zd rfl) (zg rfl (ze (zu rfl (zn (zq ?_)))))))
                  exact zk Tryz.results15 (.cons (zC (zo rfl) (Cv.eq (congrArg (fun n => D.v (.int .i64 n)) (by unfold zR; (repeat (any_goals split)) <;> omega)))) .nil) rfl HSub.none ⟨rfl, rfl⟩
                · simp only [Bool.and_eq_true, Bool.or_eq_true, Bool.not_eq_true', Bool.not_eq_false', Bool.and_eq_false_iff, Bool.or_eq_false_iff, decide_eq_true_eq, decide_eq_false_iff_not, Decidable.not_not, ne_eq] at hc22
                  refine zy rfl (zG (ze (zf _ _ rfl rfl rfl (zb rfl (za rfl rfl (zd rfl) (zg rfl (ze (zu rfl ?_))))))))
                  exact zk Tryz.results15 (.cons (zC (zo rfl) (Cv.eq (congrArg (fun n => D.v (.int .i64 n)) (by unfold zR; (repeat (any_goals split)) <;> omega)))) .nil) rfl HSub.none ⟨rfl, rfl⟩

set_option maxHeartbeats 4000000 in
set_option maxRecDepth 100000 in
theorem Name_c (s : ByteArray)  :
    CD Tryz.prog 91 [] [.s s] (isR (dB (zcT s))) := by
  refine zH Tryz.func91 rfl (N := 32) rfl rfl (fun C => ?_)
  refine JD.keep [0] [(0, .s s)] rfl ?_
  refine JD.bd 0 rfl (fun bd0 => ?_)
  have sz0 : s.size ≤ 9223372036854775807 := bd0
  refine zf _ _ rfl rfl rfl (zb rfl (za rfl rfl (zd rfl) (zg rfl (ze (zf _ _ rfl rfl rfl (zb rfl (za rfl rfl (zd rfl) (zg rfl (ze (zf _ _ rfl rfl rfl (zf _ _ rfl rfl rfl (zb rfl (za rfl rfl (zc rfl) (zj rfl rfl (zbH rfl Tryz.runUnderlying9) ?_))))))))))))))
  rintro _ _ ⟨g1, rfl, rfl⟩
  refine zg rfl (ze (zB _ rfl rfl (zS (fun (g : Nat × Nat) => [(8, dP g1 0), (3, dN g.2)]) (fun (g : Nat × Nat) => [.it g1 s g.1]) (fun (g : Nat × Nat) => (g.1 ≤ s.size) ∧ (g.2 ≤ g.1) ∧ (zbY 0 (zaC s) = zbY g.2 (zbp s g.1))) (fun (g : Nat × Nat) => s.size - g.1) _ (0, 0) rfl rfl ⟨sk rfl, sk rfl, trivial⟩ HSub.rfl' ⟨Nat.zero_le _, Nat.le_refl _, rfl⟩ ?_)))
  rintro ⟨p, n⟩ ⟨hp, hn, hf⟩
  replace hp : p ≤ s.size := hp
  replace hn : n ≤ p := hn
  replace hf : zbY 0 (zaC s) = zbY n (zbp s p) := hf
  refine JD.keep [8, 3] [(8, dP g1 0), (3, dN n)] rfl (JD.norm [.it g1 s p] rfl ?_)
  rcases Nat.lt_or_ge p s.size with hlt | hge
  · skip
    have hrune := zaQ hlt
    have hrl := zbu s p
    have hdw := zan s p hlt
    have hdp := zY s p
    refine zf _ _ rfl rfl rfl (zb rfl (zj rfl rfl (zba (i := 0) rfl rfl hlt) ?_))
    rintro _ _ ⟨rfl, rfl⟩
    refine OpsD.norm [.it g1 s (p + decW s p)] rfl (za rfl rfl (zJ rfl rfl) (zg rfl (ze (zf _ _ rfl rfl rfl (zaB _ rfl rfl rfl (zy rfl (ze (zB _ rfl rfl (zf _ _ rfl rfl rfl (zb rfl (za rfl rfl (zJ rfl rfl) (za rfl rfl (zd rfl) (zg rfl (ze (zf _ _ rfl rfl rfl (zf _ _ rfl rfl rfl (zb rfl (za rfl rfl (zc rfl) (zj rfl rfl (zx [] _ [] rfl rfl (.cons ArgC.id .nil) zp Tryz.call61 (Kind_c ((decR s p : Nat) : Int)) (.inl rfl)) ?_)))))))))))))))))))
    rintro _ _ ⟨_, ⟨rfl, rfl⟩, rfl⟩
    refine OpsD.norm [.it g1 s (p + decW s p)] rfl (za rfl rfl (zd rfl) (zg rfl (ze (zf _ _ rfl rfl rfl (JD.keep [3, 5, 6, 8, 9, 10, 11, 12, 13] [(3, dN n), (5, .v (.int .i32 ((decR s p : Nat) : Int))), (6, dI (zR ((decR s p : Nat) : Int))), (8, dP g1 0), (9, .tup [dB true, dN p, .v (.int .i32 ((decR s p : Nat) : Int))]), (10, dB true), (11, .v (.int .i32 ((decR s p : Nat) : Int))), (12, .v (.int .i32 ((decR s p : Nat) : Int))), (13, dI (zR ((decR s p : Nat) : Int)))] rfl ?_)))))
    refine zak 23 ((decide (zR ((decR s p : Nat) : Int) ≠ (1 : Int)) && (decide (zR ((decR s p : Nat) : Int) ≠ (2 : Int)) || decide (((n : Nat) : Int) = (0 : Int))))) [.it g1 s (p + decW s p)] (fun _ hQ2 => ?_) ?_
    · skip
      by_cases hg3 : zR ((decR s p : Nat) : Int) ≠ (1 : Int)
      · skip
        by_cases hg4 : zR ((decR s p : Nat) : Int) ≠ (2 : Int)
        · skip
          refine zb rfl (za rfl rfl (zc rfl) (za rfl rfl (zcd rfl rfl (decide_eq_true hg3)) (za rfl rfl (zc rfl) (zh rfl rfl rfl rfl rfl (zc rfl) (zh rfl rfl rfl rfl rfl (zcd rfl rfl (decide_eq_true hg4)) (zh rfl rfl rfl rfl rfl (zc rfl) (zi rfl rfl rfl rfl rfl (by decide) (zi rfl rfl rfl rfl rfl (by decide) (zh rfl rfl rfl rfl rfl (zr rfl rfl) (za rfl rfl (zr rfl rfl) (zg rfl ?_)))))))))))
          exact PD.sub ((23, dB (decide (zR ((decR s p : Nat) : Int) ≠ (1 : Int)) && (decide (zR ((decR s p : Nat) : Int) ≠ (2 : Int)) || decide (((n : Nat) : Int) = (0 : Int))))) :: [(3, dN n), (5, .v (.int .i32 ((decR s p : Nat) : Int))), (6, dI (zR ((decR s p : Nat) : Int))), (8, dP g1 0), (9, .tup [dB true, dN p, .v (.int .i32 ((decR s p : Nat) : Int))]), (10, dB true), (11, .v (.int .i32 ((decR s p : Nat) : Int))), (12, .v (.int .i32 ((decR s p : Nat) : Int))), (13, dI (zR ((decR s p : Nat) : Int)))]) ⟨sc rfl (Cv.eq (congrArg (fun b => D.v (.bool b)) (by first | (simp [hg3, hg4]; done) | (simp_all; done)))), sk rfl, sk rfl, sk rfl, sk rfl, sk rfl, sk rfl, sk rfl, sk rfl, sk rfl, trivial⟩ hQ2
        · skip
          refine zb rfl (za rfl rfl (zc rfl) (za rfl rfl (zcd rfl rfl (decide_eq_true hg3)) (za rfl rfl (zc rfl) (zh rfl rfl rfl rfl rfl (zc rfl) (zh rfl rfl rfl rfl rfl (zcd rfl rfl (decide_eq_false hg4)) (zh rfl rfl rfl rfl rfl (zc rfl) (zh rfl rfl rfl rfl rfl (zc rfl) (zh rfl rfl rfl rfl rfl (zU rfl rfl rfl) (zh rfl rfl rfl rfl rfl (zt rfl rfl) (za rfl rfl (zr rfl rfl) (zg rfl ?_)))))))))))
          exact PD.sub ((23, dB (decide (zR ((decR s p : Nat) : Int) ≠ (1 : Int)) && (decide (zR ((decR s p : Nat) : Int) ≠ (2 : Int)) || decide (((n : Nat) : Int) = (0 : Int))))) :: [(3, dN n), (5, .v (.int .i32 ((decR s p : Nat) : Int))), (6, dI (zR ((decR s p : Nat) : Int))), (8, dP g1 0), (9, .tup [dB true, dN p, .v (.int .i32 ((decR s p : Nat) : Int))]), (10, dB true), (11, .v (.int .i32 ((decR s p : Nat) : Int))), (12, .v (.int .i32 ((decR s p : Nat) : Int))), (13, dI (zR ((decR s p : Nat) : Int)))]) ⟨sc rfl (Cv.eq (congrArg (fun b => D.v (.bool b)) (by first | (simp [hg3, hg4]; done) | (simp_all; done)))), sk rfl, sk rfl, sk rfl, sk rfl, sk rfl, sk rfl, sk rfl, sk rfl, sk rfl, trivial⟩ hQ2
      · skip
        refine zb rfl (za rfl rfl (zc rfl) (za rfl rfl (zcd rfl rfl (decide_eq_false hg3)) (za rfl rfl (zc rfl) (zi rfl rfl rfl rfl rfl (by decide) (zi rfl rfl rfl rfl rfl (by decide) (zi rfl rfl rfl rfl rfl (by decide) (zi rfl rfl rfl rfl rfl (by decide) (zi rfl rfl rfl rfl rfl (by decide) (zi rfl rfl rfl rfl rfl (by decide) (za rfl rfl (zt rfl rfl) (zg rfl ?_)))))))))))
        exact PD.sub ((23, dB (decide (zR ((decR s p : Nat) : Int) ≠ (1 : Int)) && (decide (zR ((decR s p : Nat) : Int) ≠ (2 : Int)) || decide (((n : Nat) : Int) = (0 : Int))))) :: [(3, dN n), (5, .v (.int .i32 ((decR s p : Nat) : Int))), (6, dI (zR ((decR s p : Nat) : Int))), (8, dP g1 0), (9, .tup [dB true, dN p, .v (.int .i32 ((decR s p : Nat) : Int))]), (10, dB true), (11, .v (.int .i32 ((decR s p : Nat) : Int))), (12, .v (.int .i32 ((decR s p : Nat) : Int))), (13, dI (zR ((decR s p : Nat) : Int)))]) ⟨sc rfl (Cv.eq (congrArg (fun b => D.v (.bool b)) (by first | (simp [hg3]; done) | (simp_all; done)))), sk rfl, sk rfl, sk rfl, sk rfl, sk rfl, sk rfl, sk rfl, sk rfl, sk rfl, trivial⟩ hQ2
    · skip
      refine ze ?_
      refine zl _ _ rfl rfl rfl rfl (fun hc5 => ?_) (fun hc5 => ?_)
      · simp only [Bool.and_eq_true, Bool.or_eq_true, Bool.not_eq_true', Bool.not_eq_false', Bool.and_eq_false_iff, Bool.or_eq_false_iff, decide_eq_true_eq, decide_eq_false_iff_not, Decidable.not_not, ne_eq] at hc5
        refine zf _ _ rfl rfl rfl (zb rfl (za rfl rfl (zd rfl) (zg rfl (ze (zu rfl (zq (zn (zam (zn (zq ?_))))))))))
        exact zk Tryz.results91 (.cons (zC (zo rfl) (Cv.eq (congrArg (fun b => D.v (.bool b)) (by unfold zcT; rw [hf, hrune]; rw [nameR_bad (by omega)])))) .nil) rfl HSub.none ⟨rfl, rfl⟩
      · simp only [Bool.and_eq_true, Bool.or_eq_true, Bool.not_eq_true', Bool.not_eq_false', Bool.and_eq_false_iff, Bool.or_eq_false_iff, decide_eq_true_eq, decide_eq_false_iff_not, Decidable.not_not, ne_eq] at hc5
        refine zy rfl (ze (zb rfl (za rfl rfl (zc rfl) (za rfl rfl (z7 (c := ((n + 1 : Nat) : Int)) rfl rfl (zX (by omega) (by omega))) (za rfl rfl (zd rfl) (zg rfl (zG ?_)))))))
        exact zZ (p + decW s p, n + 1) ⟨sk rfl, sk rfl, trivial⟩ HSub.rfl' ⟨by have := zan s p hlt; omega, by omega, by rw [hf, hrune, nameR_next (by omega)]⟩ (by have := zY s p; omega)
  · skip
    have hrune := zaZ hge
    refine zf _ _ rfl rfl rfl (zb rfl (za rfl rfl (zbD (i := 0) rfl rfl hge) (za rfl rfl (zJ rfl rfl) (zg rfl (ze (zf _ _ rfl rfl rfl (zah _ rfl rfl rfl (zO rfl (zD (zz (zw (ze (zf _ _ rfl rfl rfl (JD.keep [3] [(3, dN n)] rfl ?_))))))))))))))
    refine zak 2 ((decide ((1 : Int) ≤ ((n : Nat) : Int)) && decide (((n : Nat) : Int) ≤ (30 : Int)))) [.it g1 s p] (fun _ hQ6 => ?_) ?_
    · skip
      by_cases hg7 : (1 : Int) ≤ ((n : Nat) : Int)
      · skip
        refine zb rfl (za rfl rfl (zc rfl) (za rfl rfl (z8 rfl rfl (decide_eq_true hg7)) (za rfl rfl (zc rfl) (zh rfl rfl rfl rfl rfl (zc rfl) (zh rfl rfl rfl rfl rfl (zaG rfl rfl rfl) (za rfl rfl (zr rfl rfl) (za rfl rfl (zd rfl) (zg rfl ?_))))))))
        exact PD.sub ((2, dB (decide ((1 : Int) ≤ ((n : Nat) : Int)) && decide (((n : Nat) : Int) ≤ (30 : Int)))) :: [(3, dN n)]) ⟨sc rfl (Cv.eq (congrArg (fun b => D.v (.bool b)) (by first | (simp [hg7]; done) | (simp_all; done)))), sk rfl, trivial⟩ hQ6
      · skip
        refine zb rfl (za rfl rfl (zc rfl) (za rfl rfl (z8 rfl rfl (decide_eq_false hg7)) (za rfl rfl (zc rfl) (zi rfl rfl rfl rfl rfl (by decide) (zi rfl rfl rfl rfl rfl (by decide) (za rfl rfl (zt rfl rfl) (za rfl rfl (zd rfl) (zg rfl ?_))))))))
        exact PD.sub ((2, dB (decide ((1 : Int) ≤ ((n : Nat) : Int)) && decide (((n : Nat) : Int) ≤ (30 : Int)))) :: [(3, dN n)]) ⟨sc rfl (Cv.eq (congrArg (fun b => D.v (.bool b)) (by first | (simp [hg7]; done) | (simp_all; done)))), sk rfl, trivial⟩ hQ6
    · skip
      refine ze (zu rfl ?_)
      exact zk Tryz.results91 (.cons (zC (zo rfl) (Cv.eq (congrArg (fun b => D.v (.bool b)) (by unfold zcT; rw [hf, hrune]; simp only [zbY]; congr 1 <;> exact decide_eq_decide.2 (by omega))))) .nil) rfl HSub.none ⟨rfl, rfl⟩
end Lp
