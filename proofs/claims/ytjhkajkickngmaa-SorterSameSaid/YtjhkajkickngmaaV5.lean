/- Walks, printed by a program of mine (wip/tools/dw.py): each theorem says what a function of the translation hands back. -/
import Derived.Test.YtjhkajkickngmaaV20
set_option linter.unusedSimpArgs false
set_option linter.unusedVariables false
namespace Lp
open Go Go.RowKit Go.Proofs

namespace HdV5
theorem infz_21 : ∃ i, Try.prog.info? 21 = some i ∧ i.zero = some (.int .i32 0) ∧ i.size = 1 ∧ i.bytes = 4 := infz_of (by kernel_rfl)
theorem und_131 : Try.prog.underlying 131 = some (.slice 21) := by kernel_rfl
end HdV5
open HdV5

set_option maxHeartbeats 4000000 in
set_option maxRecDepth 100000 in
theorem refKind_c (r : Int)  :
    CD Try.prog 152 [] [.v (.int .i32 r)] (isR (dI (kindR r))) := by
  refine cd_of_JD Try.func152 rfl (N := 51) rfl rfl (fun C => ?_)
  refine JD.keep [0] [(0, .v (.int .i32 r))] rfl (jd_seq [F'] [T'] rfl rfl rfl (jd_region rfl (od_pu rfl rfl (p_assign rfl) (od_nil rfl (pd_seq (jd_seq [T', F'] [T', T'] rfl rfl rfl (jd_block [T', F', F'] rfl rfl (jd_seq [T', F', F', F'] [T', F', F', T'] rfl rfl rfl (JD.keep [0, 2] [(0, .v (.int .i32 r)), (2, dI 0)] rfl ?_)))))))))
  refine jd_sum 3 ((decide (r < (0 : Int)) || decide (r = (65533 : Int)))) [] (fun _ hQ1 => ?_) ?_
  · skip
    by_cases hg2 : r < (0 : Int)
    · skip
      refine jd_region rfl (od_pu rfl rfl (p_move rfl) (od_pu rfl rfl (p_lss rfl rfl (decide_eq_true hg2)) (od_pu rfl rfl (p_move rfl) (od_skip rfl rfl rfl rfl rfl (by decide) (od_skip rfl rfl rfl rfl rfl (by decide) (od_pu rfl rfl (p_pick_t rfl rfl) (od_pu rfl rfl (p_assign rfl) (od_nil rfl ?_))))))))
      exact PD.sub ((3, dB (decide (r < (0 : Int)) || decide (r = (65533 : Int)))) :: [(0, .v (.int .i32 r)), (2, dI 0)]) ⟨sc rfl (Cv.eq (congrArg (fun b => D.v (.bool b)) (by first | (simp [hg2]; done) | (simp_all; done)))), sk rfl, sk rfl, trivial⟩ hQ1
    · skip
      refine jd_region rfl (od_pu rfl rfl (p_move rfl) (od_pu rfl rfl (p_lss rfl rfl (decide_eq_false hg2)) (od_pu rfl rfl (p_move rfl) (od_runp rfl rfl rfl rfl rfl (p_move rfl) (od_runp rfl rfl rfl rfl rfl (p_eql rfl rfl rfl) (od_pu rfl rfl (p_pick_f rfl rfl) (od_pu rfl rfl (p_assign rfl) (od_nil rfl ?_))))))))
      exact PD.sub ((3, dB (decide (r < (0 : Int)) || decide (r = (65533 : Int)))) :: [(0, .v (.int .i32 r)), (2, dI 0)]) ⟨sc rfl (Cv.eq (congrArg (fun b => D.v (.bool b)) (by first | (simp [hg2]; done) | (simp_all; done)))), sk rfl, sk rfl, trivial⟩ hQ1
  · skip
    refine pd_seq ?_
    refine jd_cond [T', F', F', T', F'] [T', F', F', T', T'] rfl rfl rfl rfl (fun hc3 => ?_) (fun hc3 => ?_)
    · simp only [Bool.and_eq_true, Bool.or_eq_true, Bool.not_eq_true', Bool.not_eq_false', Bool.and_eq_false_iff, Bool.or_eq_false_iff, decide_eq_true_eq, decide_eq_false_iff_not, Decidable.not_not, ne_eq] at hc3
      refine jd_seq [T', F', F', T', F', F'] [T', F', F', T', F', T'] rfl rfl rfl (jd_region rfl (od_pu rfl rfl (p_assign rfl) (od_nil rfl (pd_seq (jd_ret rfl (pd_block_ret (pd_seq_ret ?_)))))))
      exact pd_retH Try.results152 (.cons (ro_cv (ro_tmp rfl) (Cv.eq (congrArg (fun n => D.v (.int .i64 n)) (by unfold kindR; (repeat (any_goals split)) <;> omega)))) .nil) rfl HSub.none ⟨rfl, rfl⟩
    · simp only [Bool.and_eq_true, Bool.or_eq_true, Bool.not_eq_true', Bool.not_eq_false', Bool.and_eq_false_iff, Bool.or_eq_false_iff, decide_eq_true_eq, decide_eq_false_iff_not, Decidable.not_not, ne_eq] at hc3
      refine jd_seq [T', F', F', T', T', F'] [T', F', F', T', T', T'] rfl rfl rfl (JD.keep [0, 2] [(0, .v (.int .i32 r)), (2, dI 0)] rfl ?_)
      refine jd_sum 10 (((((decide ((97 : Int) ≤ r) && decide (r ≤ (122 : Int))) || (decide ((65 : Int) ≤ r) && decide (r ≤ (90 : Int)))) || decide (r = (95 : Int))) || decide ((128 : Int) ≤ r))) [] (fun _ hQ4 => ?_) ?_
      · skip
        by_cases hg5 : (97 : Int) ≤ r
        · skip
          by_cases hg6 : r ≤ (122 : Int)
          · skip
            refine jd_region rfl (od_pu rfl rfl (p_move rfl) (od_pu rfl rfl (p_geq rfl rfl (decide_eq_true hg5)) (od_pu rfl rfl (p_move rfl) (od_runp rfl rfl rfl rfl rfl (p_move rfl) (od_runp rfl rfl rfl rfl rfl (p_leq rfl rfl (decide_eq_true hg6)) (od_pu rfl rfl (p_pick_t rfl rfl) (od_pu rfl rfl (p_move rfl) (od_skip rfl rfl rfl rfl rfl (by decide) (od_skip rfl rfl rfl rfl rfl (by decide) (od_skip rfl rfl rfl rfl rfl (by decide) (od_skip rfl rfl rfl rfl rfl (by decide) (od_skip rfl rfl rfl rfl rfl (by decide) (od_skip rfl rfl rfl rfl rfl (by decide) (od_pu rfl rfl (p_pick_t rfl rfl) (od_pu rfl rfl (p_move rfl) (od_skip rfl rfl rfl rfl rfl (by decide) (od_skip rfl rfl rfl rfl rfl (by decide) (od_pu rfl rfl (p_pick_t rfl rfl) (od_pu rfl rfl (p_move rfl) (od_skip rfl rfl rfl rfl rfl (by decide) (od_skip rfl rfl rfl rfl rfl (by decide) (od_pu rfl rfl (p_pick_t rfl rfl) (od_pu rfl rfl (p_assign rfl) (od_nil rfl ?_))))))))))))))))))))))))
            exact PD.sub ((10, dB ((((decide ((97 : Int) ≤ r) && decide (r ≤ (122 : Int))) || (decide ((65 : Int) ≤ r) && decide (r ≤ (90 : Int)))) || decide (r = (95 : Int))) || decide ((128 : Int) ≤ r))) :: [(0, .v (.int .i32 r)), (2, dI 0)]) ⟨sc rfl (Cv.eq (congrArg (fun b => D.v (.bool b)) (by first | (simp [hg5, hg6]; done) | (simp_all; done)))), sk rfl, sk rfl, trivial⟩ hQ4
          · skip
            by_cases hg7 : (65 : Int) ≤ r
            · skip
              by_cases hg8 : r ≤ (90 : Int)
              · skip
                refine jd_region rfl (od_pu rfl rfl (p_move rfl) (od_pu rfl rfl (p_geq rfl rfl (decide_eq_true hg5)) (od_pu rfl rfl (p_move rfl) (od_runp rfl rfl rfl rfl rfl (p_move rfl) (od_runp rfl rfl rfl rfl rfl (p_leq rfl rfl (decide_eq_false hg6)) (od_pu rfl rfl (p_pick_t rfl rfl) (od_pu rfl rfl (p_move rfl) (od_runp rfl rfl rfl rfl rfl (p_move rfl) (od_runp rfl rfl rfl rfl rfl (p_geq rfl rfl (decide_eq_true hg7)) (od_runp rfl rfl rfl rfl rfl (p_move rfl) (od_runp rfl rfl rfl rfl rfl (p_move rfl) (od_runp rfl rfl rfl rfl rfl (p_leq rfl rfl (decide_eq_true hg8)) (od_runp rfl rfl rfl rfl rfl (p_pick_t rfl rfl) (od_pu rfl rfl (p_pick_f rfl rfl) (od_pu rfl rfl (p_move rfl) (od_skip rfl rfl rfl rfl rfl (by decide) (od_skip rfl rfl rfl rfl rfl (by decide) (od_pu rfl rfl (p_pick_t rfl rfl) (od_pu rfl rfl (p_move rfl) (od_skip rfl rfl rfl rfl rfl (by decide) (od_skip rfl rfl rfl rfl rfl (by decide) (od_pu rfl rfl (p_pick_t rfl rfl) (od_pu rfl rfl (p_assign rfl) (od_nil rfl ?_))))))))))))))))))))))))
                exact PD.sub ((10, dB ((((decide ((97 : Int) ≤ r) && decide (r ≤ (122 : Int))) || (decide ((65 : Int) ≤ r) && decide (r ≤ (90 : Int)))) || decide (r = (95 : Int))) || decide ((128 : Int) ≤ r))) :: [(0, .v (.int .i32 r)), (2, dI 0)]) ⟨sc rfl (Cv.eq (congrArg (fun b => D.v (.bool b)) (by first | (simp [hg5, hg6, hg7, hg8]; done) | (simp_all; done)))), sk rfl, sk rfl, trivial⟩ hQ4
              · skip
                by_cases hg9 : r = (95 : Int)
                · skip
                  refine jd_region rfl (od_pu rfl rfl (p_move rfl) (od_pu rfl rfl (p_geq rfl rfl (decide_eq_true hg5)) (od_pu rfl rfl (p_move rfl) (od_runp rfl rfl rfl rfl rfl (p_move rfl) (od_runp rfl rfl rfl rfl rfl (p_leq rfl rfl (decide_eq_false hg6)) (od_pu rfl rfl (p_pick_t rfl rfl) (od_pu rfl rfl (p_move rfl) (od_runp rfl rfl rfl rfl rfl (p_move rfl) (od_runp rfl rfl rfl rfl rfl (p_geq rfl rfl (decide_eq_true hg7)) (od_runp rfl rfl rfl rfl rfl (p_move rfl) (od_runp rfl rfl rfl rfl rfl (p_move rfl) (od_runp rfl rfl rfl rfl rfl (p_leq rfl rfl (decide_eq_false hg8)) (od_runp rfl rfl rfl rfl rfl (p_pick_t rfl rfl) (od_pu rfl rfl (p_pick_f rfl rfl) (od_pu rfl rfl (p_move rfl) (od_runp rfl rfl rfl rfl rfl (p_move rfl) (od_runp rfl rfl rfl rfl rfl (p_eql rfl rfl (decide_eq_true hg9)) (od_pu rfl rfl (p_pick_f rfl rfl) (od_pu rfl rfl (p_move rfl) (od_skip rfl rfl rfl rfl rfl (by decide) (od_skip rfl rfl rfl rfl rfl (by decide) (od_pu rfl rfl (p_pick_t rfl rfl) (od_pu rfl rfl (p_assign rfl) (od_nil rfl ?_))))))))))))))))))))))))
                  exact PD.sub ((10, dB ((((decide ((97 : Int) ≤ r) && decide (r ≤ (122 : Int))) || (decide ((65 : Int) ≤ r) && decide (r ≤ (90 : Int)))) || decide (r = (95 : Int))) || decide ((128 : Int) ≤ r))) :: [(0, .v (.int .i32 r)), (2, dI 0)]) ⟨sc rfl (Cv.eq (congrArg (fun b => D.v (.bool b)) (by first | (simp [hg5, hg6, hg7, hg8, hg9]; done) | (simp_all; done)))), sk rfl, sk rfl, trivial⟩ hQ4
                · skip
                  refine jd_region rfl (od_pu rfl rfl (p_move rfl) (od_pu rfl rfl (p_geq rfl rfl (decide_eq_true hg5)) (od_pu rfl rfl (p_move rfl) (od_runp rfl rfl rfl rfl rfl (p_move rfl) (od_runp rfl rfl rfl rfl rfl (p_leq rfl rfl (decide_eq_false hg6)) (od_pu rfl rfl (p_pick_t rfl rfl) (od_pu rfl rfl (p_move rfl) (od_runp rfl rfl rfl rfl rfl (p_move rfl) (od_runp rfl rfl rfl rfl rfl (p_geq rfl rfl (decide_eq_true hg7)) (od_runp rfl rfl rfl rfl rfl (p_move rfl) (od_runp rfl rfl rfl rfl rfl (p_move rfl) (od_runp rfl rfl rfl rfl rfl (p_leq rfl rfl (decide_eq_false hg8)) (od_runp rfl rfl rfl rfl rfl (p_pick_t rfl rfl) (od_pu rfl rfl (p_pick_f rfl rfl) (od_pu rfl rfl (p_move rfl) (od_runp rfl rfl rfl rfl rfl (p_move rfl) (od_runp rfl rfl rfl rfl rfl (p_eql rfl rfl (decide_eq_false hg9)) (od_pu rfl rfl (p_pick_f rfl rfl) (od_pu rfl rfl (p_move rfl) (od_runp rfl rfl rfl rfl rfl (p_move rfl) (od_runp rfl rfl rfl rfl rfl (p_geq rfl rfl rfl) (od_pu rfl rfl (p_pick_f rfl rfl) (od_pu rfl rfl (p_assign rfl) (od_nil rfl ?_))))))))))))))))))))))))
                  exact PD.sub ((10, dB ((((decide ((97 : Int) ≤ r) && decide (r ≤ (122 : Int))) || (decide ((65 : Int) ≤ r) && decide (r ≤ (90 : Int)))) || decide (r = (95 : Int))) || decide ((128 : Int) ≤ r))) :: [(0, .v (.int .i32 r)), (2, dI 0)]) ⟨sc rfl (Cv.eq (congrArg (fun b => D.v (.bool b)) (by first | (simp [hg5, hg6, hg7, hg8, hg9]; done) | (simp_all; done)))), sk rfl, sk rfl, trivial⟩ hQ4
            · skip
              by_cases hg10 : r = (95 : Int)
              · skip
                refine jd_region rfl (od_pu rfl rfl (p_move rfl) (od_pu rfl rfl (p_geq rfl rfl (decide_eq_true hg5)) (od_pu rfl rfl (p_move rfl) (od_runp rfl rfl rfl rfl rfl (p_move rfl) (od_runp rfl rfl rfl rfl rfl (p_leq rfl rfl (decide_eq_false hg6)) (od_pu rfl rfl (p_pick_t rfl rfl) (od_pu rfl rfl (p_move rfl) (od_runp rfl rfl rfl rfl rfl (p_move rfl) (od_runp rfl rfl rfl rfl rfl (p_geq rfl rfl (decide_eq_false hg7)) (od_runp rfl rfl rfl rfl rfl (p_move rfl) (od_skip rfl rfl rfl rfl rfl (by decide) (od_skip rfl rfl rfl rfl rfl (by decide) (od_runp rfl rfl rfl rfl rfl (p_pick_f rfl rfl) (od_pu rfl rfl (p_pick_f rfl rfl) (od_pu rfl rfl (p_move rfl) (od_runp rfl rfl rfl rfl rfl (p_move rfl) (od_runp rfl rfl rfl rfl rfl (p_eql rfl rfl (decide_eq_true hg10)) (od_pu rfl rfl (p_pick_f rfl rfl) (od_pu rfl rfl (p_move rfl) (od_skip rfl rfl rfl rfl rfl (by decide) (od_skip rfl rfl rfl rfl rfl (by decide) (od_pu rfl rfl (p_pick_t rfl rfl) (od_pu rfl rfl (p_assign rfl) (od_nil rfl ?_))))))))))))))))))))))))
                exact PD.sub ((10, dB ((((decide ((97 : Int) ≤ r) && decide (r ≤ (122 : Int))) || (decide ((65 : Int) ≤ r) && decide (r ≤ (90 : Int)))) || decide (r = (95 : Int))) || decide ((128 : Int) ≤ r))) :: [(0, .v (.int .i32 r)), (2, dI 0)]) ⟨sc rfl (Cv.eq (congrArg (fun b => D.v (.bool b)) (by first | (simp [hg10, hg5, hg6, hg7]; done) | (simp_all; done)))), sk rfl, sk rfl, trivial⟩ hQ4
              · skip
                refine jd_region rfl (od_pu rfl rfl (p_move rfl) (od_pu rfl rfl (p_geq rfl rfl (decide_eq_true hg5)) (od_pu rfl rfl (p_move rfl) (od_runp rfl rfl rfl rfl rfl (p_move rfl) (od_runp rfl rfl rfl rfl rfl (p_leq rfl rfl (decide_eq_false hg6)) (od_pu rfl rfl (p_pick_t rfl rfl) (od_pu rfl rfl (p_move rfl) (od_runp rfl rfl rfl rfl rfl (p_move rfl) (od_runp rfl rfl rfl rfl rfl (p_geq rfl rfl (decide_eq_false hg7)) (od_runp rfl rfl rfl rfl rfl (p_move rfl) (od_skip rfl rfl rfl rfl rfl (by decide) (od_skip rfl rfl rfl rfl rfl (by decide) (od_runp rfl rfl rfl rfl rfl (p_pick_f rfl rfl) (od_pu rfl rfl (p_pick_f rfl rfl) (od_pu rfl rfl (p_move rfl) (od_runp rfl rfl rfl rfl rfl (p_move rfl) (od_runp rfl rfl rfl rfl rfl (p_eql rfl rfl (decide_eq_false hg10)) (od_pu rfl rfl (p_pick_f rfl rfl) (od_pu rfl rfl (p_move rfl) (od_runp rfl rfl rfl rfl rfl (p_move rfl) (od_runp rfl rfl rfl rfl rfl (p_geq rfl rfl rfl) (od_pu rfl rfl (p_pick_f rfl rfl) (od_pu rfl rfl (p_assign rfl) (od_nil rfl ?_))))))))))))))))))))))))
                exact PD.sub ((10, dB ((((decide ((97 : Int) ≤ r) && decide (r ≤ (122 : Int))) || (decide ((65 : Int) ≤ r) && decide (r ≤ (90 : Int)))) || decide (r = (95 : Int))) || decide ((128 : Int) ≤ r))) :: [(0, .v (.int .i32 r)), (2, dI 0)]) ⟨sc rfl (Cv.eq (congrArg (fun b => D.v (.bool b)) (by first | (simp [hg10, hg5, hg6, hg7]; done) | (simp_all; done)))), sk rfl, sk rfl, trivial⟩ hQ4
        · skip
          by_cases hg11 : (65 : Int) ≤ r
          · skip
            by_cases hg12 : r ≤ (90 : Int)
            · skip
              refine jd_region rfl (od_pu rfl rfl (p_move rfl) (od_pu rfl rfl (p_geq rfl rfl (decide_eq_false hg5)) (od_pu rfl rfl (p_move rfl) (od_skip rfl rfl rfl rfl rfl (by decide) (od_skip rfl rfl rfl rfl rfl (by decide) (od_pu rfl rfl (p_pick_f rfl rfl) (od_pu rfl rfl (p_move rfl) (od_runp rfl rfl rfl rfl rfl (p_move rfl) (od_runp rfl rfl rfl rfl rfl (p_geq rfl rfl (decide_eq_true hg11)) (od_runp rfl rfl rfl rfl rfl (p_move rfl) (od_runp rfl rfl rfl rfl rfl (p_move rfl) (od_runp rfl rfl rfl rfl rfl (p_leq rfl rfl (decide_eq_true hg12)) (od_runp rfl rfl rfl rfl rfl (p_pick_t rfl rfl) (od_pu rfl rfl (p_pick_f rfl rfl) (od_pu rfl rfl (p_move rfl) (od_skip rfl rfl rfl rfl rfl (by decide) (od_skip rfl rfl rfl rfl rfl (by decide) (od_pu rfl rfl (p_pick_t rfl rfl) (od_pu rfl rfl (p_move rfl) (od_skip rfl rfl rfl rfl rfl (by decide) (od_skip rfl rfl rfl rfl rfl (by decide) (od_pu rfl rfl (p_pick_t rfl rfl) (od_pu rfl rfl (p_assign rfl) (od_nil rfl ?_))))))))))))))))))))))))
              exact PD.sub ((10, dB ((((decide ((97 : Int) ≤ r) && decide (r ≤ (122 : Int))) || (decide ((65 : Int) ≤ r) && decide (r ≤ (90 : Int)))) || decide (r = (95 : Int))) || decide ((128 : Int) ≤ r))) :: [(0, .v (.int .i32 r)), (2, dI 0)]) ⟨sc rfl (Cv.eq (congrArg (fun b => D.v (.bool b)) (by first | (simp [hg11, hg12, hg5]; done) | (simp_all; done)))), sk rfl, sk rfl, trivial⟩ hQ4
            · skip
              by_cases hg13 : r = (95 : Int)
              · skip
                refine jd_region rfl (od_pu rfl rfl (p_move rfl) (od_pu rfl rfl (p_geq rfl rfl (decide_eq_false hg5)) (od_pu rfl rfl (p_move rfl) (od_skip rfl rfl rfl rfl rfl (by decide) (od_skip rfl rfl rfl rfl rfl (by decide) (od_pu rfl rfl (p_pick_f rfl rfl) (od_pu rfl rfl (p_move rfl) (od_runp rfl rfl rfl rfl rfl (p_move rfl) (od_runp rfl rfl rfl rfl rfl (p_geq rfl rfl (decide_eq_true hg11)) (od_runp rfl rfl rfl rfl rfl (p_move rfl) (od_runp rfl rfl rfl rfl rfl (p_move rfl) (od_runp rfl rfl rfl rfl rfl (p_leq rfl rfl (decide_eq_false hg12)) (od_runp rfl rfl rfl rfl rfl (p_pick_t rfl rfl) (od_pu rfl rfl (p_pick_f rfl rfl) (od_pu rfl rfl (p_move rfl) (od_runp rfl rfl rfl rfl rfl (p_move rfl) (od_runp rfl rfl rfl rfl rfl (p_eql rfl rfl (decide_eq_true hg13)) (od_pu rfl rfl (p_pick_f rfl rfl) (od_pu rfl rfl (p_move rfl) (od_skip rfl rfl rfl rfl rfl (by decide) (od_skip rfl rfl rfl rfl rfl (by decide) (od_pu rfl rfl (p_pick_t rfl rfl) (od_pu rfl rfl (p_assign rfl) (od_nil rfl ?_))))))))))))))))))))))))
                exact PD.sub ((10, dB ((((decide ((97 : Int) ≤ r) && decide (r ≤ (122 : Int))) || (decide ((65 : Int) ≤ r) && decide (r ≤ (90 : Int)))) || decide (r = (95 : Int))) || decide ((128 : Int) ≤ r))) :: [(0, .v (.int .i32 r)), (2, dI 0)]) ⟨sc rfl (Cv.eq (congrArg (fun b => D.v (.bool b)) (by first | (simp [hg11, hg12, hg13, hg5]; done) | (simp_all; done)))), sk rfl, sk rfl, trivial⟩ hQ4
              · skip
                refine jd_region rfl (od_pu rfl rfl (p_move rfl) (od_pu rfl rfl (p_geq rfl rfl (decide_eq_false hg5)) (od_pu rfl rfl (p_move rfl) (od_skip rfl rfl rfl rfl rfl (by decide) (od_skip rfl rfl rfl rfl rfl (by decide) (od_pu rfl rfl (p_pick_f rfl rfl) (od_pu rfl rfl (p_move rfl) (od_runp rfl rfl rfl rfl rfl (p_move rfl) (od_runp rfl rfl rfl rfl rfl (p_geq rfl rfl (decide_eq_true hg11)) (od_runp rfl rfl rfl rfl rfl (p_move rfl) (od_runp rfl rfl rfl rfl rfl (p_move rfl) (od_runp rfl rfl rfl rfl rfl (p_leq rfl rfl (decide_eq_false hg12)) (od_runp rfl rfl rfl rfl rfl (p_pick_t rfl rfl) (od_pu rfl rfl (p_pick_f rfl rfl) (od_pu rfl rfl (p_move rfl) (od_runp rfl rfl rfl rfl rfl (p_move rfl) (od_runp rfl rfl rfl rfl rfl (p_eql rfl rfl (decide_eq_false hg13)) (od_pu rfl rfl (p_pick_f rfl rfl) (od_pu rfl rfl (p_move rfl) (od_runp rfl rfl rfl rfl rfl (p_move rfl) (od_runp rfl rfl rfl rfl rfl (p_geq rfl rfl rfl) (od_pu rfl rfl (p_pick_f rfl rfl) (od_pu rfl rfl (p_assign rfl) (od_nil rfl ?_))))))))))))))))))))))))
                exact PD.sub ((10, dB ((((decide ((97 : Int) ≤ r) && decide (r ≤ (122 : Int))) || (decide ((65 : Int) ≤ r) && decide (r ≤ (90 : Int)))) || decide (r = (95 : Int))) || decide ((128 : Int) ≤ r))) :: [(0, .v (.int .i32 r)), (2, dI 0)]) ⟨sc rfl (Cv.eq (congrArg (fun b => D.v (.bool b)) (by first | (simp [hg11, hg12, hg13, hg5]; done) | (simp_all; done)))), sk rfl, sk rfl, trivial⟩ hQ4
          · skip
            by_cases hg14 : r = (95 : Int)
            · skip
              refine jd_region rfl (od_pu rfl rfl (p_move rfl) (od_pu rfl rfl (p_geq rfl rfl (decide_eq_false hg5)) (od_pu rfl rfl (p_move rfl) (od_skip rfl rfl rfl rfl rfl (by decide) (od_skip rfl rfl rfl rfl rfl (by decide) (od_pu rfl rfl (p_pick_f rfl rfl) (od_pu rfl rfl (p_move rfl) (od_runp rfl rfl rfl rfl rfl (p_move rfl) (od_runp rfl rfl rfl rfl rfl (p_geq rfl rfl (decide_eq_false hg11)) (od_runp rfl rfl rfl rfl rfl (p_move rfl) (od_skip rfl rfl rfl rfl rfl (by decide) (od_skip rfl rfl rfl rfl rfl (by decide) (od_runp rfl rfl rfl rfl rfl (p_pick_f rfl rfl) (od_pu rfl rfl (p_pick_f rfl rfl) (od_pu rfl rfl (p_move rfl) (od_runp rfl rfl rfl rfl rfl (p_move rfl) (od_runp rfl rfl rfl rfl rfl (p_eql rfl rfl (decide_eq_true hg14)) (od_pu rfl rfl (p_pick_f rfl rfl) (od_pu rfl rfl (p_move rfl) (od_skip rfl rfl rfl rfl rfl (by decide) (od_skip rfl rfl rfl rfl rfl (by decide) (od_pu rfl rfl (p_pick_t rfl rfl) (od_pu rfl rfl (p_assign rfl) (od_nil rfl ?_))))))))))))))))))))))))
              exact PD.sub ((10, dB ((((decide ((97 : Int) ≤ r) && decide (r ≤ (122 : Int))) || (decide ((65 : Int) ≤ r) && decide (r ≤ (90 : Int)))) || decide (r = (95 : Int))) || decide ((128 : Int) ≤ r))) :: [(0, .v (.int .i32 r)), (2, dI 0)]) ⟨sc rfl (Cv.eq (congrArg (fun b => D.v (.bool b)) (by first | (simp [hg11, hg14, hg5]; done) | (simp_all; done)))), sk rfl, sk rfl, trivial⟩ hQ4
            · skip
              refine jd_region rfl (od_pu rfl rfl (p_move rfl) (od_pu rfl rfl (p_geq rfl rfl (decide_eq_false hg5)) (od_pu rfl rfl (p_move rfl) (od_skip rfl rfl rfl rfl rfl (by decide) (od_skip rfl rfl rfl rfl rfl (by decide) (od_pu rfl rfl (p_pick_f rfl rfl) (od_pu rfl rfl (p_move rfl) (od_runp rfl rfl rfl rfl rfl (p_move rfl) (od_runp rfl rfl rfl rfl rfl (p_geq rfl rfl (decide_eq_false hg11)) (od_runp rfl rfl rfl rfl rfl (p_move rfl) (od_skip rfl rfl rfl rfl rfl (by decide) (od_skip rfl rfl rfl rfl rfl (by decide) (od_runp rfl rfl rfl rfl rfl (p_pick_f rfl rfl) (od_pu rfl rfl (p_pick_f rfl rfl) (od_pu rfl rfl (p_move rfl) (od_runp rfl rfl rfl rfl rfl (p_move rfl) (od_runp rfl rfl rfl rfl rfl (p_eql rfl rfl (decide_eq_false hg14)) (od_pu rfl rfl (p_pick_f rfl rfl) (od_pu rfl rfl (p_move rfl) (od_runp rfl rfl rfl rfl rfl (p_move rfl) (od_runp rfl rfl rfl rfl rfl (p_geq rfl rfl rfl) (od_pu rfl rfl (p_pick_f rfl rfl) (od_pu rfl rfl (p_assign rfl) (od_nil rfl ?_))))))))))))))))))))))))
              exact PD.sub ((10, dB ((((decide ((97 : Int) ≤ r) && decide (r ≤ (122 : Int))) || (decide ((65 : Int) ≤ r) && decide (r ≤ (90 : Int)))) || decide (r = (95 : Int))) || decide ((128 : Int) ≤ r))) :: [(0, .v (.int .i32 r)), (2, dI 0)]) ⟨sc rfl (Cv.eq (congrArg (fun b => D.v (.bool b)) (by first | (simp [hg11, hg14, hg5]; done) | (simp_all; done)))), sk rfl, sk rfl, trivial⟩ hQ4
      · skip
        refine pd_seq ?_
        refine jd_cond [T', F', F', T', T', T', F'] [T', F', F', T', T', T', T'] rfl rfl rfl rfl (fun hc15 => ?_) (fun hc15 => ?_)
        · simp only [Bool.and_eq_true, Bool.or_eq_true, Bool.not_eq_true', Bool.not_eq_false', Bool.and_eq_false_iff, Bool.or_eq_false_iff, decide_eq_true_eq, decide_eq_false_iff_not, Decidable.not_not, ne_eq] at hc15
          refine jd_seq [T', F', F', T', T', T', F', F'] [T', F', F', T', T', T', F', T'] rfl rfl rfl (jd_region rfl (od_pu rfl rfl (p_assign rfl) (od_nil rfl (pd_seq (jd_ret rfl (pd_block_ret (pd_seq_ret ?_)))))))
          exact pd_retH Try.results152 (.cons (ro_cv (ro_tmp rfl) (Cv.eq (congrArg (fun n => D.v (.int .i64 n)) (by unfold kindR; (repeat (any_goals split)) <;> omega)))) .nil) rfl HSub.none ⟨rfl, rfl⟩
        · simp only [Bool.and_eq_true, Bool.or_eq_true, Bool.not_eq_true', Bool.not_eq_false', Bool.and_eq_false_iff, Bool.or_eq_false_iff, decide_eq_true_eq, decide_eq_false_iff_not, Decidable.not_not, ne_eq] at hc15
          refine jd_seq [T', F', F', T', T', T', T', F'] [T', F', F', T', T', T', T', T'] rfl rfl rfl (JD.keep [0, 2] [(0, .v (.int .i32 r)), (2, dI 0)] rfl ?_)
          refine jd_sum 33 ((decide ((48 : Int) ≤ r) && decide (r ≤ (57 : Int)))) [] (fun _ hQ16 => ?_) ?_
          · skip
            by_cases hg17 : (48 : Int) ≤ r
            · skip
              refine jd_region rfl (od_pu rfl rfl (p_move rfl) (od_pu rfl rfl (p_geq rfl rfl (decide_eq_true hg17)) (od_pu rfl rfl (p_move rfl) (od_runp rfl rfl rfl rfl rfl (p_move rfl) (od_runp rfl rfl rfl rfl rfl (p_leq rfl rfl rfl) (od_pu rfl rfl (p_pick_t rfl rfl) (od_pu rfl rfl (p_assign rfl) (od_nil rfl ?_))))))))
              exact PD.sub ((33, dB (decide ((48 : Int) ≤ r) && decide (r ≤ (57 : Int)))) :: [(0, .v (.int .i32 r)), (2, dI 0)]) ⟨sc rfl (Cv.eq (congrArg (fun b => D.v (.bool b)) (by first | (simp [hg17]; done) | (simp_all; done)))), sk rfl, sk rfl, trivial⟩ hQ16
            · skip
              refine jd_region rfl (od_pu rfl rfl (p_move rfl) (od_pu rfl rfl (p_geq rfl rfl (decide_eq_false hg17)) (od_pu rfl rfl (p_move rfl) (od_skip rfl rfl rfl rfl rfl (by decide) (od_skip rfl rfl rfl rfl rfl (by decide) (od_pu rfl rfl (p_pick_f rfl rfl) (od_pu rfl rfl (p_assign rfl) (od_nil rfl ?_))))))))
              exact PD.sub ((33, dB (decide ((48 : Int) ≤ r) && decide (r ≤ (57 : Int)))) :: [(0, .v (.int .i32 r)), (2, dI 0)]) ⟨sc rfl (Cv.eq (congrArg (fun b => D.v (.bool b)) (by first | (simp [hg17]; done) | (simp_all; done)))), sk rfl, sk rfl, trivial⟩ hQ16
          · skip
            refine pd_seq ?_
            refine jd_cond [T', F', F', T', T', T', T', T', F'] [T', F', F', T', T', T', T', T', T'] rfl rfl rfl rfl (fun hc18 => ?_) (fun hc18 => ?_)
            · simp only [Bool.and_eq_true, Bool.or_eq_true, Bool.not_eq_true', Bool.not_eq_false', Bool.and_eq_false_iff, Bool.or_eq_false_iff, decide_eq_true_eq, decide_eq_false_iff_not, Decidable.not_not, ne_eq] at hc18
              refine jd_seq [T', F', F', T', T', T', T', T', F', F'] [T', F', F', T', T', T', T', T', F', T'] rfl rfl rfl (jd_region rfl (od_pu rfl rfl (p_assign rfl) (od_nil rfl (pd_seq (jd_ret rfl (pd_block_ret (pd_seq_ret ?_)))))))
              exact pd_retH Try.results152 (.cons (ro_cv (ro_tmp rfl) (Cv.eq (congrArg (fun n => D.v (.int .i64 n)) (by unfold kindR; (repeat (any_goals split)) <;> omega)))) .nil) rfl HSub.none ⟨rfl, rfl⟩
            · simp only [Bool.and_eq_true, Bool.or_eq_true, Bool.not_eq_true', Bool.not_eq_false', Bool.and_eq_false_iff, Bool.or_eq_false_iff, decide_eq_true_eq, decide_eq_false_iff_not, Decidable.not_not, ne_eq] at hc18
              refine jd_seq [T', F', F', T', T', T', T', T', T', F'] [T', F', F', T', T', T', T', T', T', T'] rfl rfl rfl (JD.keep [0, 2] [(0, .v (.int .i32 r)), (2, dI 0)] rfl ?_)
              refine jd_sum 40 (((decide (r = (32 : Int)) || decide (r = (9 : Int))) || decide (r = (10 : Int)))) [] (fun _ hQ19 => ?_) ?_
              · skip
                by_cases hg20 : r = (32 : Int)
                · skip
                  refine jd_region rfl (od_pu rfl rfl (p_move rfl) (od_pu rfl rfl (p_eql rfl rfl (decide_eq_true hg20)) (od_pu rfl rfl (p_move rfl) (od_skip rfl rfl rfl rfl rfl (by decide) (od_skip rfl rfl rfl rfl rfl (by decide) (od_pu rfl rfl (p_pick_t rfl rfl) (od_pu rfl rfl (p_move rfl) (od_skip rfl rfl rfl rfl rfl (by decide) (od_skip rfl rfl rfl rfl rfl (by decide) (od_pu rfl rfl (p_pick_t rfl rfl) (od_pu rfl rfl (p_assign rfl) (od_nil rfl ?_))))))))))))
                  exact PD.sub ((40, dB ((decide (r = (32 : Int)) || decide (r = (9 : Int))) || decide (r = (10 : Int)))) :: [(0, .v (.int .i32 r)), (2, dI 0)]) ⟨sc rfl (Cv.eq (congrArg (fun b => D.v (.bool b)) (by first | (simp [hg20]; done) | (simp_all; done)))), sk rfl, sk rfl, trivial⟩ hQ19
                · skip
                  by_cases hg21 : r = (9 : Int)
                  · skip
                    refine jd_region rfl (od_pu rfl rfl (p_move rfl) (od_pu rfl rfl (p_eql rfl rfl (decide_eq_false hg20)) (od_pu rfl rfl (p_move rfl) (od_runp rfl rfl rfl rfl rfl (p_move rfl) (od_runp rfl rfl rfl rfl rfl (p_eql rfl rfl (decide_eq_true hg21)) (od_pu rfl rfl (p_pick_f rfl rfl) (od_pu rfl rfl (p_move rfl) (od_skip rfl rfl rfl rfl rfl (by decide) (od_skip rfl rfl rfl rfl rfl (by decide) (od_pu rfl rfl (p_pick_t rfl rfl) (od_pu rfl rfl (p_assign rfl) (od_nil rfl ?_))))))))))))
                    exact PD.sub ((40, dB ((decide (r = (32 : Int)) || decide (r = (9 : Int))) || decide (r = (10 : Int)))) :: [(0, .v (.int .i32 r)), (2, dI 0)]) ⟨sc rfl (Cv.eq (congrArg (fun b => D.v (.bool b)) (by first | (simp [hg20, hg21]; done) | (simp_all; done)))), sk rfl, sk rfl, trivial⟩ hQ19
                  · skip
                    refine jd_region rfl (od_pu rfl rfl (p_move rfl) (od_pu rfl rfl (p_eql rfl rfl (decide_eq_false hg20)) (od_pu rfl rfl (p_move rfl) (od_runp rfl rfl rfl rfl rfl (p_move rfl) (od_runp rfl rfl rfl rfl rfl (p_eql rfl rfl (decide_eq_false hg21)) (od_pu rfl rfl (p_pick_f rfl rfl) (od_pu rfl rfl (p_move rfl) (od_runp rfl rfl rfl rfl rfl (p_move rfl) (od_runp rfl rfl rfl rfl rfl (p_eql rfl rfl rfl) (od_pu rfl rfl (p_pick_f rfl rfl) (od_pu rfl rfl (p_assign rfl) (od_nil rfl ?_))))))))))))
                    exact PD.sub ((40, dB ((decide (r = (32 : Int)) || decide (r = (9 : Int))) || decide (r = (10 : Int)))) :: [(0, .v (.int .i32 r)), (2, dI 0)]) ⟨sc rfl (Cv.eq (congrArg (fun b => D.v (.bool b)) (by first | (simp [hg20, hg21]; done) | (simp_all; done)))), sk rfl, sk rfl, trivial⟩ hQ19
              · skip
                refine pd_seq ?_
                refine jd_cond [T', F', F', T', T', T', T', T', T', T', F'] [T', F', F', T', T', T', T', T', T', T', T'] rfl rfl rfl rfl (fun hc22 => ?_) (fun hc22 => ?_)
                · simp only [Bool.and_eq_true, Bool.or_eq_true, Bool.not_eq_true', Bool.not_eq_false', Bool.and_eq_false_iff, Bool.or_eq_false_iff, decide_eq_true_eq, decide_eq_false_iff_not, Decidable.not_not, ne_eq] at hc22
                  refine jd_seq [T', F', F', T', T', T', T', T', T', T', F', F'] [T', F', F', T', T', T', T', T', T', T', F', T'] rfl rfl rfl (jd_region rfl (od_pu rfl rfl (p_assign rfl) (od_nil rfl (pd_seq (jd_ret rfl (pd_block_ret (pd_seq_ret ?_)))))))
                  exact pd_retH Try.results152 (.cons (ro_cv (ro_tmp rfl) (Cv.eq (congrArg (fun n => D.v (.int .i64 n)) (by unfold kindR; (repeat (any_goals split)) <;> omega)))) .nil) rfl HSub.none ⟨rfl, rfl⟩
                · simp only [Bool.and_eq_true, Bool.or_eq_true, Bool.not_eq_true', Bool.not_eq_false', Bool.and_eq_false_iff, Bool.or_eq_false_iff, decide_eq_true_eq, decide_eq_false_iff_not, Decidable.not_not, ne_eq] at hc22
                  refine jd_skip rfl (pd_block (pd_seq (jd_seq [T', T', F'] [T', T', T'] rfl rfl rfl (jd_region rfl (od_pu rfl rfl (p_assign rfl) (od_nil rfl (pd_seq (jd_ret rfl ?_))))))))
                  exact pd_retH Try.results152 (.cons (ro_cv (ro_tmp rfl) (Cv.eq (congrArg (fun n => D.v (.int .i64 n)) (by unfold kindR; (repeat (any_goals split)) <;> omega)))) .nil) rfl HSub.none ⟨rfl, rfl⟩

set_option maxHeartbeats 4000000 in
set_option maxRecDepth 100000 in
theorem refSpell_c (s : ByteArray) (hs : s.size ≤ 1000000000) :
    CD Try.prog 151 [] [.s s] (isOwn 1 21 ((runes s).map dR)) := by
  refine cd_of_JD Try.func151 rfl (N := 16) rfl rfl (fun C => ?_)
  refine JD.keep [0] [(0, .s s)] rfl ?_
  refine JD.bd 0 rfl (fun bd0 => ?_)
  have sz0 : s.size ≤ 9223372036854775807 := bd0
  refine jd_seq [F'] [T'] rfl rfl rfl (jd_region rfl (od_pu rfl rfl (p_assign rfl) (od_nil rfl (pd_seq (jd_seq [T', F'] [T', T'] rfl rfl rfl (jd_region rfl (od_pu rfl rfl (p_assign rfl) (od_nil rfl (pd_seq (jd_seq [T', T', F'] [T', T', T'] rfl rfl rfl (jd_seq [T', T', F', F'] [T', T', F', T'] rfl rfl rfl (jd_region rfl (od_pu rfl rfl (p_move rfl) (od_step rfl rfl (ef_range rfl Try.runUnderlying9) ?_))))))))))))))
  rintro _ _ ⟨g1, rfl, rfl⟩
  refine od_nil rfl (pd_seq (jd_block [T', T', F', T', F'] rfl rfl (jd_loop (fun (g : Nat × Value × List Int) => [(2, .v (.slice none 0 0)), (7, .v (.pointer (some ⟨g1, 0, none⟩))), (3, .ov g.2.1)]) (fun (g : Nat × Value × List Int) => [.it g1 s g.1, .sl g.2.1 1 21 (g.2.2.map dR)]) (fun (g : Nat × Value × List Int) => (g.1 ≤ s.size) ∧ (g.2.2.length ≤ g.1) ∧ (runes s = g.2.2 ++ runesAt s g.1)) (fun (g : Nat × Value × List Int) => s.size - g.1) [T', T', F', T', F', F'] (0, .slice none 0 0, []) rfl rfl ⟨sk rfl, sk rfl, sc rfl (Cv.ov rfl), trivial⟩ (HSub.trans (HSub.nil 1 21) (HSub.perm (List.Perm.swap _ _ _))) ⟨Nat.zero_le _, Nat.le_refl _, rfl⟩ ?_)))
  rintro ⟨p, ov, l⟩ ⟨hp, hn, hf⟩
  replace hp : p ≤ s.size := hp
  replace hn : l.length ≤ p := hn
  replace hf : runes s = l ++ runesAt s p := hf
  refine JD.keep [2, 7, 3] [(2, .v (.slice none 0 0)), (7, .v (.pointer (some ⟨g1, 0, none⟩))), (3, .ov ov)] rfl (JD.norm [.it g1 s p, .sl ov 1 21 (l.map dR)] rfl ?_)
  rcases Nat.lt_or_ge p s.size with hlt | hge
  · skip
    have hrune := runesAt_lt hlt
    have hrl := decR_lt s p
    have hdw := decW_le s p hlt
    have hdp := decW_pos s p
    refine jd_seq [T', T', F', T', F', F', F'] [T', T', F', T', F', F', T'] rfl rfl rfl (jd_region rfl (od_step rfl rfl (ef_next_t (i := 0) rfl rfl hlt) ?_))
    rintro _ _ ⟨rfl, rfl⟩
    refine OpsD.norm [.it g1 s (p + decW s p), .sl ov 1 21 (l.map dR)] rfl (od_pu rfl rfl (p_extract rfl rfl) (od_nil rfl (pd_seq (jd_seq [T', T', F', T', F', F', T', F'] [T', T', F', T', F', F', T', T'] rfl rfl rfl (jd_cond_t [T', T', F', T', F', F', T', F', F'] rfl rfl rfl (jd_skip rfl (pd_seq (jd_block [T', T', F', T', F', F', T', T', F'] rfl rfl (jd_seq [T', T', F', T', F', F', T', T', F', F'] [T', T', F', T', F', F', T', T', F', T'] rfl rfl rfl (jd_region rfl (od_pu rfl rfl (p_extract rfl rfl) (od_pu rfl rfl (p_assign rfl) (od_nil rfl (pd_seq (jd_region rfl (od_pu rfl rfl (p_move rfl) (od_pu rfl rfl (p_move rfl) (od_step rfl rfl (ef_buildSlice [.tmp 12] rfl rfl (.cons (CellD.v rfl) .nil) rfl Try.runUnderlying131 Try.sizeOf21 Try.zeroValue21 rfl rfl rfl rfl) ?_))))))))))))))))))
    rintro _ _ ⟨g2, rfl, rfl⟩
    refine od_step rfl rfl (ef_append_m (f := dR) (l := l) (l' := [((decR s p : Nat) : Int)]) (i := 2) rfl rfl rfl (SrcD.own (j := 0) rfl rfl) und_131 infz_21 rfl rfl (by unfold maxLen; (try simp only [List.length_append, List.length_cons, List.length_nil, List.length_map, List.length_take, List.length_drop, List.length_set, List.length_replicate]); omega) (by (try simp only [List.length_append, List.length_cons, List.length_nil, List.length_map, List.length_take, List.length_drop, List.length_set, List.length_replicate]); omega)) ?_
    rintro _ _ ⟨v3, rfl, rfl⟩
    refine OpsD.norm [.sl (.slice (some ⟨g2, 0, none⟩) 1 1) 1 21 ([.v (.int .i32 ((decR s p : Nat) : Int))]), .it g1 s (p + decW s p), .sl v3 1 21 ((l ++ [((decR s p : Nat) : Int)]).map dR)] rfl (od_pu rfl rfl (p_assign rfl) (od_nil rfl (pd_block ?_)))
    exact pd_loop (p + decW s p, v3, (l ++ [((decR s p : Nat) : Int)])) ⟨sk rfl, sk rfl, sk rfl, trivial⟩ (HSub.lst 1 rfl) ⟨by have := decW_le s p hlt; omega, by rw [List.length_append, List.length_singleton]; omega, by rw [hf, hrune, List.append_assoc]; rfl⟩ (by have := decW_pos s p; omega)
  · skip
    have hrune := runesAt_ge hge
    refine jd_seq [T', T', F', T', F', F', F'] [T', T', F', T', F', F', T'] rfl rfl rfl (jd_region rfl (od_pu rfl rfl (p_next_f (i := 0) rfl rfl hge) (od_pu rfl rfl (p_extract rfl rfl) (od_nil rfl (pd_seq (jd_seq [T', T', F', T', F', F', T', F'] [T', T', F', T', F', F', T', T'] rfl rfl rfl (jd_cond_f [T', T', F', T', F', F', T', F', T'] rfl rfl rfl (jd_exit rfl (pd_seq_exit (pd_loop_exit (pd_block_exit (pd_seq (jd_seq [T', T', T', F'] [T', T', T', T'] rfl rfl rfl (jd_region rfl (od_pu rfl rfl (p_move rfl) (od_pu rfl rfl (p_assign rfl) (od_nil rfl (pd_seq (jd_ret rfl (PD.subH (HSub.less (sub_one (i := 1) rfl)) (PD.subH (HSub.turn (h' := .sl ov 1 21 ((runes s).map dR)) rfl (Hp.eq_sl (show List.map dR l = List.map dR (runes s) from congrArg _ (by rw [hf, hrune, List.append_nil])))) ?_)))))))))))))))))))))
    exact pd_ret Try.results151 (.cons (ro_tmp rfl) .nil) rfl ⟨_, rfl, rfl⟩

set_option maxHeartbeats 4000000 in
set_option maxRecDepth 100000 in
theorem refName_c (s : ByteArray) (hs : s.size ≤ 1000000000) :
    CD Try.prog 128 [] [.s s] (isR (dB (nameB s))) := by
  refine cd_of_JD Try.func128 rfl (N := 42) rfl rfl (fun C => ?_)
  refine JD.keep [0] [(0, .s s)] rfl ?_
  refine JD.bd 0 rfl (fun bd0 => ?_)
  have sz0 : s.size ≤ 9223372036854775807 := bd0
  refine jd_seq [F'] [T'] rfl rfl rfl (jd_region rfl (od_pu rfl rfl (p_assign rfl) (od_nil rfl (pd_seq (jd_seq [T', F'] [T', T'] rfl rfl rfl (jd_region rfl (od_pu rfl rfl (p_move rfl) (od_step rfl rfl (ef_call [] _ [] rfl rfl (.cons ArgC.id .nil) lend_nil Try.call151 (refSpell_c s (by omega)) (.inl rfl)) ?_))))))))
  rintro _ _ ⟨_, ⟨v1, rfl, rfl⟩, rfl⟩
  refine OpsD.norm [.sl v1 1 21 ((runes s).map dR)] rfl (od_pu rfl rfl (p_assign rfl) (od_nil rfl (pd_seq (jd_seq [T', T', F'] [T', T', T'] rfl rfl rfl (jd_seq [T', T', F', F'] [T', T', F', T'] rfl rfl rfl ?_)))))
  by_cases hg2 : (((runes s).length : Nat) : Int) < (1 : Int)
  · skip
    refine jd_region rfl (od_pu rfl rfl (p_move rfl) (od_pu rfl rfl (p_len_own (n := (runes s).length) (j := 0) rfl rfl Try.runUnderlying131 (List.length_map _)) (od_pu rfl rfl (p_lss rfl rfl (decide_eq_true hg2)) (od_pu rfl rfl (p_move rfl) (od_skip rfl rfl rfl rfl rfl (by decide) (od_skip rfl rfl rfl rfl rfl (by decide) (od_skip rfl rfl rfl rfl rfl (by decide) (od_pu rfl rfl (p_pick_t rfl rfl) (od_pu rfl rfl (p_move rfl) (od_skip rfl rfl rfl rfl rfl (by decide) (od_skip rfl rfl rfl rfl rfl (by decide) (od_skip rfl rfl rfl rfl rfl (by decide) (od_skip rfl rfl rfl rfl rfl (by decide) (od_skip rfl rfl rfl rfl rfl (by decide) (od_pu rfl rfl (p_pick_t rfl rfl) (od_nil rfl (pd_seq (JD.keep [2, 3, 21] [(2, dB false), (3, .ov v1), (21, dB true)] rfl (jd_cond_t [T', T', F', T', F'] rfl rfl rfl (jd_seq [T', T', F', T', F', F'] [T', T', F', T', F', T'] rfl rfl rfl (jd_region rfl (od_pu rfl rfl (p_assign rfl) (od_nil rfl (pd_seq (jd_ret rfl (pd_seq_ret ?_))))))))))))))))))))))))))
    exact pd_retH Try.results128 (.cons (ro_cv (ro_tmp rfl) (Cv.eq (congrArg (fun b => D.v (.bool b)) (by unfold nameB; rw [nameR_start]; first | (rw [List.take_of_length_le (by omega)] at hw; rw [List.getD_eq_getElem?_getD, hx1, hw]; simp; omega) | (rw [List.getD_eq_getElem?_getD, hx1]; simp; omega) | (simp; omega))))) .nil) rfl HSub.none ⟨rfl, rfl⟩
  · skip
    by_cases hg3 : (30 : Int) < (((runes s).length : Nat) : Int)
    · skip
      refine jd_region rfl (od_pu rfl rfl (p_move rfl) (od_pu rfl rfl (p_len_own (n := (runes s).length) (j := 0) rfl rfl Try.runUnderlying131 (List.length_map _)) (od_pu rfl rfl (p_lss rfl rfl (decide_eq_false hg2)) (od_pu rfl rfl (p_move rfl) (od_runp rfl rfl rfl rfl rfl (p_move rfl) (od_runp rfl rfl rfl rfl rfl (p_len_own (n := (runes s).length) (j := 0) rfl rfl Try.runUnderlying131 (List.length_map _)) (od_runp rfl rfl rfl rfl rfl (p_gtr rfl rfl (decide_eq_true hg3)) (od_pu rfl rfl (p_pick_f rfl rfl) (od_pu rfl rfl (p_move rfl) (od_skip rfl rfl rfl rfl rfl (by decide) (od_skip rfl rfl rfl rfl rfl (by decide) (od_skip rfl rfl rfl rfl rfl (by decide) (od_skip rfl rfl rfl rfl rfl (by decide) (od_skip rfl rfl rfl rfl rfl (by decide) (od_pu rfl rfl (p_pick_t rfl rfl) (od_nil rfl (pd_seq (JD.keep [2, 3, 21] [(2, dB false), (3, .ov v1), (21, dB true)] rfl (jd_cond_t [T', T', F', T', F'] rfl rfl rfl (jd_seq [T', T', F', T', F', F'] [T', T', F', T', F', T'] rfl rfl rfl (jd_region rfl (od_pu rfl rfl (p_assign rfl) (od_nil rfl (pd_seq (jd_ret rfl (pd_seq_ret ?_))))))))))))))))))))))))))
      exact pd_retH Try.results128 (.cons (ro_cv (ro_tmp rfl) (Cv.eq (congrArg (fun b => D.v (.bool b)) (by unfold nameB; rw [nameR_start]; first | (rw [List.take_of_length_le (by omega)] at hw; rw [List.getD_eq_getElem?_getD, hx1, hw]; simp; omega) | (rw [List.getD_eq_getElem?_getD, hx1]; simp; omega) | (simp; omega))))) .nil) rfl HSub.none ⟨rfl, rfl⟩
    · skip
      refine jd_region rfl (od_pu rfl rfl (p_move rfl) (od_pu rfl rfl (p_len_own (n := (runes s).length) (j := 0) rfl rfl Try.runUnderlying131 (List.length_map _)) (od_pu rfl rfl (p_lss rfl rfl (decide_eq_false hg2)) (od_pu rfl rfl (p_move rfl) (od_runp rfl rfl rfl rfl rfl (p_move rfl) (od_runp rfl rfl rfl rfl rfl (p_len_own (n := (runes s).length) (j := 0) rfl rfl Try.runUnderlying131 (List.length_map _)) (od_runp rfl rfl rfl rfl rfl (p_gtr rfl rfl (decide_eq_false hg3)) (od_pu rfl rfl (p_pick_f rfl rfl) (od_pu rfl rfl (p_move rfl) (od_runp rfl rfl rfl rfl rfl (p_move rfl) ?_))))))))))
      obtain ⟨x1, hx1⟩ := get_some (runes s) 0 (by omega)
      refine od_runp rfl rfl rfl rfl rfl (p_indexAddr_sl (k := 0) (j := 0) rfl rfl rfl Try.runUnderlying131 Try.sizeOf21 (by first | rfl | omega) (get_map hx1)) (od_runp rfl rfl rfl rfl rfl (p_load_sl1 rfl (i := 0) rfl (get_map hx1) Try.isAgg21 rfl) (od_run rfl rfl rfl rfl rfl (ef_call [] _ [] rfl rfl (.cons ArgC.id .nil) lend_nil Try.call152 (refKind_c x1) (.inl rfl)) ?_))
      rintro _ _ ⟨_, ⟨rfl, rfl⟩, rfl⟩
      refine OpsD.norm [.sl v1 1 21 ((runes s).map dR)] rfl (od_runp rfl rfl rfl rfl rfl (p_neq rfl rfl rfl) (od_pu rfl rfl (p_pick_f rfl rfl) (od_nil rfl (pd_seq (JD.keep [2, 3, 21] [(2, dB false), (3, .ov v1), (21, dB (decide (kindR x1 ≠ (1 : Int))))] rfl ?_)))))
      refine jd_cond [T', T', F', T', F'] [T', T', F', T', T'] rfl rfl rfl rfl (fun hc4 => ?_) (fun hc4 => ?_)
      · replace hc4 := of_decide_eq_true hc4
        refine jd_seq [T', T', F', T', F', F'] [T', T', F', T', F', T'] rfl rfl rfl (jd_region rfl (od_pu rfl rfl (p_assign rfl) (od_nil rfl (pd_seq (jd_ret rfl (pd_seq_ret ?_))))))
        exact pd_retH Try.results128 (.cons (ro_cv (ro_tmp rfl) (Cv.eq (congrArg (fun b => D.v (.bool b)) (by unfold nameB; rw [nameR_start]; first | (rw [wordR_bad hx1 (by omega)]; simp; done) | (rw [List.take_of_length_le (by omega)] at hw; rw [List.getD_eq_getElem?_getD, hx1, hw]; simp; omega) | (rw [List.getD_eq_getElem?_getD, hx1]; simp; omega) | (simp; omega))))) .nil) rfl HSub.none ⟨rfl, rfl⟩
      · replace hc4 := of_decide_eq_false hc4
        refine jd_skip rfl (pd_seq (jd_seq [T', T', T', F'] [T', T', T', T'] rfl rfl rfl (jd_seq [T', T', T', F', F'] [T', T', T', F', T'] rfl rfl rfl (jd_region rfl (od_pu rfl rfl (p_assign rfl) (od_nil rfl (pd_seq (jd_block [T', T', T', F', T', F'] rfl rfl (jd_loop (fun (g : Nat) => [(3, .ov v1), (4, dN g)]) (fun (g : Nat) => [.sl v1 1 21 ((runes s).map dR)]) (fun (g : Nat) => (g ≤ (runes s).length) ∧ (wordR ((runes s).take g) = true)) (fun (g : Nat) => (runes s).length - g) [T', T', T', F', T', F', F'] 0 rfl rfl ⟨sk rfl, sk rfl, trivial⟩ HSub.rfl' ⟨Nat.zero_le _, rfl⟩ ?_)))))))))
        rintro k ⟨hk, hw⟩
        refine JD.keep [3, 4] [(3, .ov v1), (4, dN k)] rfl (JD.norm [.sl v1 1 21 ((runes s).map dR)] rfl (jd_seq [T', T', T', F', T', F', F', F'] [T', T', T', F', T', F', F', T'] rfl rfl rfl (jd_seq [T', T', T', F', T', F', F', F', F'] [T', T', T', F', T', F', F', F', T'] rfl rfl rfl (jd_region rfl (od_pu rfl rfl (p_move rfl) (od_pu rfl rfl (p_move rfl) (od_pu rfl rfl (p_len_own (n := (runes s).length) (j := 0) rfl rfl Try.runUnderlying131 (List.length_map _)) (od_pu rfl rfl (p_lss rfl rfl rfl) (od_nil rfl (pd_seq ?_))))))))))
        refine jd_cond [T', T', T', F', T', F', F', F', T', F'] [T', T', T', F', T', F', F', F', T', T'] rfl rfl rfl rfl (fun hc5 => ?_) (fun hc5 => ?_)
        · replace hc5 := of_decide_eq_true hc5
          refine jd_skip rfl (pd_seq (jd_seq [T', T', T', F', T', F', F', T', F'] [T', T', T', F', T', F', F', T', T'] rfl rfl rfl (jd_block [T', T', T', F', T', F', F', T', F', F'] rfl rfl (jd_seq [T', T', T', F', T', F', F', T', F', F', F'] [T', T', T', F', T', F', F', T', F', F', T'] rfl rfl rfl ?_))))
          obtain ⟨x2, hx2⟩ := get_some (runes s) k (by omega)
          refine JD.keep [3, 4, 22, 23, 24, 25] [(3, .ov v1), (4, dN k), (22, dN k), (23, .ov v1), (24, dN ((runes s).length)), (25, dB (decide (((k : Nat) : Int) < (((runes s).length : Nat) : Int))))] rfl ?_
          refine jd_sum 41 ((decide (kindR x2 ≠ (1 : Int)) && decide (kindR x2 ≠ (2 : Int)))) [.sl v1 1 21 ((runes s).map dR)] (fun _ hQ6 => ?_) ?_
          · skip
            by_cases hg7 : kindR x2 ≠ (1 : Int)
            · skip
              refine jd_region rfl (od_pu rfl rfl (p_move rfl) (od_pu rfl rfl (p_move rfl) (od_pu rfl rfl (p_indexAddr_sl (k := k) (j := 0) rfl rfl rfl Try.runUnderlying131 Try.sizeOf21 (by first | rfl | omega) (get_map hx2)) (od_pu rfl rfl (p_load_sl1 rfl (i := 0) rfl (get_map hx2) Try.isAgg21 rfl) (od_step rfl rfl (ef_call [] _ [] rfl rfl (.cons ArgC.id .nil) lend_nil Try.call152 (refKind_c x2) (.inl rfl)) ?_)))))
              rintro _ _ ⟨_, ⟨rfl, rfl⟩, rfl⟩
              refine OpsD.norm [.sl v1 1 21 ((runes s).map dR)] rfl (od_pu rfl rfl (p_neq rfl rfl (decide_eq_true hg7)) (od_pu rfl rfl (p_move rfl) (od_runp rfl rfl rfl rfl rfl (p_move rfl) (od_runp rfl rfl rfl rfl rfl (p_move rfl) (od_runp rfl rfl rfl rfl rfl (p_indexAddr_sl (k := k) (j := 0) rfl rfl rfl Try.runUnderlying131 Try.sizeOf21 (by first | rfl | omega) (get_map hx2)) (od_runp rfl rfl rfl rfl rfl (p_load_sl1 rfl (i := 0) rfl (get_map hx2) Try.isAgg21 rfl) (od_run rfl rfl rfl rfl rfl (ef_call [] _ [] rfl rfl (.cons ArgC.id .nil) lend_nil Try.call152 (refKind_c x2) (.inl rfl)) ?_)))))))
              rintro _ _ ⟨_, ⟨rfl, rfl⟩, rfl⟩
              refine OpsD.norm [.sl v1 1 21 ((runes s).map dR)] rfl (od_runp rfl rfl rfl rfl rfl (p_neq rfl rfl rfl) (od_pu rfl rfl (p_pick_t rfl rfl) (od_nil rfl ?_)))
              exact PD.sub ((41, dB (decide (kindR x2 ≠ (1 : Int)) && decide (kindR x2 ≠ (2 : Int)))) :: [(3, .ov v1), (4, dN k), (22, dN k), (23, .ov v1), (24, dN ((runes s).length)), (25, dB (decide (((k : Nat) : Int) < (((runes s).length : Nat) : Int))))]) ⟨sc rfl (Cv.eq (congrArg (fun b => D.v (.bool b)) (by first | (simp [hc5, hg7]; done) | (simp_all; done)))), sk rfl, sk rfl, sk rfl, sk rfl, sk rfl, sk rfl, trivial⟩ hQ6
            · skip
              refine jd_region rfl (od_pu rfl rfl (p_move rfl) (od_pu rfl rfl (p_move rfl) (od_pu rfl rfl (p_indexAddr_sl (k := k) (j := 0) rfl rfl rfl Try.runUnderlying131 Try.sizeOf21 (by first | rfl | omega) (get_map hx2)) (od_pu rfl rfl (p_load_sl1 rfl (i := 0) rfl (get_map hx2) Try.isAgg21 rfl) (od_step rfl rfl (ef_call [] _ [] rfl rfl (.cons ArgC.id .nil) lend_nil Try.call152 (refKind_c x2) (.inl rfl)) ?_)))))
              rintro _ _ ⟨_, ⟨rfl, rfl⟩, rfl⟩
              refine OpsD.norm [.sl v1 1 21 ((runes s).map dR)] rfl (od_pu rfl rfl (p_neq rfl rfl (decide_eq_false hg7)) (od_pu rfl rfl (p_move rfl) (od_skip rfl rfl rfl rfl rfl (by decide) (od_skip rfl rfl rfl rfl rfl (by decide) (od_skip rfl rfl rfl rfl rfl (by decide) (od_skip rfl rfl rfl rfl rfl (by decide) (od_skip rfl rfl rfl rfl rfl (by decide) (od_skip rfl rfl rfl rfl rfl (by decide) (od_pu rfl rfl (p_pick_f rfl rfl) (od_nil rfl ?_))))))))))
              exact PD.sub ((41, dB (decide (kindR x2 ≠ (1 : Int)) && decide (kindR x2 ≠ (2 : Int)))) :: [(3, .ov v1), (4, dN k), (22, dN k), (23, .ov v1), (24, dN ((runes s).length)), (25, dB (decide (((k : Nat) : Int) < (((runes s).length : Nat) : Int))))]) ⟨sc rfl (Cv.eq (congrArg (fun b => D.v (.bool b)) (by first | (simp [hc5, hg7]; done) | (simp_all; done)))), sk rfl, sk rfl, sk rfl, sk rfl, sk rfl, sk rfl, trivial⟩ hQ6
          · skip
            refine pd_seq ?_
            refine jd_cond [T', T', T', F', T', F', F', T', F', F', T', F'] [T', T', T', F', T', F', F', T', F', F', T', T'] rfl rfl rfl rfl (fun hc8 => ?_) (fun hc8 => ?_)
            · simp only [Bool.and_eq_true, Bool.or_eq_true, Bool.not_eq_true', Bool.not_eq_false', Bool.and_eq_false_iff, Bool.or_eq_false_iff, decide_eq_true_eq, decide_eq_false_iff_not, Decidable.not_not, ne_eq] at hc8
              refine jd_seq [T', T', T', F', T', F', F', T', F', F', T', F', F'] [T', T', T', F', T', F', F', T', F', F', T', F', T'] rfl rfl rfl (jd_region rfl (od_pu rfl rfl (p_assign rfl) (od_nil rfl (pd_seq (jd_ret rfl (pd_block_ret (pd_seq_ret (pd_loop_ret (pd_block_ret (pd_seq_ret ?_))))))))))
              exact pd_retH Try.results128 (.cons (ro_cv (ro_tmp rfl) (Cv.eq (congrArg (fun b => D.v (.bool b)) (by unfold nameB; rw [nameR_start]; first | (rw [wordR_bad hx2 (by omega)]; simp; done) | (rw [List.take_of_length_le (by omega)] at hw; rw [List.getD_eq_getElem?_getD, hx1, hw]; simp; omega) | (rw [List.getD_eq_getElem?_getD, hx1]; simp; omega) | (simp; omega))))) .nil) rfl HSub.none ⟨rfl, rfl⟩
            · simp only [Bool.and_eq_true, Bool.or_eq_true, Bool.not_eq_true', Bool.not_eq_false', Bool.and_eq_false_iff, Bool.or_eq_false_iff, decide_eq_true_eq, decide_eq_false_iff_not, Decidable.not_not, ne_eq] at hc8
              refine jd_skip rfl (pd_block (pd_seq (jd_region rfl (od_pu rfl rfl (p_move rfl) (od_pu rfl rfl (p_add (c := ((k + 1 : Nat) : Int)) rfl rfl (w64eq (by omega) (by omega))) (od_pu rfl rfl (p_assign rfl) (od_nil rfl ?_)))))))
              exact pd_loop (k + 1) ⟨sk rfl, sk rfl, trivial⟩ HSub.rfl' ⟨by omega, wordR_take hx2 hw (by omega)⟩ (by omega)
        · replace hc5 := of_decide_eq_false hc5
          refine jd_exit rfl (pd_seq_exit (pd_loop_exit (pd_block_exit (pd_seq (jd_seq [T', T', T', T', F'] [T', T', T', T', T'] rfl rfl rfl (jd_region rfl (od_pu rfl rfl (p_assign rfl) (od_nil rfl (pd_seq (jd_ret rfl ?_))))))))))
          exact pd_retH Try.results128 (.cons (ro_cv (ro_tmp rfl) (Cv.eq (congrArg (fun b => D.v (.bool b)) (by unfold nameB; rw [nameR_start]; first | (rw [List.take_of_length_le (by omega)] at hw; rw [List.getD_eq_getElem?_getD, hx1, hw]; simp; omega) | (rw [List.getD_eq_getElem?_getD, hx1]; simp; omega) | (simp; omega))))) .nil) rfl HSub.none ⟨rfl, rfl⟩
end Lp
