/- Walks, printed by a program of mine (wip/tools/dw.py): each theorem says what a function of the translation hands back. -/
import Derived.Test.YtjhkajkickngmaaV10
import Derived.Test.YtjhkajkickngmaaPOrd
set_option linter.unusedSimpArgs false
set_option linter.unusedVariables false
namespace Lp
open Go Go.RowKit Go.Proofs

namespace HdV13
theorem eqb_4_neq (x y : Operand) (a b : Bool) (w : World) : (do eqGuard .neq 4 x y (.bool a) (.bool b); binOp .neq 4 (.bool a) (.bool b) : Sem Value).run Try.prog w = .ok (.bool (a != b)) w := by cases a <;> cases b <;> kernel_rfl
theorem infz_74 : ∃ i, Try.prog.info? 74 = some i ∧ i.zero = some (.agg #[(.string ByteArray.empty), (.string ByteArray.empty)]) ∧ i.size = 2 ∧ i.bytes = 32 := infz_of (by kernel_rfl)
theorem und_32 : Try.prog.underlying 32 = some (.slice 74) := by kernel_rfl
end HdV13
open HdV13

set_option maxHeartbeats 4000000 in
set_option maxRecDepth 100000 in
theorem law_texts_c (a : List Lbl) (b : List Lbl) (names : List ByteArray)  :
    CD Try.prog 10 [] [.sh 2 (a.map Lbl.d), .sh 2 (b.map Lbl.d), .sh 1 (names.map D.s)] (isR (dB true)) := by
  refine cd_of_JD Try.func10 rfl (N := 93) rfl rfl (fun C => ?_)
  refine JD.keep [0, 1, 2] [(0, .sh 2 (a.map Lbl.d)), (1, .sh 2 (b.map Lbl.d)), (2, .sh 1 (names.map D.s))] rfl ?_
  refine JD.bd 0 rfl (fun bd0 => ?_)
  have nl0 := bd_len bd0
  refine JD.bd 1 rfl (fun bd1 => ?_)
  have nl1 := bd_len bd1
  refine JD.bd 2 rfl (fun bd2 => ?_)
  have nl2 := bd_len bd2
  have hta := tidyL_len a
  have htb := tidyL_len b
  have hp1 := pickL_len (tidyL a) names true
  have hp2 := pickL_len (tidyL a) names false
  refine jd_seq [false] [true] rfl rfl rfl ?_
  refine jd_region rfl ?_
  refine od_pu rfl rfl (p_assign rfl) ?_
  refine od_nil rfl ?_
  refine pd_seq ?_
  refine jd_seq [true, false] [true, true] rfl rfl rfl ?_
  refine jd_seq [true, false, false] [true, false, true] rfl rfl rfl ?_
  refine JD.keep [0, 1, 2, 6] [(0, .sh 2 (a.map Lbl.d)), (1, .sh 2 (b.map Lbl.d)), (2, .sh 1 (names.map D.s)), (6, .v (.bool false))] rfl ?_
  refine jd_sum 30 (((!(lightL a) || !(lightL b)) || decide ((10 : Int) < ((names.length : Nat) : Int)))) [] (fun _ hQ1 => ?_) ?_
  · skip
    rcases Bool.eq_false_or_eq_true (lightL a) with hg2 | hg2
    · skip
      rcases Bool.eq_false_or_eq_true (lightL b) with hg3 | hg3
      · skip
        by_cases hg4 : (10 : Int) < ((names.length : Nat) : Int)
        · skip
          refine jd_region rfl ?_
          refine od_pu rfl rfl (p_move rfl) ?_
          refine od_step rfl rfl (ef_call [] _ [] rfl rfl (.cons ArgC.id .nil) lend_nil Try.call34 (Light2_c a) (.inl rfl)) ?_
          rintro _ _ ⟨_, ⟨rfl, rfl⟩, rfl⟩
          refine OpsD.norm [] rfl ?_
          refine OpsD.sub ((15, .v (.bool true)) :: [(0, .sh 2 (a.map Lbl.d)), (1, .sh 2 (b.map Lbl.d)), (2, .sh 1 (names.map D.s)), (6, .v (.bool false)), (14, .sh 2 (a.map Lbl.d))]) ⟨se rfl (congrArg (fun b => D.v (.bool b)) hg2), sk rfl, sk rfl, sk rfl, sk rfl, sk rfl, trivial⟩ ?_
          refine od_pu rfl rfl (p_not (q := true) rfl) ?_
          refine od_pu rfl rfl (p_move rfl) ?_
          refine od_runp rfl rfl rfl rfl rfl (p_move rfl) ?_
          refine od_run rfl rfl rfl rfl rfl (ef_call [] _ [] rfl rfl (.cons ArgC.id .nil) lend_nil Try.call34 (Light2_c b) (.inl rfl)) ?_
          rintro _ _ ⟨_, ⟨rfl, rfl⟩, rfl⟩
          refine OpsD.norm [] rfl ?_
          refine OpsD.sub ((19, .v (.bool true)) :: [(0, .sh 2 (a.map Lbl.d)), (1, .sh 2 (b.map Lbl.d)), (2, .sh 1 (names.map D.s)), (6, .v (.bool false)), (14, .sh 2 (a.map Lbl.d)), (15, .v (.bool true)), (16, .v (.bool false)), (17, .v (.bool false)), (18, .sh 2 (b.map Lbl.d))]) ⟨se rfl (congrArg (fun b => D.v (.bool b)) hg3), sk rfl, sk rfl, sk rfl, sk rfl, sk rfl, sk rfl, sk rfl, sk rfl, sk rfl, trivial⟩ ?_
          refine od_runp rfl rfl rfl rfl rfl (p_not (q := true) rfl) ?_
          refine od_pu rfl rfl (p_pick_f rfl rfl) ?_
          refine od_pu rfl rfl (p_move rfl) ?_
          refine od_runp rfl rfl rfl rfl rfl (p_move rfl) ?_
          refine od_runp rfl rfl rfl rfl rfl (p_len (n := names.length) rfl Try.runUnderlying76 (by simp only [List.length_map, List.length_cons, List.length_nil])) ?_
          refine od_runp rfl rfl rfl rfl rfl (p_gtr rfl rfl (decide_eq_true hg4)) ?_
          refine od_pu rfl rfl (p_pick_f rfl rfl) ?_
          refine od_pu rfl rfl (p_move rfl) ?_
          refine od_skip rfl rfl rfl rfl rfl (by decide) ?_
          refine od_skip rfl rfl rfl rfl rfl (by decide) ?_
          refine od_pu rfl rfl (p_pick_t rfl rfl) ?_
          refine od_nil rfl ?_
          exact PD.sub ((30, .v (.bool ((!(lightL a) || !(lightL b)) || decide ((10 : Int) < ((names.length : Nat) : Int))))) :: [(0, .sh 2 (a.map Lbl.d)), (1, .sh 2 (b.map Lbl.d)), (2, .sh 1 (names.map D.s)), (6, .v (.bool false))]) ⟨sc rfl (Cv.eq (congrArg (fun b => D.v (.bool b)) (by first | (simp [hg2, hg3, hg4]; done) | (simp_all; done)))), sk rfl, sk rfl, sk rfl, sk rfl, trivial⟩ hQ1
        · skip
          refine jd_region rfl ?_
          refine od_pu rfl rfl (p_move rfl) ?_
          refine od_step rfl rfl (ef_call [] _ [] rfl rfl (.cons ArgC.id .nil) lend_nil Try.call34 (Light2_c a) (.inl rfl)) ?_
          rintro _ _ ⟨_, ⟨rfl, rfl⟩, rfl⟩
          refine OpsD.norm [] rfl ?_
          refine OpsD.sub ((15, .v (.bool true)) :: [(0, .sh 2 (a.map Lbl.d)), (1, .sh 2 (b.map Lbl.d)), (2, .sh 1 (names.map D.s)), (6, .v (.bool false)), (14, .sh 2 (a.map Lbl.d))]) ⟨se rfl (congrArg (fun b => D.v (.bool b)) hg2), sk rfl, sk rfl, sk rfl, sk rfl, sk rfl, trivial⟩ ?_
          refine od_pu rfl rfl (p_not (q := true) rfl) ?_
          refine od_pu rfl rfl (p_move rfl) ?_
          refine od_runp rfl rfl rfl rfl rfl (p_move rfl) ?_
          refine od_run rfl rfl rfl rfl rfl (ef_call [] _ [] rfl rfl (.cons ArgC.id .nil) lend_nil Try.call34 (Light2_c b) (.inl rfl)) ?_
          rintro _ _ ⟨_, ⟨rfl, rfl⟩, rfl⟩
          refine OpsD.norm [] rfl ?_
          refine OpsD.sub ((19, .v (.bool true)) :: [(0, .sh 2 (a.map Lbl.d)), (1, .sh 2 (b.map Lbl.d)), (2, .sh 1 (names.map D.s)), (6, .v (.bool false)), (14, .sh 2 (a.map Lbl.d)), (15, .v (.bool true)), (16, .v (.bool false)), (17, .v (.bool false)), (18, .sh 2 (b.map Lbl.d))]) ⟨se rfl (congrArg (fun b => D.v (.bool b)) hg3), sk rfl, sk rfl, sk rfl, sk rfl, sk rfl, sk rfl, sk rfl, sk rfl, sk rfl, trivial⟩ ?_
          refine od_runp rfl rfl rfl rfl rfl (p_not (q := true) rfl) ?_
          refine od_pu rfl rfl (p_pick_f rfl rfl) ?_
          refine od_pu rfl rfl (p_move rfl) ?_
          refine od_runp rfl rfl rfl rfl rfl (p_move rfl) ?_
          refine od_runp rfl rfl rfl rfl rfl (p_len (n := names.length) rfl Try.runUnderlying76 (by simp only [List.length_map, List.length_cons, List.length_nil])) ?_
          refine od_runp rfl rfl rfl rfl rfl (p_gtr rfl rfl (decide_eq_false hg4)) ?_
          refine od_pu rfl rfl (p_pick_f rfl rfl) ?_
          refine od_pu rfl rfl (p_move rfl) ?_
          refine od_run rfl rfl rfl rfl rfl (ef_call [] _ [] rfl rfl (.nil) lend_nil Try.call35 (alive2_c) (.inl rfl)) ?_
          rintro _ _ ⟨_, ⟨rfl, rfl⟩, rfl⟩
          refine OpsD.norm [] rfl ?_
          refine od_runp rfl rfl rfl rfl rfl (p_not (q := true) rfl) ?_
          refine od_pu rfl rfl (p_pick_f rfl rfl) ?_
          refine od_nil rfl ?_
          exact PD.sub ((30, .v (.bool ((!(lightL a) || !(lightL b)) || decide ((10 : Int) < ((names.length : Nat) : Int))))) :: [(0, .sh 2 (a.map Lbl.d)), (1, .sh 2 (b.map Lbl.d)), (2, .sh 1 (names.map D.s)), (6, .v (.bool false))]) ⟨sc rfl (Cv.eq (congrArg (fun b => D.v (.bool b)) (by first | (simp [hg2, hg3, hg4]; done) | (simp_all; done)))), sk rfl, sk rfl, sk rfl, sk rfl, trivial⟩ hQ1
      · skip
        refine jd_region rfl ?_
        refine od_pu rfl rfl (p_move rfl) ?_
        refine od_step rfl rfl (ef_call [] _ [] rfl rfl (.cons ArgC.id .nil) lend_nil Try.call34 (Light2_c a) (.inl rfl)) ?_
        rintro _ _ ⟨_, ⟨rfl, rfl⟩, rfl⟩
        refine OpsD.norm [] rfl ?_
        refine OpsD.sub ((15, .v (.bool true)) :: [(0, .sh 2 (a.map Lbl.d)), (1, .sh 2 (b.map Lbl.d)), (2, .sh 1 (names.map D.s)), (6, .v (.bool false)), (14, .sh 2 (a.map Lbl.d))]) ⟨se rfl (congrArg (fun b => D.v (.bool b)) hg2), sk rfl, sk rfl, sk rfl, sk rfl, sk rfl, trivial⟩ ?_
        refine od_pu rfl rfl (p_not (q := true) rfl) ?_
        refine od_pu rfl rfl (p_move rfl) ?_
        refine od_runp rfl rfl rfl rfl rfl (p_move rfl) ?_
        refine od_run rfl rfl rfl rfl rfl (ef_call [] _ [] rfl rfl (.cons ArgC.id .nil) lend_nil Try.call34 (Light2_c b) (.inl rfl)) ?_
        rintro _ _ ⟨_, ⟨rfl, rfl⟩, rfl⟩
        refine OpsD.norm [] rfl ?_
        refine OpsD.sub ((19, .v (.bool false)) :: [(0, .sh 2 (a.map Lbl.d)), (1, .sh 2 (b.map Lbl.d)), (2, .sh 1 (names.map D.s)), (6, .v (.bool false)), (14, .sh 2 (a.map Lbl.d)), (15, .v (.bool true)), (16, .v (.bool false)), (17, .v (.bool false)), (18, .sh 2 (b.map Lbl.d))]) ⟨se rfl (congrArg (fun b => D.v (.bool b)) hg3), sk rfl, sk rfl, sk rfl, sk rfl, sk rfl, sk rfl, sk rfl, sk rfl, sk rfl, trivial⟩ ?_
        refine od_runp rfl rfl rfl rfl rfl (p_not (q := false) rfl) ?_
        refine od_pu rfl rfl (p_pick_f rfl rfl) ?_
        refine od_pu rfl rfl (p_move rfl) ?_
        refine od_skip rfl rfl rfl rfl rfl (by decide) ?_
        refine od_skip rfl rfl rfl rfl rfl (by decide) ?_
        refine od_skip rfl rfl rfl rfl rfl (by decide) ?_
        refine od_pu rfl rfl (p_pick_t rfl rfl) ?_
        refine od_pu rfl rfl (p_move rfl) ?_
        refine od_skip rfl rfl rfl rfl rfl (by decide) ?_
        refine od_skip rfl rfl rfl rfl rfl (by decide) ?_
        refine od_pu rfl rfl (p_pick_t rfl rfl) ?_
        refine od_nil rfl ?_
        exact PD.sub ((30, .v (.bool ((!(lightL a) || !(lightL b)) || decide ((10 : Int) < ((names.length : Nat) : Int))))) :: [(0, .sh 2 (a.map Lbl.d)), (1, .sh 2 (b.map Lbl.d)), (2, .sh 1 (names.map D.s)), (6, .v (.bool false))]) ⟨sc rfl (Cv.eq (congrArg (fun b => D.v (.bool b)) (by first | (simp [hg2, hg3]; done) | (simp_all; done)))), sk rfl, sk rfl, sk rfl, sk rfl, trivial⟩ hQ1
    · skip
      refine jd_region rfl ?_
      refine od_pu rfl rfl (p_move rfl) ?_
      refine od_step rfl rfl (ef_call [] _ [] rfl rfl (.cons ArgC.id .nil) lend_nil Try.call34 (Light2_c a) (.inl rfl)) ?_
      rintro _ _ ⟨_, ⟨rfl, rfl⟩, rfl⟩
      refine OpsD.norm [] rfl ?_
      refine OpsD.sub ((15, .v (.bool false)) :: [(0, .sh 2 (a.map Lbl.d)), (1, .sh 2 (b.map Lbl.d)), (2, .sh 1 (names.map D.s)), (6, .v (.bool false)), (14, .sh 2 (a.map Lbl.d))]) ⟨se rfl (congrArg (fun b => D.v (.bool b)) hg2), sk rfl, sk rfl, sk rfl, sk rfl, sk rfl, trivial⟩ ?_
      refine od_pu rfl rfl (p_not (q := false) rfl) ?_
      refine od_pu rfl rfl (p_move rfl) ?_
      refine od_skip rfl rfl rfl rfl rfl (by decide) ?_
      refine od_skip rfl rfl rfl rfl rfl (by decide) ?_
      refine od_skip rfl rfl rfl rfl rfl (by decide) ?_
      refine od_pu rfl rfl (p_pick_t rfl rfl) ?_
      refine od_pu rfl rfl (p_move rfl) ?_
      refine od_skip rfl rfl rfl rfl rfl (by decide) ?_
      refine od_skip rfl rfl rfl rfl rfl (by decide) ?_
      refine od_skip rfl rfl rfl rfl rfl (by decide) ?_
      refine od_pu rfl rfl (p_pick_t rfl rfl) ?_
      refine od_pu rfl rfl (p_move rfl) ?_
      refine od_skip rfl rfl rfl rfl rfl (by decide) ?_
      refine od_skip rfl rfl rfl rfl rfl (by decide) ?_
      refine od_pu rfl rfl (p_pick_t rfl rfl) ?_
      refine od_nil rfl ?_
      exact PD.sub ((30, .v (.bool ((!(lightL a) || !(lightL b)) || decide ((10 : Int) < ((names.length : Nat) : Int))))) :: [(0, .sh 2 (a.map Lbl.d)), (1, .sh 2 (b.map Lbl.d)), (2, .sh 1 (names.map D.s)), (6, .v (.bool false))]) ⟨sc rfl (Cv.eq (congrArg (fun b => D.v (.bool b)) (by first | (simp [hg2]; done) | (simp_all; done)))), sk rfl, sk rfl, sk rfl, sk rfl, trivial⟩ hQ1
  · skip
    refine pd_seq ?_
    refine jd_cond [true, false, true, false] [true, false, true, true] rfl rfl rfl rfl (fun hc5 => ?_) (fun hc5 => ?_)
    · simp only [Bool.and_eq_true, Bool.or_eq_true, Bool.not_eq_true', Bool.not_eq_false', Bool.and_eq_false_iff, Bool.or_eq_false_iff, decide_eq_true_eq, decide_eq_false_iff_not, Decidable.not_not, ne_eq] at hc5
      refine jd_seq [true, false, true, false, false] [true, false, true, false, true] rfl rfl rfl ?_
      refine jd_region rfl ?_
      refine od_step rfl rfl (ef_call [] _ [] rfl rfl (.nil) lend_nil Try.call35 (alive2_c) (.inl rfl)) ?_
      rintro _ _ ⟨_, ⟨rfl, rfl⟩, rfl⟩
      refine OpsD.norm [] rfl ?_
      refine od_pu rfl rfl (p_assign rfl) ?_
      refine od_nil rfl ?_
      refine pd_seq ?_
      refine jd_ret rfl ?_
      refine pd_seq_ret ?_
      exact pd_retH Try.results10 (.cons (ro_tmp rfl) .nil) rfl HSub.none ⟨rfl, rfl⟩
    · simp only [Bool.and_eq_true, Bool.or_eq_true, Bool.not_eq_true', Bool.not_eq_false', Bool.and_eq_false_iff, Bool.or_eq_false_iff, decide_eq_true_eq, decide_eq_false_iff_not, Decidable.not_not, ne_eq] at hc5
      have na : a.length ≤ 20 := by have h := hc5; first | exact lightL_len h | exact lightL_len h.1 | exact lightL_len h.1.1 | exact lightL_len h.1.2 | exact lightL_len h.2 | exact lightL_len h.1.1.1 | exact lightL_len h.1.1.2
      have nb : b.length ≤ 20 := by have h := hc5; first | exact lightL_len h | exact lightL_len h.1 | exact lightL_len h.1.1 | exact lightL_len h.1.2 | exact lightL_len h.2 | exact lightL_len h.1.1.1 | exact lightL_len h.1.1.2
      have lia : lightL a = true := by have h := hc5; first | exact h | exact h.1 | exact h.1.1 | exact h.1.2 | exact h.2 | exact h.1.1.1 | exact h.1.1.2
      have lib : lightL b = true := by have h := hc5; first | exact h | exact h.1 | exact h.1.1 | exact h.1.2 | exact h.2 | exact h.1.1.1 | exact h.1.1.2
      refine jd_skip rfl ?_
      refine pd_seq ?_
      refine jd_seq [true, true, false] [true, true, true] rfl rfl rfl ?_
      refine jd_region rfl ?_
      refine od_pu rfl rfl (p_move rfl) ?_
      refine od_step rfl rfl (ef_call [] _ [] rfl rfl (.cons ArgC.id .nil) lend_nil Try.call36 (tidy_c a) (.inl rfl)) ?_
      rintro _ _ ⟨_, ⟨v6, rfl, rfl⟩, rfl⟩
      refine OpsD.norm [.sl v6 2 74 ((tidyL a).map Lbl.d)] rfl ?_
      refine od_pu rfl rfl (p_move rfl) ?_
      refine od_pu rfl rfl (p_extract rfl rfl) ?_
      refine od_pu rfl rfl (p_extract rfl rfl) ?_
      refine od_pu rfl rfl (p_assign rfl) ?_
      refine od_pu rfl rfl (p_assign rfl) ?_
      refine od_nil rfl ?_
      refine pd_seq ?_
      refine jd_seq [true, true, true, false] [true, true, true, true] rfl rfl rfl ?_
      refine jd_region rfl ?_
      refine od_pu rfl rfl (p_move rfl) ?_
      refine od_step rfl rfl (ef_call [] _ [] rfl rfl (.cons ArgC.id .nil) lend_nil Try.call36 (tidy_c b) (.inl rfl)) ?_
      rintro _ _ ⟨_, ⟨v7, rfl, rfl⟩, rfl⟩
      refine OpsD.norm [.sl v7 2 74 ((tidyL b).map Lbl.d), .sl v6 2 74 ((tidyL a).map Lbl.d)] rfl ?_
      refine od_pu rfl rfl (p_move rfl) ?_
      refine od_pu rfl rfl (p_extract rfl rfl) ?_
      refine od_pu rfl rfl (p_extract rfl rfl) ?_
      refine od_pu rfl rfl (p_assign rfl) ?_
      refine od_pu rfl rfl (p_assign rfl) ?_
      refine od_nil rfl ?_
      refine pd_seq ?_
      refine JD.keep [2, 6, 7, 8, 9, 10] [(2, .sh 1 (names.map D.s)), (6, .v (.bool false)), (7, .ov v6), (8, .v (.int .i64 (tidyE a))), (9, .ov v7), (10, .v (.int .i64 (tidyE b)))] rfl ?_
      refine jd_seq [true, true, true, true, false] [true, true, true, true, true] rfl rfl rfl ?_
      refine jd_seq [true, true, true, true, false, false] [true, true, true, true, false, true] rfl rfl rfl ?_
      refine JD.keep [2, 6, 7, 8, 9, 10] [(2, .sh 1 (names.map D.s)), (6, .v (.bool false)), (7, .ov v6), (8, .v (.int .i64 (tidyE a))), (9, .ov v7), (10, .v (.int .i64 (tidyE b)))] rfl ?_
      refine jd_sum 47 ((decide (tidyE a ≠ (0 : Int)) || decide (tidyE b ≠ (0 : Int)))) [.sl v7 2 74 ((tidyL b).map Lbl.d), .sl v6 2 74 ((tidyL a).map Lbl.d)] (fun _ hQ8 => ?_) ?_
      · skip
        by_cases hg9 : tidyE a ≠ (0 : Int)
        · skip
          refine jd_region rfl ?_
          refine od_pu rfl rfl (p_move rfl) ?_
          refine od_pu rfl rfl (p_neq rfl rfl (decide_eq_true hg9)) ?_
          refine od_pu rfl rfl (p_move rfl) ?_
          refine od_skip rfl rfl rfl rfl rfl (by decide) ?_
          refine od_skip rfl rfl rfl rfl rfl (by decide) ?_
          refine od_pu rfl rfl (p_pick_t rfl rfl) ?_
          refine od_nil rfl ?_
          exact PD.sub ((47, .v (.bool (decide (tidyE a ≠ (0 : Int)) || decide (tidyE b ≠ (0 : Int))))) :: [(2, .sh 1 (names.map D.s)), (6, .v (.bool false)), (7, .ov v6), (8, .v (.int .i64 (tidyE a))), (9, .ov v7), (10, .v (.int .i64 (tidyE b)))]) ⟨sc rfl (Cv.eq (congrArg (fun b => D.v (.bool b)) (by first | (simp [hg9]; done) | (simp_all; done)))), sk rfl, sk rfl, sk rfl, sk rfl, sk rfl, sk rfl, trivial⟩ hQ8
        · skip
          refine jd_region rfl ?_
          refine od_pu rfl rfl (p_move rfl) ?_
          refine od_pu rfl rfl (p_neq rfl rfl (decide_eq_false hg9)) ?_
          refine od_pu rfl rfl (p_move rfl) ?_
          refine od_runp rfl rfl rfl rfl rfl (p_move rfl) ?_
          refine od_runp rfl rfl rfl rfl rfl (p_neq rfl rfl rfl) ?_
          refine od_pu rfl rfl (p_pick_f rfl rfl) ?_
          refine od_nil rfl ?_
          exact PD.sub ((47, .v (.bool (decide (tidyE a ≠ (0 : Int)) || decide (tidyE b ≠ (0 : Int))))) :: [(2, .sh 1 (names.map D.s)), (6, .v (.bool false)), (7, .ov v6), (8, .v (.int .i64 (tidyE a))), (9, .ov v7), (10, .v (.int .i64 (tidyE b)))]) ⟨sc rfl (Cv.eq (congrArg (fun b => D.v (.bool b)) (by first | (simp [hg9]; done) | (simp_all; done)))), sk rfl, sk rfl, sk rfl, sk rfl, sk rfl, sk rfl, trivial⟩ hQ8
      · skip
        refine pd_seq ?_
        refine jd_cond [true, true, true, true, false, true, false] [true, true, true, true, false, true, true] rfl rfl rfl rfl (fun hc10 => ?_) (fun hc10 => ?_)
        · simp only [Bool.and_eq_true, Bool.or_eq_true, Bool.not_eq_true', Bool.not_eq_false', Bool.and_eq_false_iff, Bool.or_eq_false_iff, decide_eq_true_eq, decide_eq_false_iff_not, Decidable.not_not, ne_eq] at hc10
          refine jd_seq [true, true, true, true, false, true, false, false] [true, true, true, true, false, true, false, true] rfl rfl rfl ?_
          refine JD.keep [2, 7, 8, 9, 10, 47] [(2, .sh 1 (names.map D.s)), (7, .ov v6), (8, .v (.int .i64 (tidyE a))), (9, .ov v7), (10, .v (.int .i64 (tidyE b))), (47, .v (.bool (decide (tidyE a ≠ (0 : Int)) || decide (tidyE b ≠ (0 : Int)))))] rfl ?_
          refine jd_sum 6 (((decide (tidyE a = (0 : Int)) || decide ((((tidyL a).length : Nat) : Int) = (0 : Int))) && (decide (tidyE b = (0 : Int)) || decide ((((tidyL b).length : Nat) : Int) = (0 : Int))))) [.sl v7 2 74 ((tidyL b).map Lbl.d), .sl v6 2 74 ((tidyL a).map Lbl.d)] (fun _ hQ11 => ?_) ?_
          · skip
            by_cases hg12 : tidyE a = (0 : Int)
            · skip
              by_cases hg13 : tidyE b = (0 : Int)
              · skip
                refine jd_region rfl ?_
                refine od_pu rfl rfl (p_move rfl) ?_
                refine od_pu rfl rfl (p_eql rfl rfl (decide_eq_true hg12)) ?_
                refine od_pu rfl rfl (p_move rfl) ?_
                refine od_skip rfl rfl rfl rfl rfl (by decide) ?_
                refine od_skip rfl rfl rfl rfl rfl (by decide) ?_
                refine od_skip rfl rfl rfl rfl rfl (by decide) ?_
                refine od_pu rfl rfl (p_pick_t rfl rfl) ?_
                refine od_pu rfl rfl (p_move rfl) ?_
                refine od_runp rfl rfl rfl rfl rfl (p_move rfl) ?_
                refine od_runp rfl rfl rfl rfl rfl (p_eql rfl rfl (decide_eq_true hg13)) ?_
                refine od_runp rfl rfl rfl rfl rfl (p_move rfl) ?_
                refine od_skip rfl rfl rfl rfl rfl (by decide) ?_
                refine od_skip rfl rfl rfl rfl rfl (by decide) ?_
                refine od_skip rfl rfl rfl rfl rfl (by decide) ?_
                refine od_runp rfl rfl rfl rfl rfl (p_pick_t rfl rfl) ?_
                refine od_pu rfl rfl (p_pick_t rfl rfl) ?_
                refine od_pu rfl rfl (p_assign rfl) ?_
                refine od_nil rfl ?_
                exact PD.sub ((6, .v (.bool ((decide (tidyE a = (0 : Int)) || decide ((((tidyL a).length : Nat) : Int) = (0 : Int))) && (decide (tidyE b = (0 : Int)) || decide ((((tidyL b).length : Nat) : Int) = (0 : Int)))))) :: [(2, .sh 1 (names.map D.s)), (7, .ov v6), (8, .v (.int .i64 (tidyE a))), (9, .ov v7), (10, .v (.int .i64 (tidyE b))), (47, .v (.bool (decide (tidyE a ≠ (0 : Int)) || decide (tidyE b ≠ (0 : Int)))))]) ⟨sc rfl (Cv.eq (congrArg (fun b => D.v (.bool b)) (by first | (simp [hg12, hg13]; done) | (simp_all; done)))), sk rfl, sk rfl, sk rfl, sk rfl, sk rfl, sk rfl, trivial⟩ hQ11
              · skip
                refine jd_region rfl ?_
                refine od_pu rfl rfl (p_move rfl) ?_
                refine od_pu rfl rfl (p_eql rfl rfl (decide_eq_true hg12)) ?_
                refine od_pu rfl rfl (p_move rfl) ?_
                refine od_skip rfl rfl rfl rfl rfl (by decide) ?_
                refine od_skip rfl rfl rfl rfl rfl (by decide) ?_
                refine od_skip rfl rfl rfl rfl rfl (by decide) ?_
                refine od_pu rfl rfl (p_pick_t rfl rfl) ?_
                refine od_pu rfl rfl (p_move rfl) ?_
                refine od_runp rfl rfl rfl rfl rfl (p_move rfl) ?_
                refine od_runp rfl rfl rfl rfl rfl (p_eql rfl rfl (decide_eq_false hg13)) ?_
                refine od_runp rfl rfl rfl rfl rfl (p_move rfl) ?_
                refine od_runp rfl rfl rfl rfl rfl (p_move rfl) ?_
                refine od_runp rfl rfl rfl rfl rfl (p_len_own (n := (tidyL b).length) (j := 0) rfl rfl Try.runUnderlying32 (List.length_map _)) ?_
                refine od_runp rfl rfl rfl rfl rfl (p_eql rfl rfl rfl) ?_
                refine od_runp rfl rfl rfl rfl rfl (p_pick_f rfl rfl) ?_
                refine od_pu rfl rfl (p_pick_t rfl rfl) ?_
                refine od_pu rfl rfl (p_assign rfl) ?_
                refine od_nil rfl ?_
                exact PD.sub ((6, .v (.bool ((decide (tidyE a = (0 : Int)) || decide ((((tidyL a).length : Nat) : Int) = (0 : Int))) && (decide (tidyE b = (0 : Int)) || decide ((((tidyL b).length : Nat) : Int) = (0 : Int)))))) :: [(2, .sh 1 (names.map D.s)), (7, .ov v6), (8, .v (.int .i64 (tidyE a))), (9, .ov v7), (10, .v (.int .i64 (tidyE b))), (47, .v (.bool (decide (tidyE a ≠ (0 : Int)) || decide (tidyE b ≠ (0 : Int)))))]) ⟨sc rfl (Cv.eq (congrArg (fun b => D.v (.bool b)) (by first | (simp [hg12, hg13]; done) | (simp_all; done)))), sk rfl, sk rfl, sk rfl, sk rfl, sk rfl, sk rfl, trivial⟩ hQ11
            · skip
              by_cases hg14 : (((tidyL a).length : Nat) : Int) = (0 : Int)
              · skip
                by_cases hg15 : tidyE b = (0 : Int)
                · skip
                  refine jd_region rfl ?_
                  refine od_pu rfl rfl (p_move rfl) ?_
                  refine od_pu rfl rfl (p_eql rfl rfl (decide_eq_false hg12)) ?_
                  refine od_pu rfl rfl (p_move rfl) ?_
                  refine od_runp rfl rfl rfl rfl rfl (p_move rfl) ?_
                  refine od_runp rfl rfl rfl rfl rfl (p_len_own (n := (tidyL a).length) (j := 1) rfl rfl Try.runUnderlying32 (List.length_map _)) ?_
                  refine od_runp rfl rfl rfl rfl rfl (p_eql rfl rfl (decide_eq_true hg14)) ?_
                  refine od_pu rfl rfl (p_pick_f rfl rfl) ?_
                  refine od_pu rfl rfl (p_move rfl) ?_
                  refine od_runp rfl rfl rfl rfl rfl (p_move rfl) ?_
                  refine od_runp rfl rfl rfl rfl rfl (p_eql rfl rfl (decide_eq_true hg15)) ?_
                  refine od_runp rfl rfl rfl rfl rfl (p_move rfl) ?_
                  refine od_skip rfl rfl rfl rfl rfl (by decide) ?_
                  refine od_skip rfl rfl rfl rfl rfl (by decide) ?_
                  refine od_skip rfl rfl rfl rfl rfl (by decide) ?_
                  refine od_runp rfl rfl rfl rfl rfl (p_pick_t rfl rfl) ?_
                  refine od_pu rfl rfl (p_pick_t rfl rfl) ?_
                  refine od_pu rfl rfl (p_assign rfl) ?_
                  refine od_nil rfl ?_
                  exact PD.sub ((6, .v (.bool ((decide (tidyE a = (0 : Int)) || decide ((((tidyL a).length : Nat) : Int) = (0 : Int))) && (decide (tidyE b = (0 : Int)) || decide ((((tidyL b).length : Nat) : Int) = (0 : Int)))))) :: [(2, .sh 1 (names.map D.s)), (7, .ov v6), (8, .v (.int .i64 (tidyE a))), (9, .ov v7), (10, .v (.int .i64 (tidyE b))), (47, .v (.bool (decide (tidyE a ≠ (0 : Int)) || decide (tidyE b ≠ (0 : Int)))))]) ⟨sc rfl (Cv.eq (congrArg (fun b => D.v (.bool b)) (by first | (simp [hg12, hg14, hg15]; done) | (simp_all; done)))), sk rfl, sk rfl, sk rfl, sk rfl, sk rfl, sk rfl, trivial⟩ hQ11
                · skip
                  refine jd_region rfl ?_
                  refine od_pu rfl rfl (p_move rfl) ?_
                  refine od_pu rfl rfl (p_eql rfl rfl (decide_eq_false hg12)) ?_
                  refine od_pu rfl rfl (p_move rfl) ?_
                  refine od_runp rfl rfl rfl rfl rfl (p_move rfl) ?_
                  refine od_runp rfl rfl rfl rfl rfl (p_len_own (n := (tidyL a).length) (j := 1) rfl rfl Try.runUnderlying32 (List.length_map _)) ?_
                  refine od_runp rfl rfl rfl rfl rfl (p_eql rfl rfl (decide_eq_true hg14)) ?_
                  refine od_pu rfl rfl (p_pick_f rfl rfl) ?_
                  refine od_pu rfl rfl (p_move rfl) ?_
                  refine od_runp rfl rfl rfl rfl rfl (p_move rfl) ?_
                  refine od_runp rfl rfl rfl rfl rfl (p_eql rfl rfl (decide_eq_false hg15)) ?_
                  refine od_runp rfl rfl rfl rfl rfl (p_move rfl) ?_
                  refine od_runp rfl rfl rfl rfl rfl (p_move rfl) ?_
                  refine od_runp rfl rfl rfl rfl rfl (p_len_own (n := (tidyL b).length) (j := 0) rfl rfl Try.runUnderlying32 (List.length_map _)) ?_
                  refine od_runp rfl rfl rfl rfl rfl (p_eql rfl rfl rfl) ?_
                  refine od_runp rfl rfl rfl rfl rfl (p_pick_f rfl rfl) ?_
                  refine od_pu rfl rfl (p_pick_t rfl rfl) ?_
                  refine od_pu rfl rfl (p_assign rfl) ?_
                  refine od_nil rfl ?_
                  exact PD.sub ((6, .v (.bool ((decide (tidyE a = (0 : Int)) || decide ((((tidyL a).length : Nat) : Int) = (0 : Int))) && (decide (tidyE b = (0 : Int)) || decide ((((tidyL b).length : Nat) : Int) = (0 : Int)))))) :: [(2, .sh 1 (names.map D.s)), (7, .ov v6), (8, .v (.int .i64 (tidyE a))), (9, .ov v7), (10, .v (.int .i64 (tidyE b))), (47, .v (.bool (decide (tidyE a ≠ (0 : Int)) || decide (tidyE b ≠ (0 : Int)))))]) ⟨sc rfl (Cv.eq (congrArg (fun b => D.v (.bool b)) (by first | (simp [hg12, hg14, hg15]; done) | (simp_all; done)))), sk rfl, sk rfl, sk rfl, sk rfl, sk rfl, sk rfl, trivial⟩ hQ11
              · skip
                refine jd_region rfl ?_
                refine od_pu rfl rfl (p_move rfl) ?_
                refine od_pu rfl rfl (p_eql rfl rfl (decide_eq_false hg12)) ?_
                refine od_pu rfl rfl (p_move rfl) ?_
                refine od_runp rfl rfl rfl rfl rfl (p_move rfl) ?_
                refine od_runp rfl rfl rfl rfl rfl (p_len_own (n := (tidyL a).length) (j := 1) rfl rfl Try.runUnderlying32 (List.length_map _)) ?_
                refine od_runp rfl rfl rfl rfl rfl (p_eql rfl rfl (decide_eq_false hg14)) ?_
                refine od_pu rfl rfl (p_pick_f rfl rfl) ?_
                refine od_pu rfl rfl (p_move rfl) ?_
                refine od_skip rfl rfl rfl rfl rfl (by decide) ?_
                refine od_skip rfl rfl rfl rfl rfl (by decide) ?_
                refine od_skip rfl rfl rfl rfl rfl (by decide) ?_
                refine od_skip rfl rfl rfl rfl rfl (by decide) ?_
                refine od_skip rfl rfl rfl rfl rfl (by decide) ?_
                refine od_skip rfl rfl rfl rfl rfl (by decide) ?_
                refine od_skip rfl rfl rfl rfl rfl (by decide) ?_
                refine od_pu rfl rfl (p_pick_f rfl rfl) ?_
                refine od_pu rfl rfl (p_assign rfl) ?_
                refine od_nil rfl ?_
                exact PD.sub ((6, .v (.bool ((decide (tidyE a = (0 : Int)) || decide ((((tidyL a).length : Nat) : Int) = (0 : Int))) && (decide (tidyE b = (0 : Int)) || decide ((((tidyL b).length : Nat) : Int) = (0 : Int)))))) :: [(2, .sh 1 (names.map D.s)), (7, .ov v6), (8, .v (.int .i64 (tidyE a))), (9, .ov v7), (10, .v (.int .i64 (tidyE b))), (47, .v (.bool (decide (tidyE a ≠ (0 : Int)) || decide (tidyE b ≠ (0 : Int)))))]) ⟨sc rfl (Cv.eq (congrArg (fun b => D.v (.bool b)) (by first | (simp [hg12, hg14]; done) | (simp_all; done)))), sk rfl, sk rfl, sk rfl, sk rfl, sk rfl, sk rfl, trivial⟩ hQ11
          · skip
            refine pd_seq ?_
            refine jd_ret rfl ?_
            refine pd_seq_ret ?_
            exact pd_retH Try.results10 (.cons (ro_cv (ro_tmp rfl) (Cv.eq (congrArg (fun b => D.v (.bool b)) (by rcases tidyE_cases a with ⟨h1, _⟩ | ⟨h1, h2⟩ <;> rcases tidyE_cases b with ⟨h3, _⟩ | ⟨h3, h4⟩ <;> simp_all)))) .nil) rfl HSub.none ⟨rfl, rfl⟩
        · simp only [Bool.and_eq_true, Bool.or_eq_true, Bool.not_eq_true', Bool.not_eq_false', Bool.and_eq_false_iff, Bool.or_eq_false_iff, decide_eq_true_eq, decide_eq_false_iff_not, Decidable.not_not, ne_eq] at hc10
          have ha0 : tidyE a = 0 := by omega
          have hb0 : tidyE b = 0 := by omega
          have hbo := tidy_both ha0 names
          refine jd_skip rfl ?_
          refine pd_seq ?_
          refine jd_seq [true, true, true, true, true, false] [true, true, true, true, true, true] rfl rfl rfl ?_
          refine jd_seq [true, true, true, true, true, false, false] [true, true, true, true, true, false, true] rfl rfl rfl ?_
          refine jd_region rfl ?_
          refine od_pu rfl rfl (p_move rfl) ?_
          refine od_step rfl rfl (ef_call [] _ [.sl v6 2 74 ((tidyL a).map Lbl.d)] rfl rfl (.cons (ArgC.own (j := 0) rfl rfl) .nil) (lend_cons (j := 1) rfl lend_nil) Try.call42 (Text_c (tidyL a) (by omega) (tidy_sizes lia)) (.inr (isR_flat rfl))) ?_
          rintro _ _ ⟨_, ⟨rfl, rfl⟩, rfl⟩
          refine OpsD.norm [.sl v7 2 74 ((tidyL b).map Lbl.d), .sl v6 2 74 ((tidyL a).map Lbl.d)] rfl ?_
          refine od_pu rfl rfl (p_move rfl) ?_
          refine od_step rfl rfl (ef_call [] _ [.sl v7 2 74 ((tidyL b).map Lbl.d)] rfl rfl (.cons (ArgC.own (j := 0) rfl rfl) .nil) (lend_cons (j := 0) rfl lend_nil) Try.call42 (Text_c (tidyL b) (by omega) (tidy_sizes lib)) (.inr (isR_flat rfl))) ?_
          rintro _ _ ⟨_, ⟨rfl, rfl⟩, rfl⟩
          refine OpsD.norm [.sl v7 2 74 ((tidyL b).map Lbl.d), .sl v6 2 74 ((tidyL a).map Lbl.d)] rfl ?_
          refine od_pu rfl rfl (p_eqs rfl rfl rfl) ?_
          refine od_pu rfl rfl (p_move rfl) ?_
          refine od_pu rfl rfl (p_move rfl) ?_
          refine od_step rfl rfl (ef_call [] _ [.sl v6 2 74 ((tidyL a).map Lbl.d), .sl v7 2 74 ((tidyL b).map Lbl.d)] rfl rfl (.cons (ArgC.own (j := 0) rfl rfl) (.cons (ArgC.own (j := 1) rfl rfl) .nil)) (lend_cons (j := 1) rfl (lend_cons (j := 0) rfl lend_nil)) Try.call37 (SameLabels_c (tidyL a) (tidyL b)) (.inr (isR_flat rfl))) ?_
          rintro _ _ ⟨_, ⟨rfl, rfl⟩, rfl⟩
          refine OpsD.norm [.sl v7 2 74 ((tidyL b).map Lbl.d), .sl v6 2 74 ((tidyL a).map Lbl.d)] rfl ?_
          refine od_pu rfl rfl (p_bin (r := .bool (decide ((textB (tidyL a)) = (textB (tidyL b))) != decide ((tidyL a) = (tidyL b)))) rfl rfl (eqb_4_neq _ _ _ _)) ?_
          refine od_nil rfl ?_
          refine pd_seq ?_
          refine JD.keep [2, 6, 7, 72] [(2, .sh 1 (names.map D.s)), (6, .v (.bool false)), (7, .ov v6), (72, .v (.bool (decide ((textB (tidyL a)) = (textB (tidyL b))) != decide ((tidyL a) = (tidyL b)))))] rfl ?_
          refine jd_cond [true, true, true, true, true, false, true, false] [true, true, true, true, true, false, true, true] rfl rfl rfl rfl (fun hc16 => ?_) (fun hc16 => ?_)
          · skip
            exfalso; exact texts_dead ha0 hb0 hc16
          · skip
            refine jd_skip rfl ?_
            refine pd_seq ?_
            refine jd_seq [true, true, true, true, true, true, false] [true, true, true, true, true, true, true] rfl rfl rfl ?_
            refine jd_region rfl ?_
            refine od_pu rfl rfl (p_move rfl) ?_
            refine od_pu rfl rfl (p_move rfl) ?_
            refine od_step rfl rfl (ef_call [] _ [.sl v6 2 74 ((tidyL a).map Lbl.d)] rfl rfl (.cons (ArgC.own (j := 0) rfl rfl) (.cons ArgC.id .nil)) (lend_cons (j := 1) rfl lend_nil) Try.call39 (only_c (tidyL a) names (by omega)) (.inr (isOwn_flat (flatL_map (fun _ => rfl) _)))) ?_
            rintro _ _ ⟨_, ⟨v17, rfl, rfl⟩, rfl⟩
            refine OpsD.norm [.sl v17 2 74 ((pickL (tidyL a) names true).map Lbl.d), .sl v7 2 74 ((tidyL b).map Lbl.d), .sl v6 2 74 ((tidyL a).map Lbl.d)] rfl ?_
            refine od_step rfl rfl (ef_append_n (f := Lbl.d) (l' := pickL (tidyL a) names true) rfl rfl (SrcD.own (j := 1) rfl rfl) und_32 infz_74 rfl rfl (by unfold maxLen; (try simp only [List.length_append, List.length_cons, List.length_nil, List.length_map, List.length_take, List.length_drop, List.length_set, List.length_replicate]); omega) (by (try simp only [List.length_append, List.length_cons, List.length_nil, List.length_map, List.length_take, List.length_drop, List.length_set, List.length_replicate]); omega)) ?_
            rintro _ _ ⟨v18, rfl, rfl⟩
            refine od_pu rfl rfl (p_move rfl) ?_
            refine od_pu rfl rfl (p_move rfl) ?_
            refine od_step rfl rfl (ef_call [] _ [.sl v6 2 74 ((tidyL a).map Lbl.d)] rfl rfl (.cons (ArgC.own (j := 0) rfl rfl) (.cons ArgC.id .nil)) (lend_cons (j := 3) rfl lend_nil) Try.call43 (without_c (tidyL a) names (by omega)) (.inr (isOwn_flat (flatL_map (fun _ => rfl) _)))) ?_
            rintro _ _ ⟨_, ⟨v19, rfl, rfl⟩, rfl⟩
            refine OpsD.norm [.sl v19 2 74 ((pickL (tidyL a) names false).map Lbl.d), .sl v18 2 74 ((pickL (tidyL a) names true).map Lbl.d), .sl v17 2 74 ((pickL (tidyL a) names true).map Lbl.d), .sl v7 2 74 ((tidyL b).map Lbl.d), .sl v6 2 74 ((tidyL a).map Lbl.d)] rfl ?_
            refine od_step rfl rfl (ef_append_m (f := Lbl.d) (l := pickL (tidyL a) names true) (l' := pickL (tidyL a) names false) (i := 1) rfl rfl rfl (SrcD.own (j := 0) rfl rfl) und_32 infz_74 rfl rfl (by unfold maxLen; (try simp only [List.length_append, List.length_cons, List.length_nil, List.length_map, List.length_take, List.length_drop, List.length_set, List.length_replicate]); omega) (by (try simp only [List.length_append, List.length_cons, List.length_nil, List.length_map, List.length_take, List.length_drop, List.length_set, List.length_replicate]); omega)) ?_
            rintro _ _ ⟨v20, rfl, rfl⟩
            refine OpsD.norm [.sl v19 2 74 ((pickL (tidyL a) names false).map Lbl.d), .sl v20 2 74 (((pickL (tidyL a) names true) ++ (pickL (tidyL a) names false)).map Lbl.d), .sl v17 2 74 ((pickL (tidyL a) names true).map Lbl.d), .sl v7 2 74 ((tidyL b).map Lbl.d), .sl v6 2 74 ((tidyL a).map Lbl.d)] rfl ?_
            refine od_pu rfl rfl (p_assign rfl) ?_
            refine od_nil rfl ?_
            refine pd_seq ?_
            refine JD.keep [6, 7, 11] [(6, .v (.bool false)), (7, .ov v6), (11, .ov v20)] rfl ?_
            refine jd_seq [true, true, true, true, true, true, true, false] [true, true, true, true, true, true, true, true] rfl rfl rfl ?_
            refine jd_region rfl ?_
            refine od_pu rfl rfl (p_move rfl) ?_
            refine od_step rfl rfl (ef_call [] _ [.sl v20 2 74 (((pickL (tidyL a) names true) ++ (pickL (tidyL a) names false)).map Lbl.d)] rfl rfl (.cons (ArgC.own (j := 0) rfl rfl) .nil) (lend_cons (j := 1) rfl lend_nil) Try.call36 (tidy_c ((pickL (tidyL a) names true) ++ (pickL (tidyL a) names false))) (.inr (fun _ _ ⟨_, e1, e2⟩ => by subst e1; subst e2; exact ⟨rfl, fun x hx => by rcases hx with _ | ⟨_, hx⟩ <;> first | exact flatL_map (fun _ => rfl) _ | (cases hx; exact flatL_map (fun _ => rfl) _) | cases hx⟩))) ?_
            rintro _ _ ⟨_, ⟨v21, rfl, rfl⟩, rfl⟩
            refine OpsD.norm [.sl v21 2 74 ((tidyL ((pickL (tidyL a) names true) ++ (pickL (tidyL a) names false))).map Lbl.d), .sl v19 2 74 ((pickL (tidyL a) names false).map Lbl.d), .sl v20 2 74 (((pickL (tidyL a) names true) ++ (pickL (tidyL a) names false)).map Lbl.d), .sl v17 2 74 ((pickL (tidyL a) names true).map Lbl.d), .sl v7 2 74 ((tidyL b).map Lbl.d), .sl v6 2 74 ((tidyL a).map Lbl.d)] rfl ?_
            refine od_pu rfl rfl (p_move rfl) ?_
            refine od_pu rfl rfl (p_extract rfl rfl) ?_
            refine od_pu rfl rfl (p_extract rfl rfl) ?_
            refine od_pu rfl rfl (p_assign rfl) ?_
            refine od_pu rfl rfl (p_assign rfl) ?_
            refine od_nil rfl ?_
            refine pd_seq ?_
            refine jd_seq [true, true, true, true, true, true, true, true, false] [true, true, true, true, true, true, true, true, true] rfl rfl rfl ?_
            refine JD.keep [7, 11, 12, 13, 81, 82, 83, 84, 85] [(7, .ov v6), (11, .ov v20), (12, .ov v21), (13, .v (.int .i64 (tidyE ((pickL (tidyL a) names true) ++ (pickL (tidyL a) names false))))), (81, .tup [.ov v21, .v (.int .i64 (tidyE ((pickL (tidyL a) names true) ++ (pickL (tidyL a) names false))))]), (82, .ov v20), (83, .tup [.ov v21, .v (.int .i64 (tidyE ((pickL (tidyL a) names true) ++ (pickL (tidyL a) names false))))]), (84, .ov v21), (85, .v (.int .i64 (tidyE ((pickL (tidyL a) names true) ++ (pickL (tidyL a) names false)))))] rfl ?_
            refine jd_sum 6 ((decide (tidyE ((pickL (tidyL a) names true) ++ (pickL (tidyL a) names false)) = (0 : Int)) && decide ((tidyL ((pickL (tidyL a) names true) ++ (pickL (tidyL a) names false))) = (tidyL a)))) [.sl v21 2 74 ((tidyL ((pickL (tidyL a) names true) ++ (pickL (tidyL a) names false))).map Lbl.d), .sl v19 2 74 ((pickL (tidyL a) names false).map Lbl.d), .sl v20 2 74 (((pickL (tidyL a) names true) ++ (pickL (tidyL a) names false)).map Lbl.d), .sl v17 2 74 ((pickL (tidyL a) names true).map Lbl.d), .sl v7 2 74 ((tidyL b).map Lbl.d), .sl v6 2 74 ((tidyL a).map Lbl.d)] (fun _ hQ22 => ?_) ?_
            · skip
              by_cases hg23 : tidyE ((pickL (tidyL a) names true) ++ (pickL (tidyL a) names false)) = (0 : Int)
              · skip
                refine jd_region rfl ?_
                refine od_pu rfl rfl (p_move rfl) ?_
                refine od_pu rfl rfl (p_eql rfl rfl (decide_eq_true hg23)) ?_
                refine od_pu rfl rfl (p_move rfl) ?_
                refine od_runp rfl rfl rfl rfl rfl (p_move rfl) ?_
                refine od_runp rfl rfl rfl rfl rfl (p_move rfl) ?_
                refine od_run rfl rfl rfl rfl rfl (ef_call [] _ [.sl v21 2 74 ((tidyL ((pickL (tidyL a) names true) ++ (pickL (tidyL a) names false))).map Lbl.d), .sl v6 2 74 ((tidyL a).map Lbl.d)] rfl rfl (.cons (ArgC.own (j := 0) rfl rfl) (.cons (ArgC.own (j := 1) rfl rfl) .nil)) (lend_cons (j := 0) rfl (lend_cons (j := 5) rfl lend_nil)) Try.call37 (SameLabels_c (tidyL ((pickL (tidyL a) names true) ++ (pickL (tidyL a) names false))) (tidyL a)) (.inr (isR_flat rfl))) ?_
                rintro _ _ ⟨_, ⟨rfl, rfl⟩, rfl⟩
                refine OpsD.norm [.sl v21 2 74 ((tidyL ((pickL (tidyL a) names true) ++ (pickL (tidyL a) names false))).map Lbl.d), .sl v19 2 74 ((pickL (tidyL a) names false).map Lbl.d), .sl v20 2 74 (((pickL (tidyL a) names true) ++ (pickL (tidyL a) names false)).map Lbl.d), .sl v17 2 74 ((pickL (tidyL a) names true).map Lbl.d), .sl v7 2 74 ((tidyL b).map Lbl.d), .sl v6 2 74 ((tidyL a).map Lbl.d)] rfl ?_
                refine od_pu rfl rfl (p_pick_t rfl rfl) ?_
                refine od_pu rfl rfl (p_assign rfl) ?_
                refine od_nil rfl ?_
                exact PD.sub ((6, .v (.bool (decide (tidyE ((pickL (tidyL a) names true) ++ (pickL (tidyL a) names false)) = (0 : Int)) && decide ((tidyL ((pickL (tidyL a) names true) ++ (pickL (tidyL a) names false))) = (tidyL a))))) :: [(7, .ov v6), (11, .ov v20), (12, .ov v21), (13, .v (.int .i64 (tidyE ((pickL (tidyL a) names true) ++ (pickL (tidyL a) names false))))), (81, .tup [.ov v21, .v (.int .i64 (tidyE ((pickL (tidyL a) names true) ++ (pickL (tidyL a) names false))))]), (82, .ov v20), (83, .tup [.ov v21, .v (.int .i64 (tidyE ((pickL (tidyL a) names true) ++ (pickL (tidyL a) names false))))]), (84, .ov v21), (85, .v (.int .i64 (tidyE ((pickL (tidyL a) names true) ++ (pickL (tidyL a) names false)))))]) ⟨sc rfl (Cv.eq (congrArg (fun b => D.v (.bool b)) (by first | (simp [hg23]; done) | (simp_all; done)))), sk rfl, sk rfl, sk rfl, sk rfl, sk rfl, sk rfl, sk rfl, sk rfl, sk rfl, trivial⟩ hQ22
              · skip
                refine jd_region rfl ?_
                refine od_pu rfl rfl (p_move rfl) ?_
                refine od_pu rfl rfl (p_eql rfl rfl (decide_eq_false hg23)) ?_
                refine od_pu rfl rfl (p_move rfl) ?_
                refine od_skip rfl rfl rfl rfl rfl (by decide) ?_
                refine od_skip rfl rfl rfl rfl rfl (by decide) ?_
                refine od_skip rfl rfl rfl rfl rfl (by decide) ?_
                refine od_pu rfl rfl (p_pick_f rfl rfl) ?_
                refine od_pu rfl rfl (p_assign rfl) ?_
                refine od_nil rfl ?_
                exact PD.sub ((6, .v (.bool (decide (tidyE ((pickL (tidyL a) names true) ++ (pickL (tidyL a) names false)) = (0 : Int)) && decide ((tidyL ((pickL (tidyL a) names true) ++ (pickL (tidyL a) names false))) = (tidyL a))))) :: [(7, .ov v6), (11, .ov v20), (12, .ov v21), (13, .v (.int .i64 (tidyE ((pickL (tidyL a) names true) ++ (pickL (tidyL a) names false))))), (81, .tup [.ov v21, .v (.int .i64 (tidyE ((pickL (tidyL a) names true) ++ (pickL (tidyL a) names false))))]), (82, .ov v20), (83, .tup [.ov v21, .v (.int .i64 (tidyE ((pickL (tidyL a) names true) ++ (pickL (tidyL a) names false))))]), (84, .ov v21), (85, .v (.int .i64 (tidyE ((pickL (tidyL a) names true) ++ (pickL (tidyL a) names false)))))]) ⟨sc rfl (Cv.eq (congrArg (fun b => D.v (.bool b)) (by first | (simp [hg23]; done) | (simp_all; done)))), sk rfl, sk rfl, sk rfl, sk rfl, sk rfl, sk rfl, sk rfl, sk rfl, sk rfl, trivial⟩ hQ22
            · skip
              refine pd_seq ?_
              refine JD.keep [6] [(6, .v (.bool (decide (tidyE ((pickL (tidyL a) names true) ++ (pickL (tidyL a) names false)) = (0 : Int)) && decide ((tidyL ((pickL (tidyL a) names true) ++ (pickL (tidyL a) names false))) = (tidyL a)))))] rfl ?_
              refine jd_ret rfl ?_
              exact pd_retH Try.results10 (.cons (ro_cv (ro_tmp rfl) (Cv.eq (congrArg (fun b => D.v (.bool b)) (by simp [hbo.1, hbo.2])))) .nil) rfl HSub.none ⟨rfl, rfl⟩
end Lp
