/- Walks, printed by a program of mine (wip/tools/dw.py): each theorem says what a function of the translation hands back. -/
import Derived.Test.YtjhkajkickngmaaV10
import Derived.Test.YtjhkajkickngmaaPOrd
set_option linter.unusedSimpArgs false
set_option linter.unusedVariables false
namespace Lp
open Go Go.RowKit Go.Proofs

namespace HdV12
theorem eqb_4_eql (x y : Operand) (a b : Bool) (w : World) : (do eqGuard .eql 4 x y (.bool a) (.bool b); binOp .eql 4 (.bool a) (.bool b) : Sem Value).run Try.prog w = .ok (.bool (a == b)) w := by cases a <;> cases b <;> kernel_rfl
theorem eqb_4_neq (x y : Operand) (a b : Bool) (w : World) : (do eqGuard .neq 4 x y (.bool a) (.bool b); binOp .neq 4 (.bool a) (.bool b) : Sem Value).run Try.prog w = .ok (.bool (a != b)) w := by cases a <;> cases b <;> kernel_rfl
theorem infz_74 : ∃ i, Try.prog.info? 74 = some i ∧ i.zero = some (.agg #[(.string ByteArray.empty), (.string ByteArray.empty)]) ∧ i.size = 2 ∧ i.bytes = 32 := infz_of (by kernel_rfl)
theorem und_32 : Try.prog.underlying 32 = some (.slice 74) := by kernel_rfl
end HdV12
open HdV12

set_option maxHeartbeats 4000000 in
set_option maxRecDepth 100000 in
theorem law_order_c (l : List Lbl) (a : List Lbl) (b : List Lbl) (turn : Int)  :
    CD Try.prog 8 [] [.sh 2 (l.map Lbl.d), .sh 2 (a.map Lbl.d), .sh 2 (b.map Lbl.d), .v (.int .i64 turn)] (isR (dB true)) := by
  refine cd_of_JD Try.func8 rfl (N := 101) rfl rfl (fun C => ?_)
  refine JD.keep [0, 1, 2, 3] [(0, .sh 2 (l.map Lbl.d)), (1, .sh 2 (a.map Lbl.d)), (2, .sh 2 (b.map Lbl.d)), (3, .v (.int .i64 turn))] rfl ?_
  refine JD.bd 0 rfl (fun bd0 => ?_)
  have nl0 := bd_len bd0
  refine JD.bd 1 rfl (fun bd1 => ?_)
  have nl1 := bd_len bd1
  refine JD.bd 2 rfl (fun bd2 => ?_)
  have nl2 := bd_len bd2
  have htl := tidyL_len l
  refine jd_seq [false] [true] rfl rfl rfl ?_
  refine jd_region rfl ?_
  refine od_pu rfl rfl (p_assign rfl) ?_
  refine od_nil rfl ?_
  refine pd_seq ?_
  refine jd_seq [true, false] [true, true] rfl rfl rfl ?_
  refine jd_seq [true, false, false] [true, false, true] rfl rfl rfl ?_
  refine JD.keep [0, 1, 2, 3, 8] [(0, .sh 2 (l.map Lbl.d)), (1, .sh 2 (a.map Lbl.d)), (2, .sh 2 (b.map Lbl.d)), (3, .v (.int .i64 turn)), (8, .v (.bool false))] rfl ?_
  refine jd_sum 36 ((((!(lightL l) || !(lightL a)) || !(lightL b)) || decide (((l.length : Nat) : Int) = (0 : Int)))) [] (fun _ hQ1 => ?_) ?_
  · skip
    rcases Bool.eq_false_or_eq_true (lightL l) with hg2 | hg2
    · skip
      rcases Bool.eq_false_or_eq_true (lightL a) with hg3 | hg3
      · skip
        rcases Bool.eq_false_or_eq_true (lightL b) with hg4 | hg4
        · skip
          by_cases hg5 : ((l.length : Nat) : Int) = (0 : Int)
          · skip
            refine jd_region rfl ?_
            refine od_pu rfl rfl (p_move rfl) ?_
            refine od_step rfl rfl (ef_call [] _ [] rfl rfl (.cons ArgC.id .nil) lend_nil Try.call34 (Light2_c l) (.inl rfl)) ?_
            rintro _ _ ⟨_, ⟨rfl, rfl⟩, rfl⟩
            refine OpsD.norm [] rfl ?_
            refine OpsD.sub ((16, .v (.bool true)) :: [(0, .sh 2 (l.map Lbl.d)), (1, .sh 2 (a.map Lbl.d)), (2, .sh 2 (b.map Lbl.d)), (3, .v (.int .i64 turn)), (8, .v (.bool false)), (15, .sh 2 (l.map Lbl.d))]) ⟨se rfl (congrArg (fun b => D.v (.bool b)) hg2), sk rfl, sk rfl, sk rfl, sk rfl, sk rfl, sk rfl, trivial⟩ ?_
            refine od_pu rfl rfl (p_not (q := true) rfl) ?_
            refine od_pu rfl rfl (p_move rfl) ?_
            refine od_runp rfl rfl rfl rfl rfl (p_move rfl) ?_
            refine od_run rfl rfl rfl rfl rfl (ef_call [] _ [] rfl rfl (.cons ArgC.id .nil) lend_nil Try.call34 (Light2_c a) (.inl rfl)) ?_
            rintro _ _ ⟨_, ⟨rfl, rfl⟩, rfl⟩
            refine OpsD.norm [] rfl ?_
            refine OpsD.sub ((20, .v (.bool true)) :: [(0, .sh 2 (l.map Lbl.d)), (1, .sh 2 (a.map Lbl.d)), (2, .sh 2 (b.map Lbl.d)), (3, .v (.int .i64 turn)), (8, .v (.bool false)), (15, .sh 2 (l.map Lbl.d)), (16, .v (.bool true)), (17, .v (.bool false)), (18, .v (.bool false)), (19, .sh 2 (a.map Lbl.d))]) ⟨se rfl (congrArg (fun b => D.v (.bool b)) hg3), sk rfl, sk rfl, sk rfl, sk rfl, sk rfl, sk rfl, sk rfl, sk rfl, sk rfl, sk rfl, trivial⟩ ?_
            refine od_runp rfl rfl rfl rfl rfl (p_not (q := true) rfl) ?_
            refine od_pu rfl rfl (p_pick_f rfl rfl) ?_
            refine od_pu rfl rfl (p_move rfl) ?_
            refine od_runp rfl rfl rfl rfl rfl (p_move rfl) ?_
            refine od_run rfl rfl rfl rfl rfl (ef_call [] _ [] rfl rfl (.cons ArgC.id .nil) lend_nil Try.call34 (Light2_c b) (.inl rfl)) ?_
            rintro _ _ ⟨_, ⟨rfl, rfl⟩, rfl⟩
            refine OpsD.norm [] rfl ?_
            refine OpsD.sub ((25, .v (.bool true)) :: [(0, .sh 2 (l.map Lbl.d)), (1, .sh 2 (a.map Lbl.d)), (2, .sh 2 (b.map Lbl.d)), (3, .v (.int .i64 turn)), (8, .v (.bool false)), (15, .sh 2 (l.map Lbl.d)), (16, .v (.bool true)), (17, .v (.bool false)), (18, .v (.bool false)), (19, .sh 2 (a.map Lbl.d)), (20, .v (.bool true)), (21, .v (.bool false)), (22, .v (.bool false)), (23, .v (.bool false)), (24, .sh 2 (b.map Lbl.d))]) ⟨se rfl (congrArg (fun b => D.v (.bool b)) hg4), sk rfl, sk rfl, sk rfl, sk rfl, sk rfl, sk rfl, sk rfl, sk rfl, sk rfl, sk rfl, sk rfl, sk rfl, sk rfl, sk rfl, sk rfl, trivial⟩ ?_
            refine od_runp rfl rfl rfl rfl rfl (p_not (q := true) rfl) ?_
            refine od_pu rfl rfl (p_pick_f rfl rfl) ?_
            refine od_pu rfl rfl (p_move rfl) ?_
            refine od_runp rfl rfl rfl rfl rfl (p_move rfl) ?_
            refine od_runp rfl rfl rfl rfl rfl (p_len (n := l.length) rfl Try.runUnderlying32 (by simp only [List.length_map, List.length_cons, List.length_nil])) ?_
            refine od_runp rfl rfl rfl rfl rfl (p_eql rfl rfl (decide_eq_true hg5)) ?_
            refine od_pu rfl rfl (p_pick_f rfl rfl) ?_
            refine od_pu rfl rfl (p_move rfl) ?_
            refine od_skip rfl rfl rfl rfl rfl (by decide) ?_
            refine od_skip rfl rfl rfl rfl rfl (by decide) ?_
            refine od_pu rfl rfl (p_pick_t rfl rfl) ?_
            refine od_nil rfl ?_
            exact PD.sub ((36, .v (.bool (((!(lightL l) || !(lightL a)) || !(lightL b)) || decide (((l.length : Nat) : Int) = (0 : Int))))) :: [(0, .sh 2 (l.map Lbl.d)), (1, .sh 2 (a.map Lbl.d)), (2, .sh 2 (b.map Lbl.d)), (3, .v (.int .i64 turn)), (8, .v (.bool false))]) ⟨sc rfl (Cv.eq (congrArg (fun b => D.v (.bool b)) (by first | (simp [hg2, hg3, hg4, hg5]; done) | (simp_all; done)))), sk rfl, sk rfl, sk rfl, sk rfl, sk rfl, trivial⟩ hQ1
          · skip
            refine jd_region rfl ?_
            refine od_pu rfl rfl (p_move rfl) ?_
            refine od_step rfl rfl (ef_call [] _ [] rfl rfl (.cons ArgC.id .nil) lend_nil Try.call34 (Light2_c l) (.inl rfl)) ?_
            rintro _ _ ⟨_, ⟨rfl, rfl⟩, rfl⟩
            refine OpsD.norm [] rfl ?_
            refine OpsD.sub ((16, .v (.bool true)) :: [(0, .sh 2 (l.map Lbl.d)), (1, .sh 2 (a.map Lbl.d)), (2, .sh 2 (b.map Lbl.d)), (3, .v (.int .i64 turn)), (8, .v (.bool false)), (15, .sh 2 (l.map Lbl.d))]) ⟨se rfl (congrArg (fun b => D.v (.bool b)) hg2), sk rfl, sk rfl, sk rfl, sk rfl, sk rfl, sk rfl, trivial⟩ ?_
            refine od_pu rfl rfl (p_not (q := true) rfl) ?_
            refine od_pu rfl rfl (p_move rfl) ?_
            refine od_runp rfl rfl rfl rfl rfl (p_move rfl) ?_
            refine od_run rfl rfl rfl rfl rfl (ef_call [] _ [] rfl rfl (.cons ArgC.id .nil) lend_nil Try.call34 (Light2_c a) (.inl rfl)) ?_
            rintro _ _ ⟨_, ⟨rfl, rfl⟩, rfl⟩
            refine OpsD.norm [] rfl ?_
            refine OpsD.sub ((20, .v (.bool true)) :: [(0, .sh 2 (l.map Lbl.d)), (1, .sh 2 (a.map Lbl.d)), (2, .sh 2 (b.map Lbl.d)), (3, .v (.int .i64 turn)), (8, .v (.bool false)), (15, .sh 2 (l.map Lbl.d)), (16, .v (.bool true)), (17, .v (.bool false)), (18, .v (.bool false)), (19, .sh 2 (a.map Lbl.d))]) ⟨se rfl (congrArg (fun b => D.v (.bool b)) hg3), sk rfl, sk rfl, sk rfl, sk rfl, sk rfl, sk rfl, sk rfl, sk rfl, sk rfl, sk rfl, trivial⟩ ?_
            refine od_runp rfl rfl rfl rfl rfl (p_not (q := true) rfl) ?_
            refine od_pu rfl rfl (p_pick_f rfl rfl) ?_
            refine od_pu rfl rfl (p_move rfl) ?_
            refine od_runp rfl rfl rfl rfl rfl (p_move rfl) ?_
            refine od_run rfl rfl rfl rfl rfl (ef_call [] _ [] rfl rfl (.cons ArgC.id .nil) lend_nil Try.call34 (Light2_c b) (.inl rfl)) ?_
            rintro _ _ ⟨_, ⟨rfl, rfl⟩, rfl⟩
            refine OpsD.norm [] rfl ?_
            refine OpsD.sub ((25, .v (.bool true)) :: [(0, .sh 2 (l.map Lbl.d)), (1, .sh 2 (a.map Lbl.d)), (2, .sh 2 (b.map Lbl.d)), (3, .v (.int .i64 turn)), (8, .v (.bool false)), (15, .sh 2 (l.map Lbl.d)), (16, .v (.bool true)), (17, .v (.bool false)), (18, .v (.bool false)), (19, .sh 2 (a.map Lbl.d)), (20, .v (.bool true)), (21, .v (.bool false)), (22, .v (.bool false)), (23, .v (.bool false)), (24, .sh 2 (b.map Lbl.d))]) ⟨se rfl (congrArg (fun b => D.v (.bool b)) hg4), sk rfl, sk rfl, sk rfl, sk rfl, sk rfl, sk rfl, sk rfl, sk rfl, sk rfl, sk rfl, sk rfl, sk rfl, sk rfl, sk rfl, sk rfl, trivial⟩ ?_
            refine od_runp rfl rfl rfl rfl rfl (p_not (q := true) rfl) ?_
            refine od_pu rfl rfl (p_pick_f rfl rfl) ?_
            refine od_pu rfl rfl (p_move rfl) ?_
            refine od_runp rfl rfl rfl rfl rfl (p_move rfl) ?_
            refine od_runp rfl rfl rfl rfl rfl (p_len (n := l.length) rfl Try.runUnderlying32 (by simp only [List.length_map, List.length_cons, List.length_nil])) ?_
            refine od_runp rfl rfl rfl rfl rfl (p_eql rfl rfl (decide_eq_false hg5)) ?_
            refine od_pu rfl rfl (p_pick_f rfl rfl) ?_
            refine od_pu rfl rfl (p_move rfl) ?_
            refine od_run rfl rfl rfl rfl rfl (ef_call [] _ [] rfl rfl (.nil) lend_nil Try.call35 (alive2_c) (.inl rfl)) ?_
            rintro _ _ ⟨_, ⟨rfl, rfl⟩, rfl⟩
            refine OpsD.norm [] rfl ?_
            refine od_runp rfl rfl rfl rfl rfl (p_not (q := true) rfl) ?_
            refine od_pu rfl rfl (p_pick_f rfl rfl) ?_
            refine od_nil rfl ?_
            exact PD.sub ((36, .v (.bool (((!(lightL l) || !(lightL a)) || !(lightL b)) || decide (((l.length : Nat) : Int) = (0 : Int))))) :: [(0, .sh 2 (l.map Lbl.d)), (1, .sh 2 (a.map Lbl.d)), (2, .sh 2 (b.map Lbl.d)), (3, .v (.int .i64 turn)), (8, .v (.bool false))]) ⟨sc rfl (Cv.eq (congrArg (fun b => D.v (.bool b)) (by first | (simp [hg2, hg3, hg4, hg5]; done) | (simp_all; done)))), sk rfl, sk rfl, sk rfl, sk rfl, sk rfl, trivial⟩ hQ1
        · skip
          refine jd_region rfl ?_
          refine od_pu rfl rfl (p_move rfl) ?_
          refine od_step rfl rfl (ef_call [] _ [] rfl rfl (.cons ArgC.id .nil) lend_nil Try.call34 (Light2_c l) (.inl rfl)) ?_
          rintro _ _ ⟨_, ⟨rfl, rfl⟩, rfl⟩
          refine OpsD.norm [] rfl ?_
          refine OpsD.sub ((16, .v (.bool true)) :: [(0, .sh 2 (l.map Lbl.d)), (1, .sh 2 (a.map Lbl.d)), (2, .sh 2 (b.map Lbl.d)), (3, .v (.int .i64 turn)), (8, .v (.bool false)), (15, .sh 2 (l.map Lbl.d))]) ⟨se rfl (congrArg (fun b => D.v (.bool b)) hg2), sk rfl, sk rfl, sk rfl, sk rfl, sk rfl, sk rfl, trivial⟩ ?_
          refine od_pu rfl rfl (p_not (q := true) rfl) ?_
          refine od_pu rfl rfl (p_move rfl) ?_
          refine od_runp rfl rfl rfl rfl rfl (p_move rfl) ?_
          refine od_run rfl rfl rfl rfl rfl (ef_call [] _ [] rfl rfl (.cons ArgC.id .nil) lend_nil Try.call34 (Light2_c a) (.inl rfl)) ?_
          rintro _ _ ⟨_, ⟨rfl, rfl⟩, rfl⟩
          refine OpsD.norm [] rfl ?_
          refine OpsD.sub ((20, .v (.bool true)) :: [(0, .sh 2 (l.map Lbl.d)), (1, .sh 2 (a.map Lbl.d)), (2, .sh 2 (b.map Lbl.d)), (3, .v (.int .i64 turn)), (8, .v (.bool false)), (15, .sh 2 (l.map Lbl.d)), (16, .v (.bool true)), (17, .v (.bool false)), (18, .v (.bool false)), (19, .sh 2 (a.map Lbl.d))]) ⟨se rfl (congrArg (fun b => D.v (.bool b)) hg3), sk rfl, sk rfl, sk rfl, sk rfl, sk rfl, sk rfl, sk rfl, sk rfl, sk rfl, sk rfl, trivial⟩ ?_
          refine od_runp rfl rfl rfl rfl rfl (p_not (q := true) rfl) ?_
          refine od_pu rfl rfl (p_pick_f rfl rfl) ?_
          refine od_pu rfl rfl (p_move rfl) ?_
          refine od_runp rfl rfl rfl rfl rfl (p_move rfl) ?_
          refine od_run rfl rfl rfl rfl rfl (ef_call [] _ [] rfl rfl (.cons ArgC.id .nil) lend_nil Try.call34 (Light2_c b) (.inl rfl)) ?_
          rintro _ _ ⟨_, ⟨rfl, rfl⟩, rfl⟩
          refine OpsD.norm [] rfl ?_
          refine OpsD.sub ((25, .v (.bool false)) :: [(0, .sh 2 (l.map Lbl.d)), (1, .sh 2 (a.map Lbl.d)), (2, .sh 2 (b.map Lbl.d)), (3, .v (.int .i64 turn)), (8, .v (.bool false)), (15, .sh 2 (l.map Lbl.d)), (16, .v (.bool true)), (17, .v (.bool false)), (18, .v (.bool false)), (19, .sh 2 (a.map Lbl.d)), (20, .v (.bool true)), (21, .v (.bool false)), (22, .v (.bool false)), (23, .v (.bool false)), (24, .sh 2 (b.map Lbl.d))]) ⟨se rfl (congrArg (fun b => D.v (.bool b)) hg4), sk rfl, sk rfl, sk rfl, sk rfl, sk rfl, sk rfl, sk rfl, sk rfl, sk rfl, sk rfl, sk rfl, sk rfl, sk rfl, sk rfl, sk rfl, trivial⟩ ?_
          refine od_runp rfl rfl rfl rfl rfl (p_not (q := false) rfl) ?_
          refine od_pu rfl rfl (p_pick_f rfl rfl) ?_
          refine od_pu rfl rfl (p_move rfl) ?_
          refine od_skip rfl rfl rfl rfl rfl (by decide) ?_
          refine od_skip rfl rfl rfl rfl rfl (by decide) ?_
          refine od_skip rfl rfl rfl rfl rfl (by decide) ?_
          refine od_pu rfl rfl (p_pick_t rfl rfl) ?_
          refine od_pu rfl rfl (p_move rfl) ?_
          refine od_skip rfl rfl rfl rfl rfl (by decide) ?_
          refine od_skip rfl rfl rfl rfl rfl (by decide) ?_
          refine od_pu rfl rfl (p_pick_t rfl rfl) ?_
          refine od_nil rfl ?_
          exact PD.sub ((36, .v (.bool (((!(lightL l) || !(lightL a)) || !(lightL b)) || decide (((l.length : Nat) : Int) = (0 : Int))))) :: [(0, .sh 2 (l.map Lbl.d)), (1, .sh 2 (a.map Lbl.d)), (2, .sh 2 (b.map Lbl.d)), (3, .v (.int .i64 turn)), (8, .v (.bool false))]) ⟨sc rfl (Cv.eq (congrArg (fun b => D.v (.bool b)) (by first | (simp [hg2, hg3, hg4]; done) | (simp_all; done)))), sk rfl, sk rfl, sk rfl, sk rfl, sk rfl, trivial⟩ hQ1
      · skip
        refine jd_region rfl ?_
        refine od_pu rfl rfl (p_move rfl) ?_
        refine od_step rfl rfl (ef_call [] _ [] rfl rfl (.cons ArgC.id .nil) lend_nil Try.call34 (Light2_c l) (.inl rfl)) ?_
        rintro _ _ ⟨_, ⟨rfl, rfl⟩, rfl⟩
        refine OpsD.norm [] rfl ?_
        refine OpsD.sub ((16, .v (.bool true)) :: [(0, .sh 2 (l.map Lbl.d)), (1, .sh 2 (a.map Lbl.d)), (2, .sh 2 (b.map Lbl.d)), (3, .v (.int .i64 turn)), (8, .v (.bool false)), (15, .sh 2 (l.map Lbl.d))]) ⟨se rfl (congrArg (fun b => D.v (.bool b)) hg2), sk rfl, sk rfl, sk rfl, sk rfl, sk rfl, sk rfl, trivial⟩ ?_
        refine od_pu rfl rfl (p_not (q := true) rfl) ?_
        refine od_pu rfl rfl (p_move rfl) ?_
        refine od_runp rfl rfl rfl rfl rfl (p_move rfl) ?_
        refine od_run rfl rfl rfl rfl rfl (ef_call [] _ [] rfl rfl (.cons ArgC.id .nil) lend_nil Try.call34 (Light2_c a) (.inl rfl)) ?_
        rintro _ _ ⟨_, ⟨rfl, rfl⟩, rfl⟩
        refine OpsD.norm [] rfl ?_
        refine OpsD.sub ((20, .v (.bool false)) :: [(0, .sh 2 (l.map Lbl.d)), (1, .sh 2 (a.map Lbl.d)), (2, .sh 2 (b.map Lbl.d)), (3, .v (.int .i64 turn)), (8, .v (.bool false)), (15, .sh 2 (l.map Lbl.d)), (16, .v (.bool true)), (17, .v (.bool false)), (18, .v (.bool false)), (19, .sh 2 (a.map Lbl.d))]) ⟨se rfl (congrArg (fun b => D.v (.bool b)) hg3), sk rfl, sk rfl, sk rfl, sk rfl, sk rfl, sk rfl, sk rfl, sk rfl, sk rfl, sk rfl, trivial⟩ ?_
        refine od_runp rfl rfl rfl rfl rfl (p_not (q := false) rfl) ?_
        refine od_pu rfl rfl (p_pick_f rfl rfl) ?_
        refine od_pu rfl rfl (p_move rfl) ?_
        refine od_skip rfl rfl rfl rfl rfl (by decide) ?_
        refine od_skip rfl rfl rfl rfl rfl (by decide) ?_
        refine od_skip rfl rfl rfl rfl rfl (by decide) ?_
        refine od_pu rfl rfl (p_pick_t rfl rfl) ?_
        refine od_pu rfl rfl (p_move rfl) ?_
        refine od_skip rfl rfl rfl rfl rfl (by decide) ?_
        refine od_skip rfl rfl rfl rfl rfl (by decide) ?_
        refine od_skip rfl rfl rfl rfl rfl (by decide) ?_
        refine od_pu rfl rfl (p_pick_t rfl rfl) ?_
        refine od_pu rfl rfl (p_move rfl) ?_
        refine od_skip rfl rfl rfl rfl rfl (by decide) ?_
        refine od_skip rfl rfl rfl rfl rfl (by decide) ?_
        refine od_pu rfl rfl (p_pick_t rfl rfl) ?_
        refine od_nil rfl ?_
        exact PD.sub ((36, .v (.bool (((!(lightL l) || !(lightL a)) || !(lightL b)) || decide (((l.length : Nat) : Int) = (0 : Int))))) :: [(0, .sh 2 (l.map Lbl.d)), (1, .sh 2 (a.map Lbl.d)), (2, .sh 2 (b.map Lbl.d)), (3, .v (.int .i64 turn)), (8, .v (.bool false))]) ⟨sc rfl (Cv.eq (congrArg (fun b => D.v (.bool b)) (by first | (simp [hg2, hg3]; done) | (simp_all; done)))), sk rfl, sk rfl, sk rfl, sk rfl, sk rfl, trivial⟩ hQ1
    · skip
      refine jd_region rfl ?_
      refine od_pu rfl rfl (p_move rfl) ?_
      refine od_step rfl rfl (ef_call [] _ [] rfl rfl (.cons ArgC.id .nil) lend_nil Try.call34 (Light2_c l) (.inl rfl)) ?_
      rintro _ _ ⟨_, ⟨rfl, rfl⟩, rfl⟩
      refine OpsD.norm [] rfl ?_
      refine OpsD.sub ((16, .v (.bool false)) :: [(0, .sh 2 (l.map Lbl.d)), (1, .sh 2 (a.map Lbl.d)), (2, .sh 2 (b.map Lbl.d)), (3, .v (.int .i64 turn)), (8, .v (.bool false)), (15, .sh 2 (l.map Lbl.d))]) ⟨se rfl (congrArg (fun b => D.v (.bool b)) hg2), sk rfl, sk rfl, sk rfl, sk rfl, sk rfl, sk rfl, trivial⟩ ?_
      refine od_pu rfl rfl (p_not (q := false) rfl) ?_
      refine od_pu rfl rfl (p_move rfl) ?_
      refine od_skip rfl rfl rfl rfl rfl (by decide) ?_
      refine od_skip rfl rfl rfl rfl rfl (by decide) ?_
      refine od_skip rfl rfl rfl rfl rfl (by decide) ?_
      refine od_pu rfl rfl (p_pick_t rfl rfl) ?_
      refine od_pu rfl rfl (p_move rfl) ?_
      refine od_skip rfl rfl rfl rfl rfl (by decide) ?_
      refine od_skip rfl rfl rfl rfl rfl (by decide) ?_
      refine od_skip rfl rfl rfl rfl rfl (by decide) ?_
      refine od_pu rfl rfl (p_pick_t rfl rfl) ?_
      refine od_pu rfl rfl (p_move rfl) ?_
      refine od_skip rfl rfl rfl rfl rfl (by decide) ?_
      refine od_skip rfl rfl rfl rfl rfl (by decide) ?_
      refine od_skip rfl rfl rfl rfl rfl (by decide) ?_
      refine od_pu rfl rfl (p_pick_t rfl rfl) ?_
      refine od_pu rfl rfl (p_move rfl) ?_
      refine od_skip rfl rfl rfl rfl rfl (by decide) ?_
      refine od_skip rfl rfl rfl rfl rfl (by decide) ?_
      refine od_pu rfl rfl (p_pick_t rfl rfl) ?_
      refine od_nil rfl ?_
      exact PD.sub ((36, .v (.bool (((!(lightL l) || !(lightL a)) || !(lightL b)) || decide (((l.length : Nat) : Int) = (0 : Int))))) :: [(0, .sh 2 (l.map Lbl.d)), (1, .sh 2 (a.map Lbl.d)), (2, .sh 2 (b.map Lbl.d)), (3, .v (.int .i64 turn)), (8, .v (.bool false))]) ⟨sc rfl (Cv.eq (congrArg (fun b => D.v (.bool b)) (by first | (simp [hg2]; done) | (simp_all; done)))), sk rfl, sk rfl, sk rfl, sk rfl, sk rfl, trivial⟩ hQ1
  · skip
    refine pd_seq ?_
    refine jd_cond [true, false, true, false] [true, false, true, true] rfl rfl rfl rfl (fun hc6 => ?_) (fun hc6 => ?_)
    · simp only [Bool.and_eq_true, Bool.or_eq_true, Bool.not_eq_true', Bool.not_eq_false', Bool.and_eq_false_iff, Bool.or_eq_false_iff, decide_eq_true_eq, decide_eq_false_iff_not, Decidable.not_not, ne_eq] at hc6
      refine jd_seq [true, false, true, false, false] [true, false, true, false, true] rfl rfl rfl ?_
      refine jd_region rfl ?_
      refine od_step rfl rfl (ef_call [] _ [] rfl rfl (.nil) lend_nil Try.call35 (alive2_c) (.inl rfl)) ?_
      rintro _ _ ⟨_, ⟨rfl, rfl⟩, rfl⟩
      refine OpsD.norm [] rfl ?_
      refine od_pu rfl rfl (p_assign rfl) ?_
      refine od_nil rfl ?_
      refine pd_seq ?_
      refine jd_ret rfl ?_
      refine pd_seq_ret ?_
      exact pd_retH Try.results8 (.cons (ro_tmp rfl) .nil) rfl HSub.none ⟨rfl, rfl⟩
    · simp only [Bool.and_eq_true, Bool.or_eq_true, Bool.not_eq_true', Bool.not_eq_false', Bool.and_eq_false_iff, Bool.or_eq_false_iff, decide_eq_true_eq, decide_eq_false_iff_not, Decidable.not_not, ne_eq] at hc6
      have nl : l.length ≤ 20 := by have h := hc6; first | exact lightL_len h | exact lightL_len h.1 | exact lightL_len h.1.1 | exact lightL_len h.1.2 | exact lightL_len h.2 | exact lightL_len h.1.1.1 | exact lightL_len h.1.1.2
      have na : a.length ≤ 20 := by have h := hc6; first | exact lightL_len h | exact lightL_len h.1 | exact lightL_len h.1.1 | exact lightL_len h.1.2 | exact lightL_len h.2 | exact lightL_len h.1.1.1 | exact lightL_len h.1.1.2
      have nb : b.length ≤ 20 := by have h := hc6; first | exact lightL_len h | exact lightL_len h.1 | exact lightL_len h.1.1 | exact lightL_len h.1.2 | exact lightL_len h.2 | exact lightL_len h.1.1.1 | exact lightL_len h.1.1.2
      refine jd_skip rfl ?_
      refine pd_seq ?_
      refine jd_seq [true, true, false] [true, true, true] rfl rfl rfl ?_
      refine jd_region rfl ?_
      refine od_pu rfl rfl (p_move rfl) ?_
      refine od_pu rfl rfl (p_move rfl) ?_
      refine od_pu rfl rfl (p_len (n := l.length) rfl Try.runUnderlying32 (by simp only [List.length_map, List.length_cons, List.length_nil])) ?_
      have hl0 : (0 : Int) < ((l.length : Nat) : Int) := by omega
      have hra := Int.tmod_lt_of_pos turn hl0
      have hrb := Int.lt_tmod_of_pos turn hl0
      refine od_pu rfl rfl (p_rem (c := (Int.tmod turn ((l.length : Nat) : Int))) rfl rfl (by omega) rfl) ?_
      refine od_pu rfl rfl (p_move rfl) ?_
      refine od_pu rfl rfl (p_len (n := l.length) rfl Try.runUnderlying32 (by simp only [List.length_map, List.length_cons, List.length_nil])) ?_
      refine od_pu rfl rfl (p_add (c := ((Int.tmod turn ((l.length : Nat) : Int)) + ((l.length : Nat) : Int))) rfl rfl (w64eq (by omega) (by omega))) ?_
      refine od_pu rfl rfl (p_move rfl) ?_
      refine od_pu rfl rfl (p_len (n := l.length) rfl Try.runUnderlying32 (by simp only [List.length_map, List.length_cons, List.length_nil])) ?_
      obtain ⟨k, hk, hkl⟩ := turn_at turn (l := l) (by omega)
      have htu := turn_tidy l k
      have htn := turn_len l k
      refine od_pu rfl rfl (p_rem (c := (k : Int)) rfl rfl (by omega) hk) ?_
      refine od_pu rfl rfl (p_assign rfl) ?_
      refine od_nil rfl ?_
      refine pd_seq ?_
      refine JD.keep [0, 1, 2, 8, 9] [(0, .sh 2 (l.map Lbl.d)), (1, .sh 2 (a.map Lbl.d)), (2, .sh 2 (b.map Lbl.d)), (8, .v (.bool false)), (9, .v (.int .i64 ((k : Nat) : Int)))] rfl ?_
      refine jd_seq [true, true, true, false] [true, true, true, true] rfl rfl rfl ?_
      refine JD.keep [0, 1, 2, 8, 9] [(0, .sh 2 (l.map Lbl.d)), (1, .sh 2 (a.map Lbl.d)), (2, .sh 2 (b.map Lbl.d)), (8, .v (.bool false)), (9, .v (.int .i64 ((k : Nat) : Int)))] rfl ?_
      refine JD.norm [] rfl ?_
      refine jd_drawo 7 [(48, .q (.sh 2 (l.map Lbl.d))), (49, .q (.v (.int .i64 ((k : Nat) : Int)))), (50, .q (.sh 2 (((l.take l.length).drop k).map Lbl.d))), (51, .o (fun γ => [.sl (γ 3) 2 74 (((l.take l.length).drop k).map Lbl.d)])), (52, .q (.sh 2 (l.map Lbl.d))), (53, .q (.v (.int .i64 ((k : Nat) : Int)))), (54, .q (.sh 2 (((l.take k).drop 0).map Lbl.d)))] [] (Hn := fun γ => [.sl (γ 3) 2 74 (((l.take l.length).drop k).map Lbl.d)]) mixed rfl rfl (by kernel_rfl) (by kernel_rfl) (by kernel_rfl) HSub.rfl' (fun _ => rfl) (fun γ => ⟨so_p rfl rfl rfl (p_move rfl), so_p rfl rfl rfl (p_move rfl), so_p rfl rfl rfl ((p_slice (a := k) (b := l.length) rfl rfl rfl (by first | rfl | (show _ = _; (try simp only [List.length_map]); omega) | exact List.length_map _) (by first | rfl | (show _ = _; (try simp only [List.length_map]); omega) | exact List.length_map _) Try.runUnderlying32 Try.sizeOf74 (by omega) (by simp only [List.length_map]; omega)).cv (Cv.eq (by rw [← List.map_take, ← List.map_drop]))), so_o rfl rfl rfl rfl ((ef_append_n (f := Lbl.d) (l' := ((l.take l.length).drop k)) rfl rfl (SrcD.sh) und_32 infz_74 rfl rfl (by unfold maxLen; (try simp only [List.length_append, List.length_cons, List.length_nil, List.length_map, List.length_take, List.length_drop, List.length_set, List.length_replicate]); omega) (by (try simp only [List.length_append, List.length_cons, List.length_nil, List.length_map, List.length_take, List.length_drop, List.length_set, List.length_replicate]); omega)).mono (by rintro _ _ ⟨v, rfl, rfl⟩; exact ⟨v, rfl, rfl⟩)) (fun _ => HSub.lst 1 rfl), so_p rfl rfl rfl (p_move rfl), so_p rfl rfl rfl (p_move rfl), so_p rfl rfl rfl ((p_slice (a := 0) (b := k) rfl rfl rfl (by first | rfl | (show _ = _; (try simp only [List.length_map]); omega) | exact List.length_map _) (by first | rfl | (show _ = _; (try simp only [List.length_map]); omega) | exact List.length_map _) Try.runUnderlying32 Try.sizeOf74 (by omega) (by simp only [List.length_map]; omega)).cv (Cv.eq (by rw [← List.map_take, ← List.map_drop]))), trivial⟩) (fun γ => ?_)
      refine OpsD.keep [0, 1, 2, 8, 9, 48, 49, 50, 51, 52, 53, 54] [(0, .sh 2 (l.map Lbl.d)), (1, .sh 2 (a.map Lbl.d)), (2, .sh 2 (b.map Lbl.d)), (8, .v (.bool false)), (9, .v (.int .i64 ((k : Nat) : Int))), (48, .sh 2 (l.map Lbl.d)), (49, .v (.int .i64 ((k : Nat) : Int))), (50, .sh 2 (((l.take l.length).drop k).map Lbl.d)), (51, .ov (γ 3)), (52, .sh 2 (l.map Lbl.d)), (53, .v (.int .i64 ((k : Nat) : Int))), (54, .sh 2 (((l.take k).drop 0).map Lbl.d))] rfl ?_
      refine od_step rfl rfl (ef_append_m (f := Lbl.d) (l := ((l.take l.length).drop k)) (l' := ((l.take k).drop 0)) (i := 0) rfl rfl rfl (SrcD.sh) und_32 infz_74 rfl rfl (by unfold maxLen; (try simp only [List.length_append, List.length_cons, List.length_nil, List.length_map, List.length_take, List.length_drop, List.length_set, List.length_replicate]); omega) (by (try simp only [List.length_append, List.length_cons, List.length_nil, List.length_map, List.length_take, List.length_drop, List.length_set, List.length_replicate]); omega)) ?_
      rintro _ _ ⟨v7, rfl, rfl⟩
      refine OpsD.norm [.sl v7 2 74 ((((l.take l.length).drop k) ++ ((l.take k).drop 0)).map Lbl.d)] rfl ?_
      refine od_pu rfl rfl (p_assign rfl) ?_
      refine od_nil rfl ?_
      refine pd_seq ?_
      refine JD.keep [0, 1, 2, 8, 10] [(0, .sh 2 (l.map Lbl.d)), (1, .sh 2 (a.map Lbl.d)), (2, .sh 2 (b.map Lbl.d)), (8, .v (.bool false)), (10, .ov v7)] rfl ?_
      refine jd_seq [true, true, true, true, false] [true, true, true, true, true] rfl rfl rfl ?_
      refine jd_region rfl ?_
      refine od_pu rfl rfl (p_move rfl) ?_
      refine od_step rfl rfl (ef_call [] _ [] rfl rfl (.cons ArgC.id .nil) lend_nil Try.call36 (tidy_c l) (.inl rfl)) ?_
      rintro _ _ ⟨_, ⟨v8, rfl, rfl⟩, rfl⟩
      refine OpsD.norm [.sl v8 2 74 ((tidyL l).map Lbl.d), .sl v7 2 74 ((((l.take l.length).drop k) ++ ((l.take k).drop 0)).map Lbl.d)] rfl ?_
      refine od_pu rfl rfl (p_move rfl) ?_
      refine od_pu rfl rfl (p_extract rfl rfl) ?_
      refine od_pu rfl rfl (p_extract rfl rfl) ?_
      refine od_pu rfl rfl (p_assign rfl) ?_
      refine od_pu rfl rfl (p_assign rfl) ?_
      refine od_nil rfl ?_
      refine pd_seq ?_
      refine jd_seq [true, true, true, true, true, false] [true, true, true, true, true, true] rfl rfl rfl ?_
      refine jd_region rfl ?_
      refine od_pu rfl rfl (p_move rfl) ?_
      refine od_step rfl rfl (ef_call [] _ [.sl v7 2 74 ((((l.take l.length).drop k) ++ ((l.take k).drop 0)).map Lbl.d)] rfl rfl (.cons (ArgC.own (j := 0) rfl rfl) .nil) (lend_cons (j := 1) rfl lend_nil) Try.call36 (tidy_c (((l.take l.length).drop k) ++ ((l.take k).drop 0))) (.inr (fun _ _ ⟨_, e1, e2⟩ => by subst e1; subst e2; exact ⟨rfl, fun x hx => by rcases hx with _ | ⟨_, hx⟩ <;> first | exact flatL_map (fun _ => rfl) _ | (cases hx; exact flatL_map (fun _ => rfl) _) | cases hx⟩))) ?_
      rintro _ _ ⟨_, ⟨v9, rfl, rfl⟩, rfl⟩
      refine OpsD.norm [.sl v9 2 74 ((tidyL (((l.take l.length).drop k) ++ ((l.take k).drop 0))).map Lbl.d), .sl v8 2 74 ((tidyL l).map Lbl.d), .sl v7 2 74 ((((l.take l.length).drop k) ++ ((l.take k).drop 0)).map Lbl.d)] rfl ?_
      refine od_pu rfl rfl (p_move rfl) ?_
      refine od_pu rfl rfl (p_extract rfl rfl) ?_
      refine od_pu rfl rfl (p_extract rfl rfl) ?_
      refine od_pu rfl rfl (p_assign rfl) ?_
      refine od_pu rfl rfl (p_assign rfl) ?_
      refine od_nil rfl ?_
      refine pd_seq ?_
      refine JD.keep [0, 1, 2, 8, 11, 12, 13, 14] [(0, .sh 2 (l.map Lbl.d)), (1, .sh 2 (a.map Lbl.d)), (2, .sh 2 (b.map Lbl.d)), (8, .v (.bool false)), (11, .ov v8), (12, .v (.int .i64 (tidyE l))), (13, .ov v9), (14, .v (.int .i64 (tidyE (((l.take l.length).drop k) ++ ((l.take k).drop 0)))))] rfl ?_
      refine jd_seq [true, true, true, true, true, true, false] [true, true, true, true, true, true, true] rfl rfl rfl ?_
      refine jd_seq [true, true, true, true, true, true, false, false] [true, true, true, true, true, true, false, true] rfl rfl rfl ?_
      refine JD.keep [0, 1, 2, 8, 11, 12, 13, 14] [(0, .sh 2 (l.map Lbl.d)), (1, .sh 2 (a.map Lbl.d)), (2, .sh 2 (b.map Lbl.d)), (8, .v (.bool false)), (11, .ov v8), (12, .v (.int .i64 (tidyE l))), (13, .ov v9), (14, .v (.int .i64 (tidyE (((l.take l.length).drop k) ++ ((l.take k).drop 0)))))] rfl ?_
      refine jd_sum 76 (((decide (tidyE l = (0 : Int)) != decide (tidyE (((l.take l.length).drop k) ++ ((l.take k).drop 0)) = (0 : Int))) || !(decide ((tidyL l) = (tidyL (((l.take l.length).drop k) ++ ((l.take k).drop 0))))))) [.sl v9 2 74 ((tidyL (((l.take l.length).drop k) ++ ((l.take k).drop 0))).map Lbl.d), .sl v8 2 74 ((tidyL l).map Lbl.d), .sl v7 2 74 ((((l.take l.length).drop k) ++ ((l.take k).drop 0)).map Lbl.d)] (fun _ hQ10 => ?_) ?_
      · skip
        rcases Bool.eq_false_or_eq_true ((decide (tidyE l = (0 : Int)) != decide (tidyE (((l.take l.length).drop k) ++ ((l.take k).drop 0)) = (0 : Int)))) with hg11 | hg11
        · skip
          refine jd_region rfl ?_
          refine od_pu rfl rfl (p_move rfl) ?_
          refine od_pu rfl rfl (p_eql rfl rfl rfl) ?_
          refine od_pu rfl rfl (p_move rfl) ?_
          refine od_pu rfl rfl (p_eql rfl rfl rfl) ?_
          refine od_pu rfl rfl ((p_bin rfl rfl (eqb_4_neq _ _ _ _)).cv (Cv.eq (congrArg (fun b => D.v (.bool b)) hg11))) ?_
          refine od_pu rfl rfl (p_move rfl) ?_
          refine od_skip rfl rfl rfl rfl rfl (by decide) ?_
          refine od_skip rfl rfl rfl rfl rfl (by decide) ?_
          refine od_skip rfl rfl rfl rfl rfl (by decide) ?_
          refine od_skip rfl rfl rfl rfl rfl (by decide) ?_
          refine od_pu rfl rfl (p_pick_t rfl rfl) ?_
          refine od_nil rfl ?_
          exact PD.sub ((76, .v (.bool ((decide (tidyE l = (0 : Int)) != decide (tidyE (((l.take l.length).drop k) ++ ((l.take k).drop 0)) = (0 : Int))) || !(decide ((tidyL l) = (tidyL (((l.take l.length).drop k) ++ ((l.take k).drop 0)))))))) :: [(0, .sh 2 (l.map Lbl.d)), (1, .sh 2 (a.map Lbl.d)), (2, .sh 2 (b.map Lbl.d)), (8, .v (.bool false)), (11, .ov v8), (12, .v (.int .i64 (tidyE l))), (13, .ov v9), (14, .v (.int .i64 (tidyE (((l.take l.length).drop k) ++ ((l.take k).drop 0)))))]) ⟨sc rfl (Cv.eq (congrArg (fun b => D.v (.bool b)) (by first | (simp [hg11]; done) | (simp_all; done)))), sk rfl, sk rfl, sk rfl, sk rfl, sk rfl, sk rfl, sk rfl, sk rfl, trivial⟩ hQ10
        · skip
          refine jd_region rfl ?_
          refine od_pu rfl rfl (p_move rfl) ?_
          refine od_pu rfl rfl (p_eql rfl rfl rfl) ?_
          refine od_pu rfl rfl (p_move rfl) ?_
          refine od_pu rfl rfl (p_eql rfl rfl rfl) ?_
          refine od_pu rfl rfl ((p_bin rfl rfl (eqb_4_neq _ _ _ _)).cv (Cv.eq (congrArg (fun b => D.v (.bool b)) hg11))) ?_
          refine od_pu rfl rfl (p_move rfl) ?_
          refine od_runp rfl rfl rfl rfl rfl (p_move rfl) ?_
          refine od_runp rfl rfl rfl rfl rfl (p_move rfl) ?_
          refine od_run rfl rfl rfl rfl rfl (ef_call [] _ [.sl v8 2 74 ((tidyL l).map Lbl.d), .sl v9 2 74 ((tidyL (((l.take l.length).drop k) ++ ((l.take k).drop 0))).map Lbl.d)] rfl rfl (.cons (ArgC.own (j := 0) rfl rfl) (.cons (ArgC.own (j := 1) rfl rfl) .nil)) (lend_cons (j := 1) rfl (lend_cons (j := 0) rfl lend_nil)) Try.call37 (SameLabels_c (tidyL l) (tidyL (((l.take l.length).drop k) ++ ((l.take k).drop 0)))) (.inr (isR_flat rfl))) ?_
          rintro _ _ ⟨_, ⟨rfl, rfl⟩, rfl⟩
          refine OpsD.norm [.sl v9 2 74 ((tidyL (((l.take l.length).drop k) ++ ((l.take k).drop 0))).map Lbl.d), .sl v8 2 74 ((tidyL l).map Lbl.d), .sl v7 2 74 ((((l.take l.length).drop k) ++ ((l.take k).drop 0)).map Lbl.d)] rfl ?_
          refine od_runp rfl rfl rfl rfl rfl (p_not rfl) ?_
          refine od_pu rfl rfl (p_pick_f rfl rfl) ?_
          refine od_nil rfl ?_
          exact PD.sub ((76, .v (.bool ((decide (tidyE l = (0 : Int)) != decide (tidyE (((l.take l.length).drop k) ++ ((l.take k).drop 0)) = (0 : Int))) || !(decide ((tidyL l) = (tidyL (((l.take l.length).drop k) ++ ((l.take k).drop 0)))))))) :: [(0, .sh 2 (l.map Lbl.d)), (1, .sh 2 (a.map Lbl.d)), (2, .sh 2 (b.map Lbl.d)), (8, .v (.bool false)), (11, .ov v8), (12, .v (.int .i64 (tidyE l))), (13, .ov v9), (14, .v (.int .i64 (tidyE (((l.take l.length).drop k) ++ ((l.take k).drop 0)))))]) ⟨sc rfl (Cv.eq (congrArg (fun b => D.v (.bool b)) (by first | (simp [hg11]; done) | (simp_all; done)))), sk rfl, sk rfl, sk rfl, sk rfl, sk rfl, sk rfl, sk rfl, sk rfl, trivial⟩ hQ10
      · skip
        refine pd_seq ?_
        refine jd_cond [true, true, true, true, true, true, false, true, false] [true, true, true, true, true, true, false, true, true] rfl rfl rfl rfl (fun hc12 => ?_) (fun hc12 => ?_)
        · simp only [Bool.and_eq_true, Bool.or_eq_true, Bool.not_eq_true', Bool.not_eq_false', Bool.and_eq_false_iff, Bool.or_eq_false_iff, decide_eq_true_eq, decide_eq_false_iff_not, Decidable.not_not, ne_eq] at hc12
          exfalso; exact turn_dead htu hc12
        · simp only [Bool.and_eq_true, Bool.or_eq_true, Bool.not_eq_true', Bool.not_eq_false', Bool.and_eq_false_iff, Bool.or_eq_false_iff, decide_eq_true_eq, decide_eq_false_iff_not, Decidable.not_not, ne_eq] at hc12
          refine jd_skip rfl ?_
          refine pd_seq ?_
          refine jd_seq [true, true, true, true, true, true, true, false] [true, true, true, true, true, true, true, true] rfl rfl rfl ?_
          refine jd_seq [true, true, true, true, true, true, true, false, false] [true, true, true, true, true, true, true, false, true] rfl rfl rfl ?_
          refine JD.keep [0, 1, 2, 8, 11, 12, 13, 14, 76] [(0, .sh 2 (l.map Lbl.d)), (1, .sh 2 (a.map Lbl.d)), (2, .sh 2 (b.map Lbl.d)), (8, .v (.bool false)), (11, .ov v8), (12, .v (.int .i64 (tidyE l))), (13, .ov v9), (14, .v (.int .i64 (tidyE (((l.take l.length).drop k) ++ ((l.take k).drop 0))))), (76, .v (.bool ((decide (tidyE l = (0 : Int)) != decide (tidyE (((l.take l.length).drop k) ++ ((l.take k).drop 0)) = (0 : Int))) || !(decide ((tidyL l) = (tidyL (((l.take l.length).drop k) ++ ((l.take k).drop 0))))))))] rfl ?_
          refine jd_sum 92 (((decide (cmpLs l a ≤ (0 : Int)) && decide (cmpLs a b ≤ (0 : Int))) && decide ((0 : Int) < cmpLs l b))) [.sl v9 2 74 ((tidyL (((l.take l.length).drop k) ++ ((l.take k).drop 0))).map Lbl.d), .sl v8 2 74 ((tidyL l).map Lbl.d), .sl v7 2 74 ((((l.take l.length).drop k) ++ ((l.take k).drop 0)).map Lbl.d)] (fun _ hQ13 => ?_) ?_
          · skip
            by_cases hg14 : cmpLs l a ≤ (0 : Int)
            · skip
              by_cases hg15 : cmpLs a b ≤ (0 : Int)
              · skip
                refine jd_region rfl ?_
                refine od_pu rfl rfl (p_move rfl) ?_
                refine od_pu rfl rfl (p_move rfl) ?_
                refine od_step rfl rfl (ef_call [] _ [] rfl rfl (.cons ArgC.id (.cons ArgC.id .nil)) lend_nil Try.call38 (Compare2_c l a) (.inl rfl)) ?_
                rintro _ _ ⟨_, ⟨rfl, rfl⟩, rfl⟩
                refine OpsD.norm [.sl v9 2 74 ((tidyL (((l.take l.length).drop k) ++ ((l.take k).drop 0))).map Lbl.d), .sl v8 2 74 ((tidyL l).map Lbl.d), .sl v7 2 74 ((((l.take l.length).drop k) ++ ((l.take k).drop 0)).map Lbl.d)] rfl ?_
                refine od_pu rfl rfl (p_leq rfl rfl (decide_eq_true hg14)) ?_
                refine od_pu rfl rfl (p_move rfl) ?_
                refine od_runp rfl rfl rfl rfl rfl (p_move rfl) ?_
                refine od_runp rfl rfl rfl rfl rfl (p_move rfl) ?_
                refine od_run rfl rfl rfl rfl rfl (ef_call [] _ [] rfl rfl (.cons ArgC.id (.cons ArgC.id .nil)) lend_nil Try.call38 (Compare2_c a b) (.inl rfl)) ?_
                rintro _ _ ⟨_, ⟨rfl, rfl⟩, rfl⟩
                refine OpsD.norm [.sl v9 2 74 ((tidyL (((l.take l.length).drop k) ++ ((l.take k).drop 0))).map Lbl.d), .sl v8 2 74 ((tidyL l).map Lbl.d), .sl v7 2 74 ((((l.take l.length).drop k) ++ ((l.take k).drop 0)).map Lbl.d)] rfl ?_
                refine od_runp rfl rfl rfl rfl rfl (p_leq rfl rfl (decide_eq_true hg15)) ?_
                refine od_pu rfl rfl (p_pick_t rfl rfl) ?_
                refine od_pu rfl rfl (p_move rfl) ?_
                refine od_runp rfl rfl rfl rfl rfl (p_move rfl) ?_
                refine od_runp rfl rfl rfl rfl rfl (p_move rfl) ?_
                refine od_run rfl rfl rfl rfl rfl (ef_call [] _ [] rfl rfl (.cons ArgC.id (.cons ArgC.id .nil)) lend_nil Try.call38 (Compare2_c l b) (.inl rfl)) ?_
                rintro _ _ ⟨_, ⟨rfl, rfl⟩, rfl⟩
                refine OpsD.norm [.sl v9 2 74 ((tidyL (((l.take l.length).drop k) ++ ((l.take k).drop 0))).map Lbl.d), .sl v8 2 74 ((tidyL l).map Lbl.d), .sl v7 2 74 ((((l.take l.length).drop k) ++ ((l.take k).drop 0)).map Lbl.d)] rfl ?_
                refine od_runp rfl rfl rfl rfl rfl (p_gtr rfl rfl rfl) ?_
                refine od_pu rfl rfl (p_pick_t rfl rfl) ?_
                refine od_nil rfl ?_
                exact PD.sub ((92, .v (.bool ((decide (cmpLs l a ≤ (0 : Int)) && decide (cmpLs a b ≤ (0 : Int))) && decide ((0 : Int) < cmpLs l b)))) :: [(0, .sh 2 (l.map Lbl.d)), (1, .sh 2 (a.map Lbl.d)), (2, .sh 2 (b.map Lbl.d)), (8, .v (.bool false)), (11, .ov v8), (12, .v (.int .i64 (tidyE l))), (13, .ov v9), (14, .v (.int .i64 (tidyE (((l.take l.length).drop k) ++ ((l.take k).drop 0))))), (76, .v (.bool ((decide (tidyE l = (0 : Int)) != decide (tidyE (((l.take l.length).drop k) ++ ((l.take k).drop 0)) = (0 : Int))) || !(decide ((tidyL l) = (tidyL (((l.take l.length).drop k) ++ ((l.take k).drop 0))))))))]) ⟨sc rfl (Cv.eq (congrArg (fun b => D.v (.bool b)) (by first | (simp [hg14, hg15]; done) | (simp_all; done)))), sk rfl, sk rfl, sk rfl, sk rfl, sk rfl, sk rfl, sk rfl, sk rfl, sk rfl, trivial⟩ hQ13
              · skip
                refine jd_region rfl ?_
                refine od_pu rfl rfl (p_move rfl) ?_
                refine od_pu rfl rfl (p_move rfl) ?_
                refine od_step rfl rfl (ef_call [] _ [] rfl rfl (.cons ArgC.id (.cons ArgC.id .nil)) lend_nil Try.call38 (Compare2_c l a) (.inl rfl)) ?_
                rintro _ _ ⟨_, ⟨rfl, rfl⟩, rfl⟩
                refine OpsD.norm [.sl v9 2 74 ((tidyL (((l.take l.length).drop k) ++ ((l.take k).drop 0))).map Lbl.d), .sl v8 2 74 ((tidyL l).map Lbl.d), .sl v7 2 74 ((((l.take l.length).drop k) ++ ((l.take k).drop 0)).map Lbl.d)] rfl ?_
                refine od_pu rfl rfl (p_leq rfl rfl (decide_eq_true hg14)) ?_
                refine od_pu rfl rfl (p_move rfl) ?_
                refine od_runp rfl rfl rfl rfl rfl (p_move rfl) ?_
                refine od_runp rfl rfl rfl rfl rfl (p_move rfl) ?_
                refine od_run rfl rfl rfl rfl rfl (ef_call [] _ [] rfl rfl (.cons ArgC.id (.cons ArgC.id .nil)) lend_nil Try.call38 (Compare2_c a b) (.inl rfl)) ?_
                rintro _ _ ⟨_, ⟨rfl, rfl⟩, rfl⟩
                refine OpsD.norm [.sl v9 2 74 ((tidyL (((l.take l.length).drop k) ++ ((l.take k).drop 0))).map Lbl.d), .sl v8 2 74 ((tidyL l).map Lbl.d), .sl v7 2 74 ((((l.take l.length).drop k) ++ ((l.take k).drop 0)).map Lbl.d)] rfl ?_
                refine od_runp rfl rfl rfl rfl rfl (p_leq rfl rfl (decide_eq_false hg15)) ?_
                refine od_pu rfl rfl (p_pick_t rfl rfl) ?_
                refine od_pu rfl rfl (p_move rfl) ?_
                refine od_skip rfl rfl rfl rfl rfl (by decide) ?_
                refine od_skip rfl rfl rfl rfl rfl (by decide) ?_
                refine od_skip rfl rfl rfl rfl rfl (by decide) ?_
                refine od_skip rfl rfl rfl rfl rfl (by decide) ?_
                refine od_pu rfl rfl (p_pick_f rfl rfl) ?_
                refine od_nil rfl ?_
                exact PD.sub ((92, .v (.bool ((decide (cmpLs l a ≤ (0 : Int)) && decide (cmpLs a b ≤ (0 : Int))) && decide ((0 : Int) < cmpLs l b)))) :: [(0, .sh 2 (l.map Lbl.d)), (1, .sh 2 (a.map Lbl.d)), (2, .sh 2 (b.map Lbl.d)), (8, .v (.bool false)), (11, .ov v8), (12, .v (.int .i64 (tidyE l))), (13, .ov v9), (14, .v (.int .i64 (tidyE (((l.take l.length).drop k) ++ ((l.take k).drop 0))))), (76, .v (.bool ((decide (tidyE l = (0 : Int)) != decide (tidyE (((l.take l.length).drop k) ++ ((l.take k).drop 0)) = (0 : Int))) || !(decide ((tidyL l) = (tidyL (((l.take l.length).drop k) ++ ((l.take k).drop 0))))))))]) ⟨sc rfl (Cv.eq (congrArg (fun b => D.v (.bool b)) (by first | (simp [hg14, hg15]; done) | (simp_all; done)))), sk rfl, sk rfl, sk rfl, sk rfl, sk rfl, sk rfl, sk rfl, sk rfl, sk rfl, trivial⟩ hQ13
            · skip
              refine jd_region rfl ?_
              refine od_pu rfl rfl (p_move rfl) ?_
              refine od_pu rfl rfl (p_move rfl) ?_
              refine od_step rfl rfl (ef_call [] _ [] rfl rfl (.cons ArgC.id (.cons ArgC.id .nil)) lend_nil Try.call38 (Compare2_c l a) (.inl rfl)) ?_
              rintro _ _ ⟨_, ⟨rfl, rfl⟩, rfl⟩
              refine OpsD.norm [.sl v9 2 74 ((tidyL (((l.take l.length).drop k) ++ ((l.take k).drop 0))).map Lbl.d), .sl v8 2 74 ((tidyL l).map Lbl.d), .sl v7 2 74 ((((l.take l.length).drop k) ++ ((l.take k).drop 0)).map Lbl.d)] rfl ?_
              refine od_pu rfl rfl (p_leq rfl rfl (decide_eq_false hg14)) ?_
              refine od_pu rfl rfl (p_move rfl) ?_
              refine od_skip rfl rfl rfl rfl rfl (by decide) ?_
              refine od_skip rfl rfl rfl rfl rfl (by decide) ?_
              refine od_skip rfl rfl rfl rfl rfl (by decide) ?_
              refine od_skip rfl rfl rfl rfl rfl (by decide) ?_
              refine od_pu rfl rfl (p_pick_f rfl rfl) ?_
              refine od_pu rfl rfl (p_move rfl) ?_
              refine od_skip rfl rfl rfl rfl rfl (by decide) ?_
              refine od_skip rfl rfl rfl rfl rfl (by decide) ?_
              refine od_skip rfl rfl rfl rfl rfl (by decide) ?_
              refine od_skip rfl rfl rfl rfl rfl (by decide) ?_
              refine od_pu rfl rfl (p_pick_f rfl rfl) ?_
              refine od_nil rfl ?_
              exact PD.sub ((92, .v (.bool ((decide (cmpLs l a ≤ (0 : Int)) && decide (cmpLs a b ≤ (0 : Int))) && decide ((0 : Int) < cmpLs l b)))) :: [(0, .sh 2 (l.map Lbl.d)), (1, .sh 2 (a.map Lbl.d)), (2, .sh 2 (b.map Lbl.d)), (8, .v (.bool false)), (11, .ov v8), (12, .v (.int .i64 (tidyE l))), (13, .ov v9), (14, .v (.int .i64 (tidyE (((l.take l.length).drop k) ++ ((l.take k).drop 0))))), (76, .v (.bool ((decide (tidyE l = (0 : Int)) != decide (tidyE (((l.take l.length).drop k) ++ ((l.take k).drop 0)) = (0 : Int))) || !(decide ((tidyL l) = (tidyL (((l.take l.length).drop k) ++ ((l.take k).drop 0))))))))]) ⟨sc rfl (Cv.eq (congrArg (fun b => D.v (.bool b)) (by first | (simp [hg14]; done) | (simp_all; done)))), sk rfl, sk rfl, sk rfl, sk rfl, sk rfl, sk rfl, sk rfl, sk rfl, sk rfl, trivial⟩ hQ13
          · skip
            refine pd_seq ?_
            refine jd_cond [true, true, true, true, true, true, true, false, true, false] [true, true, true, true, true, true, true, false, true, true] rfl rfl rfl rfl (fun hc16 => ?_) (fun hc16 => ?_)
            · simp only [Bool.and_eq_true, Bool.or_eq_true, Bool.not_eq_true', Bool.not_eq_false', Bool.and_eq_false_iff, Bool.or_eq_false_iff, decide_eq_true_eq, decide_eq_false_iff_not, Decidable.not_not, ne_eq] at hc16
              exfalso; exact order_dead hc16
            · simp only [Bool.and_eq_true, Bool.or_eq_true, Bool.not_eq_true', Bool.not_eq_false', Bool.and_eq_false_iff, Bool.or_eq_false_iff, decide_eq_true_eq, decide_eq_false_iff_not, Decidable.not_not, ne_eq] at hc16
              refine jd_skip rfl ?_
              refine pd_seq ?_
              refine jd_seq [true, true, true, true, true, true, true, true, false] [true, true, true, true, true, true, true, true, true] rfl rfl rfl ?_
              refine jd_region rfl ?_
              refine od_pu rfl rfl (p_move rfl) ?_
              refine od_pu rfl rfl (p_move rfl) ?_
              refine od_step rfl rfl (ef_call [] _ [] rfl rfl (.cons ArgC.id (.cons ArgC.id .nil)) lend_nil Try.call38 (Compare2_c a b) (.inl rfl)) ?_
              rintro _ _ ⟨_, ⟨rfl, rfl⟩, rfl⟩
              refine OpsD.norm [.sl v9 2 74 ((tidyL (((l.take l.length).drop k) ++ ((l.take k).drop 0))).map Lbl.d), .sl v8 2 74 ((tidyL l).map Lbl.d), .sl v7 2 74 ((((l.take l.length).drop k) ++ ((l.take k).drop 0)).map Lbl.d)] rfl ?_
              refine od_pu rfl rfl (p_eql rfl rfl rfl) ?_
              refine od_pu rfl rfl (p_move rfl) ?_
              refine od_pu rfl rfl (p_move rfl) ?_
              refine od_step rfl rfl (ef_call [] _ [] rfl rfl (.cons ArgC.id (.cons ArgC.id .nil)) lend_nil Try.call37 (SameLabels_c a b) (.inl rfl)) ?_
              rintro _ _ ⟨_, ⟨rfl, rfl⟩, rfl⟩
              refine OpsD.norm [.sl v9 2 74 ((tidyL (((l.take l.length).drop k) ++ ((l.take k).drop 0))).map Lbl.d), .sl v8 2 74 ((tidyL l).map Lbl.d), .sl v7 2 74 ((((l.take l.length).drop k) ++ ((l.take k).drop 0)).map Lbl.d)] rfl ?_
              refine od_pu rfl rfl (p_bin (r := .bool (decide (cmpLs a b = (0 : Int)) == decide (a = b))) rfl rfl (eqb_4_eql _ _ _ _)) ?_
              refine od_pu rfl rfl (p_assign rfl) ?_
              refine od_nil rfl ?_
              refine pd_seq ?_
              refine JD.keep [8] [(8, .v (.bool (decide (cmpLs a b = (0 : Int)) == decide (a = b))))] rfl ?_
              refine jd_ret rfl ?_
              exact pd_retH Try.results8 (.cons (ro_cv (ro_tmp rfl) (Cv.eq (congrArg (fun b => D.v (.bool b)) (by simp [cmpLs_eq])))) .nil) rfl HSub.none ⟨rfl, rfl⟩
end Lp
