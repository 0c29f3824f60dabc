/- Walks, printed by a program of mine (wip/tools/dw.py): each theorem says what a function of the translation hands back. -/
import Derived.Test.YtjhkajkickngmaaV10
import Derived.Test.YtjhkajkickngmaaPText2
set_option linter.unusedSimpArgs false
set_option linter.unusedVariables false
namespace Lp
open Go Go.RowKit Go.Proofs

namespace HdV11
theorem fa_74_1 (b o : Nat) : ∀ w, (Instr.fieldAt 74 (.pointer (some ⟨b, o, none⟩)) 1).run Try.prog w = .ok (.pointer (some ⟨b, o + 1, none⟩)) w := fun _ => by kernel_rfl
end HdV11
open HdV11

set_option maxHeartbeats 4000000 in
set_option maxRecDepth 100000 in
theorem gets_c (l : List Lbl) (name : ByteArray)  :
    CD Try.prog 9 [] [.sh 2 (l.map Lbl.d), .s name] (isR (dB true)) := by
  refine cd_of_JD Try.func9 rfl (N := 65) rfl rfl (fun C => ?_)
  refine JD.keep [0, 1] [(0, .sh 2 (l.map Lbl.d)), (1, .s name)] rfl ?_
  refine JD.bd 0 rfl (fun bd0 => ?_)
  have nl0 := bd_len bd0
  refine JD.bd 1 rfl (fun bd1 => ?_)
  have sz1 : name.size ≤ 9223372036854775807 := bd1
  have htl := tidyL_len l
  refine jd_seq [false] [true] rfl rfl rfl ?_
  refine jd_region rfl ?_
  refine od_pu rfl rfl (p_assign rfl) ?_
  refine od_nil rfl ?_
  refine pd_seq ?_
  refine jd_seq [true, false] [true, true] rfl rfl rfl ?_
  refine jd_seq [true, false, false] [true, false, true] rfl rfl rfl ?_
  refine JD.keep [0, 1, 4] [(0, .sh 2 (l.map Lbl.d)), (1, .s name), (4, .v (.bool false))] rfl ?_
  refine jd_sum 19 ((!(lightL l) || decide ((100 : Int) < ((name.size : Nat) : Int)))) [] (fun _ hQ1 => ?_) ?_
  · skip
    rcases Bool.eq_false_or_eq_true (lightL l) with hg2 | hg2
    · skip
      by_cases hg3 : (100 : Int) < ((name.size : Nat) : Int)
      · skip
        refine jd_region rfl ?_
        refine od_pu rfl rfl (p_move rfl) ?_
        refine od_step rfl rfl (ef_call [] _ [] rfl rfl (.cons ArgC.id .nil) lend_nil Try.call34 (Light2_c l) (.inl rfl)) ?_
        rintro _ _ ⟨_, ⟨rfl, rfl⟩, rfl⟩
        refine OpsD.norm [] rfl ?_
        refine OpsD.sub ((9, .v (.bool true)) :: [(0, .sh 2 (l.map Lbl.d)), (1, .s name), (4, .v (.bool false)), (8, .sh 2 (l.map Lbl.d))]) ⟨se rfl (congrArg (fun b => D.v (.bool b)) hg2), sk rfl, sk rfl, sk rfl, sk rfl, trivial⟩ ?_
        refine od_pu rfl rfl (p_not (q := true) rfl) ?_
        refine od_pu rfl rfl (p_move rfl) ?_
        refine od_runp rfl rfl rfl rfl rfl (p_move rfl) ?_
        refine od_runp rfl rfl rfl rfl rfl (p_len_str rfl Try.runUnderlying9) ?_
        refine od_runp rfl rfl rfl rfl rfl (p_gtr rfl rfl (decide_eq_true hg3)) ?_
        refine od_pu rfl rfl (p_pick_f rfl rfl) ?_
        refine od_pu rfl rfl (p_move rfl) ?_
        refine od_skip rfl rfl rfl rfl rfl (by decide) ?_
        refine od_skip rfl rfl rfl rfl rfl (by decide) ?_
        refine od_pu rfl rfl (p_pick_t rfl rfl) ?_
        refine od_nil rfl ?_
        exact PD.sub ((19, .v (.bool (!(lightL l) || decide ((100 : Int) < ((name.size : Nat) : Int))))) :: [(0, .sh 2 (l.map Lbl.d)), (1, .s name), (4, .v (.bool false))]) ⟨sc rfl (Cv.eq (congrArg (fun b => D.v (.bool b)) (by first | (simp [hg2, hg3]; done) | (simp_all; done)))), sk rfl, sk rfl, sk rfl, trivial⟩ hQ1
      · skip
        refine jd_region rfl ?_
        refine od_pu rfl rfl (p_move rfl) ?_
        refine od_step rfl rfl (ef_call [] _ [] rfl rfl (.cons ArgC.id .nil) lend_nil Try.call34 (Light2_c l) (.inl rfl)) ?_
        rintro _ _ ⟨_, ⟨rfl, rfl⟩, rfl⟩
        refine OpsD.norm [] rfl ?_
        refine OpsD.sub ((9, .v (.bool true)) :: [(0, .sh 2 (l.map Lbl.d)), (1, .s name), (4, .v (.bool false)), (8, .sh 2 (l.map Lbl.d))]) ⟨se rfl (congrArg (fun b => D.v (.bool b)) hg2), sk rfl, sk rfl, sk rfl, sk rfl, trivial⟩ ?_
        refine od_pu rfl rfl (p_not (q := true) rfl) ?_
        refine od_pu rfl rfl (p_move rfl) ?_
        refine od_runp rfl rfl rfl rfl rfl (p_move rfl) ?_
        refine od_runp rfl rfl rfl rfl rfl (p_len_str rfl Try.runUnderlying9) ?_
        refine od_runp rfl rfl rfl rfl rfl (p_gtr rfl rfl (decide_eq_false hg3)) ?_
        refine od_pu rfl rfl (p_pick_f rfl rfl) ?_
        refine od_pu rfl rfl (p_move rfl) ?_
        refine od_run rfl rfl rfl rfl rfl (ef_call [] _ [] rfl rfl (.nil) lend_nil Try.call35 (alive2_c) (.inl rfl)) ?_
        rintro _ _ ⟨_, ⟨rfl, rfl⟩, rfl⟩
        refine OpsD.norm [] rfl ?_
        refine od_runp rfl rfl rfl rfl rfl (p_not (q := true) rfl) ?_
        refine od_pu rfl rfl (p_pick_f rfl rfl) ?_
        refine od_nil rfl ?_
        exact PD.sub ((19, .v (.bool (!(lightL l) || decide ((100 : Int) < ((name.size : Nat) : Int))))) :: [(0, .sh 2 (l.map Lbl.d)), (1, .s name), (4, .v (.bool false))]) ⟨sc rfl (Cv.eq (congrArg (fun b => D.v (.bool b)) (by first | (simp [hg2, hg3]; done) | (simp_all; done)))), sk rfl, sk rfl, sk rfl, trivial⟩ hQ1
    · skip
      refine jd_region rfl ?_
      refine od_pu rfl rfl (p_move rfl) ?_
      refine od_step rfl rfl (ef_call [] _ [] rfl rfl (.cons ArgC.id .nil) lend_nil Try.call34 (Light2_c l) (.inl rfl)) ?_
      rintro _ _ ⟨_, ⟨rfl, rfl⟩, rfl⟩
      refine OpsD.norm [] rfl ?_
      refine OpsD.sub ((9, .v (.bool false)) :: [(0, .sh 2 (l.map Lbl.d)), (1, .s name), (4, .v (.bool false)), (8, .sh 2 (l.map Lbl.d))]) ⟨se rfl (congrArg (fun b => D.v (.bool b)) hg2), sk rfl, sk rfl, sk rfl, sk rfl, trivial⟩ ?_
      refine od_pu rfl rfl (p_not (q := false) rfl) ?_
      refine od_pu rfl rfl (p_move rfl) ?_
      refine od_skip rfl rfl rfl rfl rfl (by decide) ?_
      refine od_skip rfl rfl rfl rfl rfl (by decide) ?_
      refine od_skip rfl rfl rfl rfl rfl (by decide) ?_
      refine od_pu rfl rfl (p_pick_t rfl rfl) ?_
      refine od_pu rfl rfl (p_move rfl) ?_
      refine od_skip rfl rfl rfl rfl rfl (by decide) ?_
      refine od_skip rfl rfl rfl rfl rfl (by decide) ?_
      refine od_pu rfl rfl (p_pick_t rfl rfl) ?_
      refine od_nil rfl ?_
      exact PD.sub ((19, .v (.bool (!(lightL l) || decide ((100 : Int) < ((name.size : Nat) : Int))))) :: [(0, .sh 2 (l.map Lbl.d)), (1, .s name), (4, .v (.bool false))]) ⟨sc rfl (Cv.eq (congrArg (fun b => D.v (.bool b)) (by first | (simp [hg2]; done) | (simp_all; done)))), sk rfl, sk rfl, sk rfl, trivial⟩ hQ1
  · skip
    refine pd_seq ?_
    refine jd_cond [true, false, true, false] [true, false, true, true] rfl rfl rfl rfl (fun hc4 => ?_) (fun hc4 => ?_)
    · simp only [Bool.and_eq_true, Bool.or_eq_true, Bool.not_eq_true', Bool.not_eq_false', Bool.and_eq_false_iff, Bool.or_eq_false_iff, decide_eq_true_eq, decide_eq_false_iff_not, Decidable.not_not, ne_eq] at hc4
      refine jd_seq [true, false, true, false, false] [true, false, true, false, true] rfl rfl rfl ?_
      refine jd_region rfl ?_
      refine od_step rfl rfl (ef_call [] _ [] rfl rfl (.nil) lend_nil Try.call35 (alive2_c) (.inl rfl)) ?_
      rintro _ _ ⟨_, ⟨rfl, rfl⟩, rfl⟩
      refine OpsD.norm [] rfl ?_
      refine od_pu rfl rfl (p_assign rfl) ?_
      refine od_nil rfl ?_
      refine pd_seq ?_
      refine jd_ret rfl ?_
      refine pd_seq_ret ?_
      exact pd_retH Try.results9 (.cons (ro_tmp rfl) .nil) rfl HSub.none ⟨rfl, rfl⟩
    · simp only [Bool.and_eq_true, Bool.or_eq_true, Bool.not_eq_true', Bool.not_eq_false', Bool.and_eq_false_iff, Bool.or_eq_false_iff, decide_eq_true_eq, decide_eq_false_iff_not, Decidable.not_not, ne_eq] at hc4
      have nl : l.length ≤ 20 := by have h := hc4; first | exact lightL_len h | exact lightL_len h.1 | exact lightL_len h.1.1 | exact lightL_len h.1.2 | exact lightL_len h.2 | exact lightL_len h.1.1.1 | exact lightL_len h.1.1.2
      refine jd_skip rfl ?_
      refine pd_seq ?_
      refine jd_seq [true, true, false] [true, true, true] rfl rfl rfl ?_
      refine jd_region rfl ?_
      refine od_pu rfl rfl (p_move rfl) ?_
      refine od_step rfl rfl (ef_call [] _ [] rfl rfl (.cons ArgC.id .nil) lend_nil Try.call36 (tidy_c l) (.inl rfl)) ?_
      rintro _ _ ⟨_, ⟨v5, rfl, rfl⟩, rfl⟩
      refine OpsD.norm [.sl v5 2 74 ((tidyL l).map Lbl.d)] rfl ?_
      refine od_pu rfl rfl (p_move rfl) ?_
      refine od_pu rfl rfl (p_extract rfl rfl) ?_
      refine od_pu rfl rfl (p_extract rfl rfl) ?_
      refine od_pu rfl rfl (p_assign rfl) ?_
      refine od_pu rfl rfl (p_assign rfl) ?_
      refine od_nil rfl ?_
      refine pd_seq ?_
      refine jd_seq [true, true, true, false] [true, true, true, true] rfl rfl rfl ?_
      refine jd_seq [true, true, true, false, false] [true, true, true, false, true] rfl rfl rfl ?_
      refine jd_region rfl ?_
      refine od_pu rfl rfl (p_move rfl) ?_
      refine od_pu rfl rfl (p_neq rfl rfl rfl) ?_
      refine od_nil rfl ?_
      refine pd_seq ?_
      refine JD.keep [1, 4, 5, 27] [(1, .s name), (4, .v (.bool false)), (5, .ov v5), (27, .v (.bool (decide (tidyE l ≠ (0 : Int)))))] rfl ?_
      refine jd_cond [true, true, true, false, true, false] [true, true, true, false, true, true] rfl rfl rfl rfl (fun hc6 => ?_) (fun hc6 => ?_)
      · replace hc6 := of_decide_eq_true hc6
        refine jd_seq [true, true, true, false, true, false, false] [true, true, true, false, true, false, true] rfl rfl rfl ?_
        refine jd_region rfl ?_
        refine od_pu rfl rfl (p_move rfl) ?_
        refine od_pu rfl rfl (p_len_own (n := (tidyL l).length) (j := 0) rfl rfl Try.runUnderlying32 (List.length_map _)) ?_
        refine od_pu rfl rfl (p_eql rfl rfl rfl) ?_
        refine od_pu rfl rfl (p_assign rfl) ?_
        refine od_nil rfl ?_
        refine pd_seq ?_
        refine jd_ret rfl ?_
        refine pd_seq_ret ?_
        exact pd_retH Try.results9 (.cons (ro_cv (ro_tmp rfl) (Cv.eq (congrArg (fun b => D.v (.bool b)) (by rcases tidyE_cases l with ⟨h1, _⟩ | ⟨_, h2⟩ <;> simp_all)))) .nil) rfl HSub.none ⟨rfl, rfl⟩
      · replace hc6 := of_decide_eq_false hc6
        refine jd_skip rfl ?_
        refine pd_seq ?_
        refine jd_seq [true, true, true, true, false] [true, true, true, true, true] rfl rfl rfl ?_
        refine jd_region rfl ?_
        refine od_pu rfl rfl (p_move rfl) ?_
        refine od_pu rfl rfl (p_move rfl) ?_
        refine od_step rfl rfl (ef_buildSlice [.tmp 32] rfl rfl (.cons CellD.s .nil) rfl Try.runUnderlying76 Try.sizeOf9 Try.zeroValue9 rfl rfl rfl rfl) ?_
        rintro _ _ ⟨g7, rfl, rfl⟩
        refine od_step rfl rfl (ef_call [] _ [.sl v5 2 74 ((tidyL l).map Lbl.d), .sl (.slice (some ⟨g7, 0, none⟩) 1 1) 1 9 ([.s name])] rfl rfl (.cons (ArgC.own (j := 0) rfl rfl) (.cons (ArgC.own (j := 1) rfl rfl) .nil)) (lend_cons (j := 1) rfl (lend_cons (j := 0) rfl lend_nil)) Try.call39 (only_c (tidyL l) [name] (by omega)) (.inr (isOwn_flat (flatL_map (fun _ => rfl) _)))) ?_
        rintro _ _ ⟨_, ⟨v8, rfl, rfl⟩, rfl⟩
        refine OpsD.norm [.sl v8 2 74 ((pickL (tidyL l) [name] true).map Lbl.d), .sl (.slice (some ⟨g7, 0, none⟩) 1 1) 1 9 ([.s name]), .sl v5 2 74 ((tidyL l).map Lbl.d)] rfl ?_
        refine od_pu rfl rfl (p_assign rfl) ?_
        refine od_nil rfl ?_
        refine pd_seq ?_
        refine jd_seq [true, true, true, true, true, false] [true, true, true, true, true, true] rfl rfl rfl ?_
        refine jd_seq [true, true, true, true, true, false, false] [true, true, true, true, true, false, true] rfl rfl rfl ?_
        refine jd_region rfl ?_
        refine od_pu rfl rfl (p_move rfl) ?_
        refine od_pu rfl rfl (p_len_own (n := (pickL (tidyL l) [name] true).length) (j := 0) rfl rfl Try.runUnderlying32 (List.length_map _)) ?_
        refine od_pu rfl rfl (p_eql rfl rfl rfl) ?_
        refine od_nil rfl ?_
        refine pd_seq ?_
        refine jd_cond [true, true, true, true, true, false, true, false] [true, true, true, true, true, false, true, true] rfl rfl rfl rfl (fun hc9 => ?_) (fun hc9 => ?_)
        · replace hc9 := of_decide_eq_true hc9
          refine jd_seq [true, true, true, true, true, false, true, false, false] [true, true, true, true, true, false, true, false, true] rfl rfl rfl ?_
          refine jd_region rfl ?_
          refine od_pu rfl rfl (p_move rfl) ?_
          refine od_pu rfl rfl (p_move rfl) ?_
          refine od_step rfl rfl (ef_call [] _ [.sl v5 2 74 ((tidyL l).map Lbl.d)] rfl rfl (.cons (ArgC.own (j := 0) rfl rfl) (.cons ArgC.id .nil)) (lend_cons (j := 2) rfl lend_nil) Try.call40 (getL_c (tidyL l) name) (.inr (isR_flat rfl))) ?_
          rintro _ _ ⟨_, ⟨rfl, rfl⟩, rfl⟩
          refine OpsD.norm [.sl v8 2 74 ((pickL (tidyL l) [name] true).map Lbl.d), .sl (.slice (some ⟨g7, 0, none⟩) 1 1) 1 9 ([.s name]), .sl v5 2 74 ((tidyL l).map Lbl.d)] rfl ?_
          refine od_pu rfl rfl (p_eqs rfl rfl rfl) ?_
          refine od_pu rfl rfl (p_assign rfl) ?_
          refine od_nil rfl ?_
          refine pd_seq ?_
          refine JD.keep [1, 4, 5, 7] [(1, .s name), (4, .v (.bool (decide ((getL (tidyL l) name) = ByteArray.empty)))), (5, .ov v5), (7, .ov v8)] rfl ?_
          refine jd_ret rfl ?_
          refine pd_seq_ret ?_
          exact pd_retH Try.results9 (.cons (ro_cv (ro_tmp rfl) (Cv.eq (congrArg (fun b => D.v (.bool b)) (by rcases pick_get (n := name) (tidy_n (l := l) (by omega)).1 with ⟨_, h1⟩ | h1 <;> simp_all)))) .nil) rfl HSub.none ⟨rfl, rfl⟩
        · replace hc9 := of_decide_eq_false hc9
          have hone : pickL (tidyL l) [name] true = [Lbl.mk name (getL (tidyL l) name)] := by
            rcases pick_get (n := name) (tidy_n (l := l) (by omega)).1 with ⟨h1, _⟩ | h1
            · exact absurd (by rw [h1]; rfl) hc9
            · exact h1
          refine JD.norm [.sl v8 2 74 ([Lbl.mk name (getL (tidyL l) name)].map Lbl.d), .sl (.slice (some ⟨g7, 0, none⟩) 1 1) 1 9 ([.s name]), .sl v5 2 74 ((tidyL l).map Lbl.d)] (by rw [hone]) ?_
          have htt := tidy_tidy (l := l) (by omega)
          obtain ⟨x1, hx1, ex1⟩ : ∃ x, [Lbl.mk name (getL (tidyL l) name)][0]? = some x ∧ x = ⟨name, getL (tidyL l) name⟩ := ⟨_, rfl, rfl⟩
          refine jd_skip rfl ?_
          refine pd_seq ?_
          refine jd_seq [true, true, true, true, true, true, false] [true, true, true, true, true, true, true] rfl rfl rfl ?_
          refine JD.keep [1, 5, 7, 27, 31, 32, 33, 34, 35, 36, 37] [(1, .s name), (5, .ov v5), (7, .ov v8), (27, .v (.bool (decide (tidyE l ≠ (0 : Int))))), (31, .ov v5), (32, .s name), (33, .ov (.slice (some ⟨g7, 0, none⟩) 1 1)), (34, .ov v8), (35, .ov v8), (36, .v (.int .i64 (((pickL (tidyL l) [name] true).length : Nat) : Int))), (37, .v (.bool (decide ((((pickL (tidyL l) [name] true).length : Nat) : Int) = (0 : Int)))))] rfl ?_
          refine jd_sum 4 ((((decide ((([Lbl.mk name (getL (tidyL l) name)].length : Nat) : Int) = (1 : Int)) && decide ((getL (tidyL l) name) = x1.v)) && (decide (tidyE (tidyL l) = 0) && decide (cmpLs (tidyL (tidyL l)) (tidyL l) = 0))) && decide (cmpLs (tidyL l) (tidyL l) = (0 : Int)))) [.sl v8 2 74 ([Lbl.mk name (getL (tidyL l) name)].map Lbl.d), .sl (.slice (some ⟨g7, 0, none⟩) 1 1) 1 9 ([.s name]), .sl v5 2 74 ((tidyL l).map Lbl.d)] (fun _ hQ10 => ?_) ?_
          · skip
            by_cases hg11 : (([Lbl.mk name (getL (tidyL l) name)].length : Nat) : Int) = (1 : Int)
            · skip
              by_cases hg12 : (getL (tidyL l) name) = x1.v
              · skip
                rcases Bool.eq_false_or_eq_true ((decide (tidyE (tidyL l) = 0) && decide (cmpLs (tidyL (tidyL l)) (tidyL l) = 0))) with hg13 | hg13
                · skip
                  refine JD.keep [1, 5, 7, 27, 31, 32, 33, 34, 35, 36, 37] [(1, .s name), (5, .ov v5), (7, .ov v8), (27, .v (.bool (decide (tidyE l ≠ (0 : Int))))), (31, .ov v5), (32, .s name), (33, .ov (.slice (some ⟨g7, 0, none⟩) 1 1)), (34, .ov v8), (35, .ov v8), (36, .v (.int .i64 (((pickL (tidyL l) [name] true).length : Nat) : Int))), (37, .v (.bool (decide ((((pickL (tidyL l) [name] true).length : Nat) : Int) = (0 : Int)))))] rfl ?_
                  refine JD.norm [.sl v8 2 74 ([Lbl.mk name (getL (tidyL l) name)].map Lbl.d), .sl (.slice (some ⟨g7, 0, none⟩) 1 1) 1 9 ([.s name]), .sl v5 2 74 ((tidyL l).map Lbl.d)] rfl ?_
                  refine jd_draw 20 [(42, .ov v8, none), (43, .v (.int .i64 (([Lbl.mk name (getL (tidyL l) name)].length : Nat) : Int)), none), (44, .v (.bool true), none), (45, .v (.bool true), none), (46, .ov v5, none), (47, .s name, none), (48, .s (getL (tidyL l) name), none), (49, .ov v8, none), (50, .v (.pointer (some ⟨bl v8, 0 * 2 + 0, none⟩)), none), (51, .v (.pointer (some ⟨bl v8, 0 * 2 + 1, none⟩)), none), (52, .s x1.v, none), (53, .v (.bool true), none), (54, .v (.bool true), none), (55, .v (.bool true), none), (56, .ov v5, none), (57, .v (.bool true), none), (58, .v (.bool true), none), (59, .v (.bool true), none), (60, .ov v5, none), (61, .ov v5, none)] [.sl v8 2 74 ([Lbl.mk name (getL (tidyL l) name)].map Lbl.d), .sl (.slice (some ⟨g7, 0, none⟩) 1 1) 1 9 ([.s name]), .sl v5 2 74 ((tidyL l).map Lbl.d)] (Hn := [.sl v8 2 74 ([Lbl.mk name (getL (tidyL l) name)].map Lbl.d), .sl (.slice (some ⟨g7, 0, none⟩) 1 1) 1 9 ([.s name]), .sl v5 2 74 ((tidyL l).map Lbl.d)]) mixed rfl rfl rfl rfl HSub.rfl' rfl ⟨sa_p rfl rfl rfl (p_move rfl), sa_p rfl rfl rfl (p_len_own (n := [Lbl.mk name (getL (tidyL l) name)].length) (j := 0) rfl rfl Try.runUnderlying32 (List.length_map _)), sa_p rfl rfl rfl (p_eql rfl rfl (decide_eq_true hg11)), sa_p rfl rfl rfl (p_move rfl), sa_qr rfl rfl rfl rfl rfl rfl (p_move rfl).qu, sa_qr rfl rfl rfl rfl rfl rfl (p_move rfl).qu, sa_qr rfl rfl rfl rfl rfl rfl (qu_lend [.sl v5 2 74 ((tidyL l).map Lbl.d)] rfl (.cons (ArgC.own (j := 0) rfl rfl) (.cons ArgC.id .nil)) (lend_cons (j := 2) rfl lend_nil) Try.call40 (getL_c (tidyL l) name) (fun _ _ h => h.1) rfl), sa_qr rfl rfl rfl rfl rfl rfl (p_move rfl).qu, sa_qr rfl rfl rfl rfl rfl rfl (p_indexAddr_sl (k := 0) (j := 0) rfl rfl rfl Try.runUnderlying32 Try.sizeOf74 (by first | rfl | omega) (get_map hx1)).qu, sa_qr rfl rfl rfl rfl rfl rfl (p_fieldAddr rfl fa_74_1 rfl).qu, sa_qr rfl rfl rfl rfl rfl rfl (p_load_sl1 rfl (i := 0) rfl (get_map hx1) Try.isAgg9 rfl).qu, sa_qr rfl rfl rfl rfl rfl rfl (p_eqs rfl rfl (decide_eq_true hg12)).qu, sa_p rfl rfl rfl (p_pick_t rfl rfl), sa_p rfl rfl rfl (p_move rfl), sa_qr rfl rfl rfl rfl rfl rfl (p_move rfl).qu, sa_qr rfl rfl rfl rfl rfl rfl ((qu_lend [.sl v5 2 74 ((tidyL l).map Lbl.d)] rfl (.cons (ArgC.own (j := 0) rfl rfl) .nil) (lend_cons (j := 2) rfl lend_nil) Try.call41 (right_c (tidyL l)) (fun _ _ h => h.1) rfl).cv (Cv.eq (congrArg (fun b => D.v (.bool b)) hg13))), sa_p rfl rfl rfl (p_pick_t rfl rfl), sa_p rfl rfl rfl (p_move rfl), sa_qr rfl rfl rfl rfl rfl rfl (p_move rfl).qu, sa_qr rfl rfl rfl rfl rfl rfl (p_move rfl).qu, trivial⟩ ?_
                  refine OpsD.keep [1, 5, 7, 27, 31, 32, 33, 34, 35, 36, 37, 42, 43, 44, 45, 46, 47, 48, 49, 50, 51, 52, 53, 54, 55, 56, 57, 58, 59, 60, 61] [(1, .s name), (5, .ov v5), (7, .ov v8), (27, .v (.bool (decide (tidyE l ≠ (0 : Int))))), (31, .ov v5), (32, .s name), (33, .ov (.slice (some ⟨g7, 0, none⟩) 1 1)), (34, .ov v8), (35, .ov v8), (36, .v (.int .i64 (((pickL (tidyL l) [name] true).length : Nat) : Int))), (37, .v (.bool (decide ((((pickL (tidyL l) [name] true).length : Nat) : Int) = (0 : Int))))), (42, .ov v8), (43, .v (.int .i64 (([Lbl.mk name (getL (tidyL l) name)].length : Nat) : Int))), (44, .v (.bool true)), (45, .v (.bool true)), (46, .ov v5), (47, .s name), (48, .s (getL (tidyL l) name)), (49, .ov v8), (50, .v (.pointer (some ⟨bl v8, 0 * 2 + 0, none⟩))), (51, .v (.pointer (some ⟨bl v8, 0 * 2 + 1, none⟩))), (52, .s x1.v), (53, .v (.bool true)), (54, .v (.bool true)), (55, .v (.bool true)), (56, .ov v5), (57, .v (.bool true)), (58, .v (.bool true)), (59, .v (.bool true)), (60, .ov v5), (61, .ov v5)] rfl ?_
                  refine od_run rfl rfl rfl rfl rfl (ef_call [] _ [.sl v5 2 74 ((tidyL l).map Lbl.d)] rfl rfl (.cons (ArgC.own (j := 0) rfl rfl) (.cons (ArgC.own (j := 0) rfl rfl) .nil)) (lend_cons (j := 2) rfl lend_nil) Try.call38 (Compare2_c (tidyL l) (tidyL l)) (.inr (isR_flat rfl))) ?_
                  rintro _ _ ⟨_, ⟨rfl, rfl⟩, rfl⟩
                  refine OpsD.norm [.sl v8 2 74 ([Lbl.mk name (getL (tidyL l) name)].map Lbl.d), .sl (.slice (some ⟨g7, 0, none⟩) 1 1) 1 9 ([.s name]), .sl v5 2 74 ((tidyL l).map Lbl.d)] rfl ?_
                  refine od_runp rfl rfl rfl rfl rfl (p_eql rfl rfl rfl) ?_
                  refine od_pu rfl rfl (p_pick_t rfl rfl) ?_
                  refine od_pu rfl rfl (p_assign rfl) ?_
                  refine od_nil rfl ?_
                  exact PD.sub ((4, .v (.bool (((decide ((([Lbl.mk name (getL (tidyL l) name)].length : Nat) : Int) = (1 : Int)) && decide ((getL (tidyL l) name) = x1.v)) && (decide (tidyE (tidyL l) = 0) && decide (cmpLs (tidyL (tidyL l)) (tidyL l) = 0))) && decide (cmpLs (tidyL l) (tidyL l) = (0 : Int))))) :: [(1, .s name), (5, .ov v5), (7, .ov v8), (27, .v (.bool (decide (tidyE l ≠ (0 : Int))))), (31, .ov v5), (32, .s name), (33, .ov (.slice (some ⟨g7, 0, none⟩) 1 1)), (34, .ov v8), (35, .ov v8), (36, .v (.int .i64 (((pickL (tidyL l) [name] true).length : Nat) : Int))), (37, .v (.bool (decide ((((pickL (tidyL l) [name] true).length : Nat) : Int) = (0 : Int)))))]) ⟨sc rfl (Cv.eq (congrArg (fun b => D.v (.bool b)) (by first | (simp [hc6, hc9, hg11, hg12, hg13]; done) | (simp_all; done)))), sk rfl, sk rfl, sk rfl, sk rfl, sk rfl, sk rfl, sk rfl, sk rfl, sk rfl, sk rfl, sk rfl, trivial⟩ hQ10
                · skip
                  refine JD.keep [1, 5, 7, 27, 31, 32, 33, 34, 35, 36, 37] [(1, .s name), (5, .ov v5), (7, .ov v8), (27, .v (.bool (decide (tidyE l ≠ (0 : Int))))), (31, .ov v5), (32, .s name), (33, .ov (.slice (some ⟨g7, 0, none⟩) 1 1)), (34, .ov v8), (35, .ov v8), (36, .v (.int .i64 (((pickL (tidyL l) [name] true).length : Nat) : Int))), (37, .v (.bool (decide ((((pickL (tidyL l) [name] true).length : Nat) : Int) = (0 : Int)))))] rfl ?_
                  refine JD.norm [.sl v8 2 74 ([Lbl.mk name (getL (tidyL l) name)].map Lbl.d), .sl (.slice (some ⟨g7, 0, none⟩) 1 1) 1 9 ([.s name]), .sl v5 2 74 ((tidyL l).map Lbl.d)] rfl ?_
                  refine jd_draw 20 [(42, .ov v8, none), (43, .v (.int .i64 (([Lbl.mk name (getL (tidyL l) name)].length : Nat) : Int)), none), (44, .v (.bool true), none), (45, .v (.bool true), none), (46, .ov v5, none), (47, .s name, none), (48, .s (getL (tidyL l) name), none), (49, .ov v8, none), (50, .v (.pointer (some ⟨bl v8, 0 * 2 + 0, none⟩)), none), (51, .v (.pointer (some ⟨bl v8, 0 * 2 + 1, none⟩)), none), (52, .s x1.v, none), (53, .v (.bool true), none), (54, .v (.bool true), none), (55, .v (.bool true), none), (56, .ov v5, none), (57, .v (.bool false), none), (58, .v (.bool false), none), (59, .v (.bool false), none), (60, .v undef, none), (61, .v undef, none)] [.sl v8 2 74 ([Lbl.mk name (getL (tidyL l) name)].map Lbl.d), .sl (.slice (some ⟨g7, 0, none⟩) 1 1) 1 9 ([.s name]), .sl v5 2 74 ((tidyL l).map Lbl.d)] (Hn := [.sl v8 2 74 ([Lbl.mk name (getL (tidyL l) name)].map Lbl.d), .sl (.slice (some ⟨g7, 0, none⟩) 1 1) 1 9 ([.s name]), .sl v5 2 74 ((tidyL l).map Lbl.d)]) mixed rfl rfl rfl rfl HSub.rfl' rfl ⟨sa_p rfl rfl rfl (p_move rfl), sa_p rfl rfl rfl (p_len_own (n := [Lbl.mk name (getL (tidyL l) name)].length) (j := 0) rfl rfl Try.runUnderlying32 (List.length_map _)), sa_p rfl rfl rfl (p_eql rfl rfl (decide_eq_true hg11)), sa_p rfl rfl rfl (p_move rfl), sa_qr rfl rfl rfl rfl rfl rfl (p_move rfl).qu, sa_qr rfl rfl rfl rfl rfl rfl (p_move rfl).qu, sa_qr rfl rfl rfl rfl rfl rfl (qu_lend [.sl v5 2 74 ((tidyL l).map Lbl.d)] rfl (.cons (ArgC.own (j := 0) rfl rfl) (.cons ArgC.id .nil)) (lend_cons (j := 2) rfl lend_nil) Try.call40 (getL_c (tidyL l) name) (fun _ _ h => h.1) rfl), sa_qr rfl rfl rfl rfl rfl rfl (p_move rfl).qu, sa_qr rfl rfl rfl rfl rfl rfl (p_indexAddr_sl (k := 0) (j := 0) rfl rfl rfl Try.runUnderlying32 Try.sizeOf74 (by first | rfl | omega) (get_map hx1)).qu, sa_qr rfl rfl rfl rfl rfl rfl (p_fieldAddr rfl fa_74_1 rfl).qu, sa_qr rfl rfl rfl rfl rfl rfl (p_load_sl1 rfl (i := 0) rfl (get_map hx1) Try.isAgg9 rfl).qu, sa_qr rfl rfl rfl rfl rfl rfl (p_eqs rfl rfl (decide_eq_true hg12)).qu, sa_p rfl rfl rfl (p_pick_t rfl rfl), sa_p rfl rfl rfl (p_move rfl), sa_qr rfl rfl rfl rfl rfl rfl (p_move rfl).qu, sa_qr rfl rfl rfl rfl rfl rfl ((qu_lend [.sl v5 2 74 ((tidyL l).map Lbl.d)] rfl (.cons (ArgC.own (j := 0) rfl rfl) .nil) (lend_cons (j := 2) rfl lend_nil) Try.call41 (right_c (tidyL l)) (fun _ _ h => h.1) rfl).cv (Cv.eq (congrArg (fun b => D.v (.bool b)) hg13))), sa_p rfl rfl rfl (p_pick_t rfl rfl), sa_p rfl rfl rfl (p_move rfl), sa_s rfl rfl rfl rfl rfl rfl (by decide), sa_s rfl rfl rfl rfl rfl rfl (by decide), trivial⟩ ?_
                  refine OpsD.keep [1, 5, 7, 27, 31, 32, 33, 34, 35, 36, 37, 42, 43, 44, 45, 46, 47, 48, 49, 50, 51, 52, 53, 54, 55, 56, 57, 58, 59, 60, 61] [(1, .s name), (5, .ov v5), (7, .ov v8), (27, .v (.bool (decide (tidyE l ≠ (0 : Int))))), (31, .ov v5), (32, .s name), (33, .ov (.slice (some ⟨g7, 0, none⟩) 1 1)), (34, .ov v8), (35, .ov v8), (36, .v (.int .i64 (((pickL (tidyL l) [name] true).length : Nat) : Int))), (37, .v (.bool (decide ((((pickL (tidyL l) [name] true).length : Nat) : Int) = (0 : Int))))), (42, .ov v8), (43, .v (.int .i64 (([Lbl.mk name (getL (tidyL l) name)].length : Nat) : Int))), (44, .v (.bool true)), (45, .v (.bool true)), (46, .ov v5), (47, .s name), (48, .s (getL (tidyL l) name)), (49, .ov v8), (50, .v (.pointer (some ⟨bl v8, 0 * 2 + 0, none⟩))), (51, .v (.pointer (some ⟨bl v8, 0 * 2 + 1, none⟩))), (52, .s x1.v), (53, .v (.bool true)), (54, .v (.bool true)), (55, .v (.bool true)), (56, .ov v5), (57, .v (.bool false)), (58, .v (.bool false)), (59, .v (.bool false)), (60, .v undef), (61, .v undef)] rfl ?_
                  refine od_skip rfl rfl rfl rfl rfl (by decide) ?_
                  refine od_skip rfl rfl rfl rfl rfl (by decide) ?_
                  refine od_pu rfl rfl (p_pick_f rfl rfl) ?_
                  refine od_pu rfl rfl (p_assign rfl) ?_
                  refine od_nil rfl ?_
                  exact PD.sub ((4, .v (.bool (((decide ((([Lbl.mk name (getL (tidyL l) name)].length : Nat) : Int) = (1 : Int)) && decide ((getL (tidyL l) name) = x1.v)) && (decide (tidyE (tidyL l) = 0) && decide (cmpLs (tidyL (tidyL l)) (tidyL l) = 0))) && decide (cmpLs (tidyL l) (tidyL l) = (0 : Int))))) :: [(1, .s name), (5, .ov v5), (7, .ov v8), (27, .v (.bool (decide (tidyE l ≠ (0 : Int))))), (31, .ov v5), (32, .s name), (33, .ov (.slice (some ⟨g7, 0, none⟩) 1 1)), (34, .ov v8), (35, .ov v8), (36, .v (.int .i64 (((pickL (tidyL l) [name] true).length : Nat) : Int))), (37, .v (.bool (decide ((((pickL (tidyL l) [name] true).length : Nat) : Int) = (0 : Int)))))]) ⟨sc rfl (Cv.eq (congrArg (fun b => D.v (.bool b)) (by first | (simp [hc6, hc9, hg11, hg12, hg13]; done) | (simp_all; done)))), sk rfl, sk rfl, sk rfl, sk rfl, sk rfl, sk rfl, sk rfl, sk rfl, sk rfl, sk rfl, sk rfl, trivial⟩ hQ10
              · skip
                refine JD.keep [1, 5, 7, 27, 31, 32, 33, 34, 35, 36, 37] [(1, .s name), (5, .ov v5), (7, .ov v8), (27, .v (.bool (decide (tidyE l ≠ (0 : Int))))), (31, .ov v5), (32, .s name), (33, .ov (.slice (some ⟨g7, 0, none⟩) 1 1)), (34, .ov v8), (35, .ov v8), (36, .v (.int .i64 (((pickL (tidyL l) [name] true).length : Nat) : Int))), (37, .v (.bool (decide ((((pickL (tidyL l) [name] true).length : Nat) : Int) = (0 : Int)))))] rfl ?_
                refine JD.norm [.sl v8 2 74 ([Lbl.mk name (getL (tidyL l) name)].map Lbl.d), .sl (.slice (some ⟨g7, 0, none⟩) 1 1) 1 9 ([.s name]), .sl v5 2 74 ((tidyL l).map Lbl.d)] rfl ?_
                refine jd_draw 20 [(42, .ov v8, none), (43, .v (.int .i64 (([Lbl.mk name (getL (tidyL l) name)].length : Nat) : Int)), none), (44, .v (.bool true), none), (45, .v (.bool true), none), (46, .ov v5, none), (47, .s name, none), (48, .s (getL (tidyL l) name), none), (49, .ov v8, none), (50, .v (.pointer (some ⟨bl v8, 0 * 2 + 0, none⟩)), none), (51, .v (.pointer (some ⟨bl v8, 0 * 2 + 1, none⟩)), none), (52, .s x1.v, none), (53, .v (.bool false), none), (54, .v (.bool false), none), (55, .v (.bool false), none), (56, .v undef, none), (57, .v undef, none), (58, .v (.bool false), none), (59, .v (.bool false), none), (60, .v undef, none), (61, .v undef, none)] [.sl v8 2 74 ([Lbl.mk name (getL (tidyL l) name)].map Lbl.d), .sl (.slice (some ⟨g7, 0, none⟩) 1 1) 1 9 ([.s name]), .sl v5 2 74 ((tidyL l).map Lbl.d)] (Hn := [.sl v8 2 74 ([Lbl.mk name (getL (tidyL l) name)].map Lbl.d), .sl (.slice (some ⟨g7, 0, none⟩) 1 1) 1 9 ([.s name]), .sl v5 2 74 ((tidyL l).map Lbl.d)]) mixed rfl rfl rfl rfl HSub.rfl' rfl ⟨sa_p rfl rfl rfl (p_move rfl), sa_p rfl rfl rfl (p_len_own (n := [Lbl.mk name (getL (tidyL l) name)].length) (j := 0) rfl rfl Try.runUnderlying32 (List.length_map _)), sa_p rfl rfl rfl (p_eql rfl rfl (decide_eq_true hg11)), sa_p rfl rfl rfl (p_move rfl), sa_qr rfl rfl rfl rfl rfl rfl (p_move rfl).qu, sa_qr rfl rfl rfl rfl rfl rfl (p_move rfl).qu, sa_qr rfl rfl rfl rfl rfl rfl (qu_lend [.sl v5 2 74 ((tidyL l).map Lbl.d)] rfl (.cons (ArgC.own (j := 0) rfl rfl) (.cons ArgC.id .nil)) (lend_cons (j := 2) rfl lend_nil) Try.call40 (getL_c (tidyL l) name) (fun _ _ h => h.1) rfl), sa_qr rfl rfl rfl rfl rfl rfl (p_move rfl).qu, sa_qr rfl rfl rfl rfl rfl rfl (p_indexAddr_sl (k := 0) (j := 0) rfl rfl rfl Try.runUnderlying32 Try.sizeOf74 (by first | rfl | omega) (get_map hx1)).qu, sa_qr rfl rfl rfl rfl rfl rfl (p_fieldAddr rfl fa_74_1 rfl).qu, sa_qr rfl rfl rfl rfl rfl rfl (p_load_sl1 rfl (i := 0) rfl (get_map hx1) Try.isAgg9 rfl).qu, sa_qr rfl rfl rfl rfl rfl rfl (p_eqs rfl rfl (decide_eq_false hg12)).qu, sa_p rfl rfl rfl (p_pick_t rfl rfl), sa_p rfl rfl rfl (p_move rfl), sa_s rfl rfl rfl rfl rfl rfl (by decide), sa_s rfl rfl rfl rfl rfl rfl (by decide), sa_p rfl rfl rfl (p_pick_f rfl rfl), sa_p rfl rfl rfl (p_move rfl), sa_s rfl rfl rfl rfl rfl rfl (by decide), sa_s rfl rfl rfl rfl rfl rfl (by decide), trivial⟩ ?_
                refine OpsD.keep [1, 5, 7, 27, 31, 32, 33, 34, 35, 36, 37, 42, 43, 44, 45, 46, 47, 48, 49, 50, 51, 52, 53, 54, 55, 56, 57, 58, 59, 60, 61] [(1, .s name), (5, .ov v5), (7, .ov v8), (27, .v (.bool (decide (tidyE l ≠ (0 : Int))))), (31, .ov v5), (32, .s name), (33, .ov (.slice (some ⟨g7, 0, none⟩) 1 1)), (34, .ov v8), (35, .ov v8), (36, .v (.int .i64 (((pickL (tidyL l) [name] true).length : Nat) : Int))), (37, .v (.bool (decide ((((pickL (tidyL l) [name] true).length : Nat) : Int) = (0 : Int))))), (42, .ov v8), (43, .v (.int .i64 (([Lbl.mk name (getL (tidyL l) name)].length : Nat) : Int))), (44, .v (.bool true)), (45, .v (.bool true)), (46, .ov v5), (47, .s name), (48, .s (getL (tidyL l) name)), (49, .ov v8), (50, .v (.pointer (some ⟨bl v8, 0 * 2 + 0, none⟩))), (51, .v (.pointer (some ⟨bl v8, 0 * 2 + 1, none⟩))), (52, .s x1.v), (53, .v (.bool false)), (54, .v (.bool false)), (55, .v (.bool false)), (56, .v undef), (57, .v undef), (58, .v (.bool false)), (59, .v (.bool false)), (60, .v undef), (61, .v undef)] rfl ?_
                refine od_skip rfl rfl rfl rfl rfl (by decide) ?_
                refine od_skip rfl rfl rfl rfl rfl (by decide) ?_
                refine od_pu rfl rfl (p_pick_f rfl rfl) ?_
                refine od_pu rfl rfl (p_assign rfl) ?_
                refine od_nil rfl ?_
                exact PD.sub ((4, .v (.bool (((decide ((([Lbl.mk name (getL (tidyL l) name)].length : Nat) : Int) = (1 : Int)) && decide ((getL (tidyL l) name) = x1.v)) && (decide (tidyE (tidyL l) = 0) && decide (cmpLs (tidyL (tidyL l)) (tidyL l) = 0))) && decide (cmpLs (tidyL l) (tidyL l) = (0 : Int))))) :: [(1, .s name), (5, .ov v5), (7, .ov v8), (27, .v (.bool (decide (tidyE l ≠ (0 : Int))))), (31, .ov v5), (32, .s name), (33, .ov (.slice (some ⟨g7, 0, none⟩) 1 1)), (34, .ov v8), (35, .ov v8), (36, .v (.int .i64 (((pickL (tidyL l) [name] true).length : Nat) : Int))), (37, .v (.bool (decide ((((pickL (tidyL l) [name] true).length : Nat) : Int) = (0 : Int)))))]) ⟨sc rfl (Cv.eq (congrArg (fun b => D.v (.bool b)) (by first | (simp [hc6, hc9, hg11, hg12]; done) | (simp_all; done)))), sk rfl, sk rfl, sk rfl, sk rfl, sk rfl, sk rfl, sk rfl, sk rfl, sk rfl, sk rfl, sk rfl, trivial⟩ hQ10
            · skip
              refine JD.keep [1, 5, 7, 27, 31, 32, 33, 34, 35, 36, 37] [(1, .s name), (5, .ov v5), (7, .ov v8), (27, .v (.bool (decide (tidyE l ≠ (0 : Int))))), (31, .ov v5), (32, .s name), (33, .ov (.slice (some ⟨g7, 0, none⟩) 1 1)), (34, .ov v8), (35, .ov v8), (36, .v (.int .i64 (((pickL (tidyL l) [name] true).length : Nat) : Int))), (37, .v (.bool (decide ((((pickL (tidyL l) [name] true).length : Nat) : Int) = (0 : Int)))))] rfl ?_
              refine JD.norm [.sl v8 2 74 ([Lbl.mk name (getL (tidyL l) name)].map Lbl.d), .sl (.slice (some ⟨g7, 0, none⟩) 1 1) 1 9 ([.s name]), .sl v5 2 74 ((tidyL l).map Lbl.d)] rfl ?_
              refine jd_draw 20 [(42, .ov v8, none), (43, .v (.int .i64 (([Lbl.mk name (getL (tidyL l) name)].length : Nat) : Int)), none), (44, .v (.bool false), none), (45, .v (.bool false), none), (46, .v undef, none), (47, .v undef, none), (48, .v undef, none), (49, .v undef, none), (50, .v undef, none), (51, .v undef, none), (52, .v undef, none), (53, .v undef, none), (54, .v (.bool false), none), (55, .v (.bool false), none), (56, .v undef, none), (57, .v undef, none), (58, .v (.bool false), none), (59, .v (.bool false), none), (60, .v undef, none), (61, .v undef, none)] [.sl v8 2 74 ([Lbl.mk name (getL (tidyL l) name)].map Lbl.d), .sl (.slice (some ⟨g7, 0, none⟩) 1 1) 1 9 ([.s name]), .sl v5 2 74 ((tidyL l).map Lbl.d)] (Hn := [.sl v8 2 74 ([Lbl.mk name (getL (tidyL l) name)].map Lbl.d), .sl (.slice (some ⟨g7, 0, none⟩) 1 1) 1 9 ([.s name]), .sl v5 2 74 ((tidyL l).map Lbl.d)]) mixed rfl rfl rfl rfl HSub.rfl' rfl ⟨sa_p rfl rfl rfl (p_move rfl), sa_p rfl rfl rfl (p_len_own (n := [Lbl.mk name (getL (tidyL l) name)].length) (j := 0) rfl rfl Try.runUnderlying32 (List.length_map _)), sa_p rfl rfl rfl (p_eql rfl rfl (decide_eq_false hg11)), sa_p rfl rfl rfl (p_move rfl), sa_s rfl rfl rfl rfl rfl rfl (by decide), sa_s rfl rfl rfl rfl rfl rfl (by decide), sa_s rfl rfl rfl rfl rfl rfl (by decide), sa_s rfl rfl rfl rfl rfl rfl (by decide), sa_s rfl rfl rfl rfl rfl rfl (by decide), sa_s rfl rfl rfl rfl rfl rfl (by decide), sa_s rfl rfl rfl rfl rfl rfl (by decide), sa_s rfl rfl rfl rfl rfl rfl (by decide), sa_p rfl rfl rfl (p_pick_f rfl rfl), sa_p rfl rfl rfl (p_move rfl), sa_s rfl rfl rfl rfl rfl rfl (by decide), sa_s rfl rfl rfl rfl rfl rfl (by decide), sa_p rfl rfl rfl (p_pick_f rfl rfl), sa_p rfl rfl rfl (p_move rfl), sa_s rfl rfl rfl rfl rfl rfl (by decide), sa_s rfl rfl rfl rfl rfl rfl (by decide), trivial⟩ ?_
              refine OpsD.keep [1, 5, 7, 27, 31, 32, 33, 34, 35, 36, 37, 42, 43, 44, 45, 46, 47, 48, 49, 50, 51, 52, 53, 54, 55, 56, 57, 58, 59, 60, 61] [(1, .s name), (5, .ov v5), (7, .ov v8), (27, .v (.bool (decide (tidyE l ≠ (0 : Int))))), (31, .ov v5), (32, .s name), (33, .ov (.slice (some ⟨g7, 0, none⟩) 1 1)), (34, .ov v8), (35, .ov v8), (36, .v (.int .i64 (((pickL (tidyL l) [name] true).length : Nat) : Int))), (37, .v (.bool (decide ((((pickL (tidyL l) [name] true).length : Nat) : Int) = (0 : Int))))), (42, .ov v8), (43, .v (.int .i64 (([Lbl.mk name (getL (tidyL l) name)].length : Nat) : Int))), (44, .v (.bool false)), (45, .v (.bool false)), (46, .v undef), (47, .v undef), (48, .v undef), (49, .v undef), (50, .v undef), (51, .v undef), (52, .v undef), (53, .v undef), (54, .v (.bool false)), (55, .v (.bool false)), (56, .v undef), (57, .v undef), (58, .v (.bool false)), (59, .v (.bool false)), (60, .v undef), (61, .v undef)] rfl ?_
              refine od_skip rfl rfl rfl rfl rfl (by decide) ?_
              refine od_skip rfl rfl rfl rfl rfl (by decide) ?_
              refine od_pu rfl rfl (p_pick_f rfl rfl) ?_
              refine od_pu rfl rfl (p_assign rfl) ?_
              refine od_nil rfl ?_
              exact PD.sub ((4, .v (.bool (((decide ((([Lbl.mk name (getL (tidyL l) name)].length : Nat) : Int) = (1 : Int)) && decide ((getL (tidyL l) name) = x1.v)) && (decide (tidyE (tidyL l) = 0) && decide (cmpLs (tidyL (tidyL l)) (tidyL l) = 0))) && decide (cmpLs (tidyL l) (tidyL l) = (0 : Int))))) :: [(1, .s name), (5, .ov v5), (7, .ov v8), (27, .v (.bool (decide (tidyE l ≠ (0 : Int))))), (31, .ov v5), (32, .s name), (33, .ov (.slice (some ⟨g7, 0, none⟩) 1 1)), (34, .ov v8), (35, .ov v8), (36, .v (.int .i64 (((pickL (tidyL l) [name] true).length : Nat) : Int))), (37, .v (.bool (decide ((((pickL (tidyL l) [name] true).length : Nat) : Int) = (0 : Int)))))]) ⟨sc rfl (Cv.eq (congrArg (fun b => D.v (.bool b)) (by first | (simp [hc6, hc9, hg11]; done) | (simp_all; done)))), sk rfl, sk rfl, sk rfl, sk rfl, sk rfl, sk rfl, sk rfl, sk rfl, sk rfl, sk rfl, sk rfl, trivial⟩ hQ10
          · skip
            refine pd_seq ?_
            refine JD.keep [4] [(4, .v (.bool (((decide ((([Lbl.mk name (getL (tidyL l) name)].length : Nat) : Int) = (1 : Int)) && decide ((getL (tidyL l) name) = x1.v)) && (decide (tidyE (tidyL l) = 0) && decide (cmpLs (tidyL (tidyL l)) (tidyL l) = 0))) && decide (cmpLs (tidyL l) (tidyL l) = (0 : Int)))))] rfl ?_
            refine jd_ret rfl ?_
            exact pd_retH Try.results9 (.cons (ro_cv (ro_tmp rfl) (Cv.eq (congrArg (fun b => D.v (.bool b)) (by simp [ex1, htt.1, htt.2, cmpLs_self])))) .nil) rfl HSub.none ⟨rfl, rfl⟩
end Lp
