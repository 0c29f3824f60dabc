/- Walks, printed by a program of mine (wip/tools/dw.py): each theorem says what a function of the translation hands back. -/
import Derived.Test.YtjhkajkickngmaaV28
set_option linter.unusedSimpArgs false
set_option linter.unusedVariables false
namespace Lp
open Go Go.RowKit Go.Proofs

namespace HdV29
theorem bd_34 : ∀ w, ((#[⟨"Labels", 32, 0, false, "", "", 0⟩, ⟨"V", 3, 1, false, "", "", 24⟩] : Array Field).mapM fun f => do pure (f.offset, ← Go.sizeOf f.type) : Sem (Array (Nat × Nat))).run Try.prog w = .ok ([(0, 1), (1, 1)] : List (Nat × Nat)).toArray w := fun _ => by kernel_rfl
end HdV29
open HdV29

set_option maxHeartbeats 4000000 in
set_option maxRecDepth 100000 in
theorem headsM_c (o : Int) (ll : LLs) (nl : ll.length ≤ 1000000000) (nt : total ll ≤ 1000000000) :
    CD Try.prog 14 [] [dI o, .sh 1 (ll.map (D.ls 2 RowD.d))] (isOwn 1 3 ((runR o ll).2.map dN)) := by
  refine cd_of_JD Try.func14 rfl (N := 14) rfl rfl (fun C => ?_)
  refine JD.keep [0, 1] [(0, dI o), (1, .sh 1 (ll.map (D.ls 2 RowD.d)))] rfl ?_
  refine JD.bd 1 rfl (fun bd1 => ?_)
  have nl1 := bd_len bd1
  refine jd_seq [F'] [T'] rfl rfl rfl (jd_region rfl (od_pu rfl rfl (p_assign rfl) (od_nil rfl (pd_seq (jd_seq [T', F'] [T', T'] rfl rfl rfl (jd_region rfl (od_pu rfl rfl (p_move rfl) (od_pu rfl rfl (p_move rfl) (od_step rfl rfl (ef_call [] [] [] rfl rfl (.cons ArgC.id (.cons ArgC.id .nil)) lend_nil Try.call45 (all_c o ll nl nt) (.inl rfl)) ?_)))))))))
  rintro _ _ ⟨_, ⟨ov, hv, rs, hs, rfl, rfl, hrun⟩, rfl⟩
  refine OpsD.norm [.sl ov 2 34 (rs.map RowD.d), .sl hv 1 3 (hs.map dN)] rfl (od_pu rfl rfl (p_move rfl) (od_pu rfl rfl (p_extract rfl rfl) (od_pu rfl rfl (p_extract rfl rfl) (od_pu rfl rfl (p_assign rfl) (od_pu rfl rfl (p_assign rfl) (od_nil rfl (pd_seq (JD.keep [4, 6] [(4, .v (.slice none 0 0)), (6, .ov hv)] rfl (jd_seq [T', T', F'] [T', T', T'] rfl rfl rfl (jd_region rfl (od_pu rfl rfl (p_move rfl) (od_pu rfl rfl (p_assign rfl) (od_nil rfl (pd_seq (jd_ret rfl ?_)))))))))))))))
  have hrr := runR_eq hrun
  refine PD.norm [.sl ov 2 34 (rs.map RowD.d), .sl hv 1 3 (((runR o ll).2).map dN)] (by rw [hrr]) (PD.subH (HSub.less (sub_one (i := 1) rfl)) ?_)
  exact pd_ret Try.results14 (.cons (ro_tmp rfl) .nil) rfl ⟨_, rfl, rfl⟩

set_option maxHeartbeats 4000000 in
set_option maxRecDepth 100000 in
theorem rowsM_c (o : Int) (ll : LLs) (nl : ll.length ≤ 1000000000) (nt : total ll ≤ 1000000000) :
    CD Try.prog 16 [] [dI o, .sh 1 (ll.map (D.ls 2 RowD.d))] (isOwn 2 34 ((runR o ll).1.map RowD.d)) := by
  refine cd_of_JD Try.func16 rfl (N := 14) rfl rfl (fun C => ?_)
  refine JD.keep [0, 1] [(0, dI o), (1, .sh 1 (ll.map (D.ls 2 RowD.d)))] rfl ?_
  refine JD.bd 1 rfl (fun bd1 => ?_)
  have nl1 := bd_len bd1
  refine jd_seq [F'] [T'] rfl rfl rfl (jd_region rfl (od_pu rfl rfl (p_assign rfl) (od_nil rfl (pd_seq (jd_seq [T', F'] [T', T'] rfl rfl rfl (jd_region rfl (od_pu rfl rfl (p_move rfl) (od_pu rfl rfl (p_move rfl) (od_step rfl rfl (ef_call [] [] [] rfl rfl (.cons ArgC.id (.cons ArgC.id .nil)) lend_nil Try.call45 (all_c o ll nl nt) (.inl rfl)) ?_)))))))))
  rintro _ _ ⟨_, ⟨ov, hv, rs, hs, rfl, rfl, hrun⟩, rfl⟩
  refine OpsD.norm [.sl ov 2 34 (rs.map RowD.d), .sl hv 1 3 (hs.map dN)] rfl (od_pu rfl rfl (p_move rfl) (od_pu rfl rfl (p_extract rfl rfl) (od_pu rfl rfl (p_extract rfl rfl) (od_pu rfl rfl (p_assign rfl) (od_pu rfl rfl (p_assign rfl) (od_nil rfl (pd_seq (JD.keep [4, 5] [(4, .v (.slice none 0 0)), (5, .ov ov)] rfl (jd_seq [T', T', F'] [T', T', T'] rfl rfl rfl (jd_region rfl (od_pu rfl rfl (p_move rfl) (od_pu rfl rfl (p_assign rfl) (od_nil rfl (pd_seq (jd_ret rfl ?_)))))))))))))))
  have hrr := runR_eq hrun
  refine PD.norm [.sl ov 2 34 (((runR o ll).1).map RowD.d), .sl hv 1 3 (hs.map dN)] (by rw [hrr]) (PD.subH (HSub.less (sub_one (i := 0) rfl)) ?_)
  exact pd_ret Try.results16 (.cons (ro_tmp rfl) .nil) rfl ⟨_, rfl, rfl⟩

theorem headsI_c (o : Int) (ll : LLs) (nl : ll.length ≤ 1000000000) (nt : total ll ≤ 1000000000) : CD Try.prog 14 [] [dI o, .sh 1 (ll.map (D.ls 2 RowD.d))] (isOwn 1 3 ((nI (runR o ll).2).map dI)) := by rw [← map_nI]; exact headsM_c o ll nl nt

theorem refHeadsI_c (o : Int) (ll : LLs) (nl : ll.length ≤ 100000) (nt : total ll ≤ 1000000) : CD Try.prog 24 [] [dI o, .sh 1 (ll.map (D.ls 2 RowD.d))] (isOwn 1 3 ((nI (runR o ll).2).map dI)) := by rw [← map_nI]; exact refHeads_c o ll nl nt

set_option maxHeartbeats 4000000 in
set_option maxRecDepth 100000 in
theorem alive17_c   :
    CD Try.prog 13 [] [] (isR (dB true)) := by
  refine cd_of_JD Try.func13 rfl (N := 37) rfl rfl (fun C => ?_)
  refine JD.keep [] [] rfl (jd_seq [F'] [T'] rfl rfl rfl (jd_region rfl (od_pu rfl rfl (p_assign rfl) (od_nil rfl (pd_seq (jd_seq [T', F'] [T', T'] rfl rfl rfl (jd_region rfl (od_pu rfl rfl (p_build [1] [.const (.int .i64 1)] (zv := (.agg #[(.slice none 0 0), (.int .i64 0)])) rfl rfl (.cons (CellD.v rfl) .nil) (Try.runUnderlying34) Try.zeroValue34 bd_34 ⟨rfl, rfl, trivial⟩ rfl) (od_pu rfl rfl (p_build [1] [.const (.int .i64 4)] (zv := (.agg #[(.slice none 0 0), (.int .i64 0)])) rfl rfl (.cons (CellD.v rfl) .nil) (Try.runUnderlying34) Try.zeroValue34 bd_34 ⟨rfl, rfl, trivial⟩ rfl) (od_step rfl rfl (Qu.ef (d := .sh 2 ([(RowD.mk [] 1), (RowD.mk [] 4)].map RowD.d)) ((qu_buildSlice [.tmp 2, .tmp 3] rfl rfl (.cons CellD.agg (.cons CellD.agg .nil)) rfl Try.runUnderlying27 Try.sizeOf34 Try.zeroValue34 rfl rfl rfl rfl).cv (Cv.shs (.cons (Cv.agg (.cons (Cv.nil) (.cons Cv.rfl' .nil))) (.cons (Cv.agg (.cons (Cv.nil) (.cons Cv.rfl' .nil))) .nil))))) ?_))))))))))
  rintro _ _ ⟨rfl, rfl⟩
  refine od_pu rfl rfl (p_build [1] [.const (.int .i64 1)] (zv := (.agg #[(.slice none 0 0), (.int .i64 0)])) rfl rfl (.cons (CellD.v rfl) .nil) (Try.runUnderlying34) Try.zeroValue34 bd_34 ⟨rfl, rfl, trivial⟩ rfl) (od_pu rfl rfl (p_build [1] [.const (.int .i64 2)] (zv := (.agg #[(.slice none 0 0), (.int .i64 0)])) rfl rfl (.cons (CellD.v rfl) .nil) (Try.runUnderlying34) Try.zeroValue34 bd_34 ⟨rfl, rfl, trivial⟩ rfl) (od_step rfl rfl (Qu.ef (d := .sh 2 ([(RowD.mk [] 1), (RowD.mk [] 2)].map RowD.d)) ((qu_buildSlice [.tmp 5, .tmp 6] rfl rfl (.cons CellD.agg (.cons CellD.agg .nil)) rfl Try.runUnderlying27 Try.sizeOf34 Try.zeroValue34 rfl rfl rfl rfl).cv (Cv.shs (.cons (Cv.agg (.cons (Cv.nil) (.cons Cv.rfl' .nil))) (.cons (Cv.agg (.cons (Cv.nil) (.cons Cv.rfl' .nil))) .nil))))) ?_))
  rintro _ _ ⟨rfl, rfl⟩
  refine od_step rfl rfl (Qu.ef (d := .sh 1 ([[(RowD.mk [] 1), (RowD.mk [] 4)], [(RowD.mk [] 1), (RowD.mk [] 2)]].map (D.ls 2 RowD.d))) (qu_buildSlice [.tmp 4, .tmp 7] rfl rfl (.cons CellD.sh (.cons CellD.sh .nil)) rfl Try.runUnderlying22 Try.sizeOf27 Try.zeroValue27 rfl rfl rfl rfl)) ?_
  rintro _ _ ⟨rfl, rfl⟩
  refine od_step rfl rfl (ef_call [] _ [] rfl rfl (.cons ArgC.id (.cons ArgC.id .nil)) lend_nil Try.call14 (headsI_c 1 [[(RowD.mk [] 1), (RowD.mk [] 4)], [(RowD.mk [] 1), (RowD.mk [] 2)]] (by decide) (by decide)) (.inl rfl)) ?_
  rintro _ _ ⟨_, ⟨v1, rfl, rfl⟩, rfl⟩
  refine OpsD.norm [.sl v1 1 3 ((nI (runR 1 [[(RowD.mk [] 1), (RowD.mk [] 4)], [(RowD.mk [] 1), (RowD.mk [] 2)]]).2).map dI)] rfl (od_pu rfl rfl (p_assign rfl) (od_nil rfl (pd_seq (jd_seq [T', T', F'] [T', T', T'] rfl rfl rfl (JD.norm [.sl v1 1 3 ([(0 : Int), 1, 1, 0].map dI)] (by rw [show nI (runR 1 [[(RowD.mk [] 1), (RowD.mk [] 4)], [(RowD.mk [] 1), (RowD.mk [] 2)]]).2 = [(0 : Int), 1, 1, 0] by rw [show (runR 1 [[(RowD.mk [] 1), (RowD.mk [] 4)], [(RowD.mk [] 1), (RowD.mk [] 2)]]) = (_, _) from runR_eq alive_run]; rfl]) ?_)))))
  obtain ⟨y0, hy0, ey0⟩ : ∃ x, [(0 : Int), 1, 1, 0][0]? = some x ∧ x = 0 := ⟨_, rfl, rfl⟩
  obtain ⟨y1, hy1, ey1⟩ : ∃ x, [(0 : Int), 1, 1, 0][1]? = some x ∧ x = 1 := ⟨_, rfl, rfl⟩
  obtain ⟨y2, hy2, ey2⟩ : ∃ x, [(0 : Int), 1, 1, 0][2]? = some x ∧ x = 1 := ⟨_, rfl, rfl⟩
  obtain ⟨y3, hy3, ey3⟩ : ∃ x, [(0 : Int), 1, 1, 0][3]? = some x ∧ x = 0 := ⟨_, rfl, rfl⟩
  refine JD.keep [1] [(1, .ov v1)] rfl ?_
  refine jd_sum 0 (((((decide ((([(0 : Int), 1, 1, 0].length : Nat) : Int) = (4 : Int)) && decide (y0 = (0 : Int))) && decide (y1 = (1 : Int))) && decide (y2 = (1 : Int))) && decide (y3 = (0 : Int)))) [.sl v1 1 3 ([(0 : Int), 1, 1, 0].map dI)] (fun _ hQ2 => ?_) ?_
  · skip
    by_cases hg3 : (([(0 : Int), 1, 1, 0].length : Nat) : Int) = (4 : Int)
    · skip
      by_cases hg4 : y0 = (0 : Int)
      · skip
        by_cases hg5 : y1 = (1 : Int)
        · skip
          by_cases hg6 : y2 = (1 : Int)
          · skip
            refine jd_region rfl (od_pu rfl rfl (p_move rfl) (od_pu rfl rfl (p_len_own (n := [(0 : Int), 1, 1, 0].length) (j := 0) rfl rfl Try.runUnderlying25 (List.length_map _)) (od_pu rfl rfl (p_eql rfl rfl (decide_eq_true hg3)) (od_pu rfl rfl (p_move rfl) (od_runp rfl rfl rfl rfl rfl (p_move rfl) (od_runp rfl rfl rfl rfl rfl (p_indexAddr_sl (k := 0) (j := 0) rfl rfl rfl Try.runUnderlying25 Try.sizeOf3 (by first | rfl | omega) (get_map hy0)) (od_runp rfl rfl rfl rfl rfl (p_load_sl1 rfl (i := 0) rfl (get_map hy0) Try.isAgg3 rfl) (od_runp rfl rfl rfl rfl rfl (p_eql rfl rfl (decide_eq_true hg4)) (od_pu rfl rfl (p_pick_t rfl rfl) (od_pu rfl rfl (p_move rfl) (od_runp rfl rfl rfl rfl rfl (p_move rfl) (od_runp rfl rfl rfl rfl rfl (p_indexAddr_sl (k := 1) (j := 0) rfl rfl rfl Try.runUnderlying25 Try.sizeOf3 (by first | rfl | omega) (get_map hy1)) (od_runp rfl rfl rfl rfl rfl (p_load_sl1 rfl (i := 0) rfl (get_map hy1) Try.isAgg3 rfl) (od_runp rfl rfl rfl rfl rfl (p_eql rfl rfl (decide_eq_true hg5)) (od_pu rfl rfl (p_pick_t rfl rfl) (od_pu rfl rfl (p_move rfl) (od_runp rfl rfl rfl rfl rfl (p_move rfl) (od_runp rfl rfl rfl rfl rfl (p_indexAddr_sl (k := 2) (j := 0) rfl rfl rfl Try.runUnderlying25 Try.sizeOf3 (by first | rfl | omega) (get_map hy2)) (od_runp rfl rfl rfl rfl rfl (p_load_sl1 rfl (i := 0) rfl (get_map hy2) Try.isAgg3 rfl) (od_runp rfl rfl rfl rfl rfl (p_eql rfl rfl (decide_eq_true hg6)) (od_pu rfl rfl (p_pick_t rfl rfl) ?_)))))))))))))))))))))
            refine od_pu rfl rfl (p_move rfl) (od_runp rfl rfl rfl rfl rfl (p_move rfl) (od_runp rfl rfl rfl rfl rfl (p_indexAddr_sl (k := 3) (j := 0) rfl rfl rfl Try.runUnderlying25 Try.sizeOf3 (by first | rfl | omega) (get_map hy3)) (od_runp rfl rfl rfl rfl rfl (p_load_sl1 rfl (i := 0) rfl (get_map hy3) Try.isAgg3 rfl) (od_runp rfl rfl rfl rfl rfl (p_eql rfl rfl rfl) (od_pu rfl rfl (p_pick_t rfl rfl) (od_pu rfl rfl (p_assign rfl) (od_nil rfl ?_)))))))
            exact PD.sub ((0, dB ((((decide ((([(0 : Int), 1, 1, 0].length : Nat) : Int) = (4 : Int)) && decide (y0 = (0 : Int))) && decide (y1 = (1 : Int))) && decide (y2 = (1 : Int))) && decide (y3 = (0 : Int)))) :: [(1, .ov v1)]) ⟨sc rfl (Cv.eq (congrArg (fun b => D.v (.bool b)) (by first | (simp [hg3, hg4, hg5, hg6]; done) | (simp_all; done)))), sk rfl, trivial⟩ hQ2
          · skip
            refine jd_region rfl (od_pu rfl rfl (p_move rfl) (od_pu rfl rfl (p_len_own (n := [(0 : Int), 1, 1, 0].length) (j := 0) rfl rfl Try.runUnderlying25 (List.length_map _)) (od_pu rfl rfl (p_eql rfl rfl (decide_eq_true hg3)) (od_pu rfl rfl (p_move rfl) (od_runp rfl rfl rfl rfl rfl (p_move rfl) (od_runp rfl rfl rfl rfl rfl (p_indexAddr_sl (k := 0) (j := 0) rfl rfl rfl Try.runUnderlying25 Try.sizeOf3 (by first | rfl | omega) (get_map hy0)) (od_runp rfl rfl rfl rfl rfl (p_load_sl1 rfl (i := 0) rfl (get_map hy0) Try.isAgg3 rfl) (od_runp rfl rfl rfl rfl rfl (p_eql rfl rfl (decide_eq_true hg4)) (od_pu rfl rfl (p_pick_t rfl rfl) (od_pu rfl rfl (p_move rfl) (od_runp rfl rfl rfl rfl rfl (p_move rfl) (od_runp rfl rfl rfl rfl rfl (p_indexAddr_sl (k := 1) (j := 0) rfl rfl rfl Try.runUnderlying25 Try.sizeOf3 (by first | rfl | omega) (get_map hy1)) (od_runp rfl rfl rfl rfl rfl (p_load_sl1 rfl (i := 0) rfl (get_map hy1) Try.isAgg3 rfl) (od_runp rfl rfl rfl rfl rfl (p_eql rfl rfl (decide_eq_true hg5)) (od_pu rfl rfl (p_pick_t rfl rfl) (od_pu rfl rfl (p_move rfl) (od_runp rfl rfl rfl rfl rfl (p_move rfl) (od_runp rfl rfl rfl rfl rfl (p_indexAddr_sl (k := 2) (j := 0) rfl rfl rfl Try.runUnderlying25 Try.sizeOf3 (by first | rfl | omega) (get_map hy2)) (od_runp rfl rfl rfl rfl rfl (p_load_sl1 rfl (i := 0) rfl (get_map hy2) Try.isAgg3 rfl) (od_runp rfl rfl rfl rfl rfl (p_eql rfl rfl (decide_eq_false hg6)) (od_pu rfl rfl (p_pick_t rfl rfl) ?_)))))))))))))))))))))
            refine od_pu rfl rfl (p_move rfl) (od_skip rfl rfl rfl rfl rfl (by decide) (od_skip rfl rfl rfl rfl rfl (by decide) (od_skip rfl rfl rfl rfl rfl (by decide) (od_skip rfl rfl rfl rfl rfl (by decide) (od_pu rfl rfl (p_pick_f rfl rfl) (od_pu rfl rfl (p_assign rfl) (od_nil rfl ?_)))))))
            exact PD.sub ((0, dB ((((decide ((([(0 : Int), 1, 1, 0].length : Nat) : Int) = (4 : Int)) && decide (y0 = (0 : Int))) && decide (y1 = (1 : Int))) && decide (y2 = (1 : Int))) && decide (y3 = (0 : Int)))) :: [(1, .ov v1)]) ⟨sc rfl (Cv.eq (congrArg (fun b => D.v (.bool b)) (by first | (simp [hg3, hg4, hg5, hg6]; done) | (simp_all; done)))), sk rfl, trivial⟩ hQ2
        · skip
          refine jd_region rfl (od_pu rfl rfl (p_move rfl) (od_pu rfl rfl (p_len_own (n := [(0 : Int), 1, 1, 0].length) (j := 0) rfl rfl Try.runUnderlying25 (List.length_map _)) (od_pu rfl rfl (p_eql rfl rfl (decide_eq_true hg3)) (od_pu rfl rfl (p_move rfl) (od_runp rfl rfl rfl rfl rfl (p_move rfl) (od_runp rfl rfl rfl rfl rfl (p_indexAddr_sl (k := 0) (j := 0) rfl rfl rfl Try.runUnderlying25 Try.sizeOf3 (by first | rfl | omega) (get_map hy0)) (od_runp rfl rfl rfl rfl rfl (p_load_sl1 rfl (i := 0) rfl (get_map hy0) Try.isAgg3 rfl) (od_runp rfl rfl rfl rfl rfl (p_eql rfl rfl (decide_eq_true hg4)) (od_pu rfl rfl (p_pick_t rfl rfl) (od_pu rfl rfl (p_move rfl) (od_runp rfl rfl rfl rfl rfl (p_move rfl) (od_runp rfl rfl rfl rfl rfl (p_indexAddr_sl (k := 1) (j := 0) rfl rfl rfl Try.runUnderlying25 Try.sizeOf3 (by first | rfl | omega) (get_map hy1)) (od_runp rfl rfl rfl rfl rfl (p_load_sl1 rfl (i := 0) rfl (get_map hy1) Try.isAgg3 rfl) (od_runp rfl rfl rfl rfl rfl (p_eql rfl rfl (decide_eq_false hg5)) (od_pu rfl rfl (p_pick_t rfl rfl) (od_pu rfl rfl (p_move rfl) (od_skip rfl rfl rfl rfl rfl (by decide) (od_skip rfl rfl rfl rfl rfl (by decide) (od_skip rfl rfl rfl rfl rfl (by decide) (od_skip rfl rfl rfl rfl rfl (by decide) (od_pu rfl rfl (p_pick_f rfl rfl) (od_pu rfl rfl (p_move rfl) (od_skip rfl rfl rfl rfl rfl (by decide) (od_skip rfl rfl rfl rfl rfl (by decide) (od_skip rfl rfl rfl rfl rfl (by decide) (od_skip rfl rfl rfl rfl rfl (by decide) ?_))))))))))))))))))))))))))
          refine od_pu rfl rfl (p_pick_f rfl rfl) (od_pu rfl rfl (p_assign rfl) (od_nil rfl ?_))
          exact PD.sub ((0, dB ((((decide ((([(0 : Int), 1, 1, 0].length : Nat) : Int) = (4 : Int)) && decide (y0 = (0 : Int))) && decide (y1 = (1 : Int))) && decide (y2 = (1 : Int))) && decide (y3 = (0 : Int)))) :: [(1, .ov v1)]) ⟨sc rfl (Cv.eq (congrArg (fun b => D.v (.bool b)) (by first | (simp [hg3, hg4, hg5]; done) | (simp_all; done)))), sk rfl, trivial⟩ hQ2
      · skip
        refine jd_region rfl (od_pu rfl rfl (p_move rfl) (od_pu rfl rfl (p_len_own (n := [(0 : Int), 1, 1, 0].length) (j := 0) rfl rfl Try.runUnderlying25 (List.length_map _)) (od_pu rfl rfl (p_eql rfl rfl (decide_eq_true hg3)) (od_pu rfl rfl (p_move rfl) (od_runp rfl rfl rfl rfl rfl (p_move rfl) (od_runp rfl rfl rfl rfl rfl (p_indexAddr_sl (k := 0) (j := 0) rfl rfl rfl Try.runUnderlying25 Try.sizeOf3 (by first | rfl | omega) (get_map hy0)) (od_runp rfl rfl rfl rfl rfl (p_load_sl1 rfl (i := 0) rfl (get_map hy0) Try.isAgg3 rfl) (od_runp rfl rfl rfl rfl rfl (p_eql rfl rfl (decide_eq_false hg4)) (od_pu rfl rfl (p_pick_t rfl rfl) (od_pu rfl rfl (p_move rfl) (od_skip rfl rfl rfl rfl rfl (by decide) (od_skip rfl rfl rfl rfl rfl (by decide) (od_skip rfl rfl rfl rfl rfl (by decide) (od_skip rfl rfl rfl rfl rfl (by decide) (od_pu rfl rfl (p_pick_f rfl rfl) (od_pu rfl rfl (p_move rfl) (od_skip rfl rfl rfl rfl rfl (by decide) (od_skip rfl rfl rfl rfl rfl (by decide) (od_skip rfl rfl rfl rfl rfl (by decide) (od_skip rfl rfl rfl rfl rfl (by decide) (od_pu rfl rfl (p_pick_f rfl rfl) (od_pu rfl rfl (p_move rfl) (od_skip rfl rfl rfl rfl rfl (by decide) (od_skip rfl rfl rfl rfl rfl (by decide) (od_skip rfl rfl rfl rfl rfl (by decide) (od_skip rfl rfl rfl rfl rfl (by decide) (od_pu rfl rfl (p_pick_f rfl rfl) (od_pu rfl rfl (p_assign rfl) (od_nil rfl ?_)))))))))))))))))))))))))))))
        exact PD.sub ((0, dB ((((decide ((([(0 : Int), 1, 1, 0].length : Nat) : Int) = (4 : Int)) && decide (y0 = (0 : Int))) && decide (y1 = (1 : Int))) && decide (y2 = (1 : Int))) && decide (y3 = (0 : Int)))) :: [(1, .ov v1)]) ⟨sc rfl (Cv.eq (congrArg (fun b => D.v (.bool b)) (by first | (simp [hg3, hg4]; done) | (simp_all; done)))), sk rfl, trivial⟩ hQ2
    · skip
      refine jd_region rfl (od_pu rfl rfl (p_move rfl) (od_pu rfl rfl (p_len_own (n := [(0 : Int), 1, 1, 0].length) (j := 0) rfl rfl Try.runUnderlying25 (List.length_map _)) (od_pu rfl rfl (p_eql rfl rfl (decide_eq_false hg3)) (od_pu rfl rfl (p_move rfl) (od_skip rfl rfl rfl rfl rfl (by decide) (od_skip rfl rfl rfl rfl rfl (by decide) (od_skip rfl rfl rfl rfl rfl (by decide) (od_skip rfl rfl rfl rfl rfl (by decide) (od_pu rfl rfl (p_pick_f rfl rfl) (od_pu rfl rfl (p_move rfl) (od_skip rfl rfl rfl rfl rfl (by decide) (od_skip rfl rfl rfl rfl rfl (by decide) (od_skip rfl rfl rfl rfl rfl (by decide) (od_skip rfl rfl rfl rfl rfl (by decide) (od_pu rfl rfl (p_pick_f rfl rfl) (od_pu rfl rfl (p_move rfl) (od_skip rfl rfl rfl rfl rfl (by decide) (od_skip rfl rfl rfl rfl rfl (by decide) (od_skip rfl rfl rfl rfl rfl (by decide) (od_skip rfl rfl rfl rfl rfl (by decide) (od_pu rfl rfl (p_pick_f rfl rfl) (od_pu rfl rfl (p_move rfl) (od_skip rfl rfl rfl rfl rfl (by decide) (od_skip rfl rfl rfl rfl rfl (by decide) (od_skip rfl rfl rfl rfl rfl (by decide) (od_skip rfl rfl rfl rfl rfl (by decide) (od_pu rfl rfl (p_pick_f rfl rfl) (od_pu rfl rfl (p_assign rfl) (od_nil rfl ?_)))))))))))))))))))))))))))))
      exact PD.sub ((0, dB ((((decide ((([(0 : Int), 1, 1, 0].length : Nat) : Int) = (4 : Int)) && decide (y0 = (0 : Int))) && decide (y1 = (1 : Int))) && decide (y2 = (1 : Int))) && decide (y3 = (0 : Int)))) :: [(1, .ov v1)]) ⟨sc rfl (Cv.eq (congrArg (fun b => D.v (.bool b)) (by first | (simp [hg3]; done) | (simp_all; done)))), sk rfl, trivial⟩ hQ2
  · skip
    refine pd_seq (jd_ret rfl ?_)
    exact pd_retH Try.results13 (.cons (ro_cv (ro_tmp rfl) (Cv.eq (congrArg (fun b => D.v (.bool b)) (by subst ey0; subst ey1; subst ey2; subst ey3; rfl)))) .nil) rfl HSub.none ⟨rfl, rfl⟩
end Lp
