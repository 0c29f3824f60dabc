/- Walks, printed by a program of mine (wip/tools/dw.py): each theorem says what a function of the translation hands back. -/
import Derived.Test.YtjhkajkickngmaaV2
set_option linter.unusedSimpArgs false
set_option linter.unusedVariables false
namespace Lp
open Go Go.RowKit Go.Proofs

namespace HdV1
theorem fa_34_0 (b o : Nat) : ∀ w, (Instr.fieldAt 34 (.pointer (some ⟨b, o, none⟩)) 0).run Try.prog w = .ok (.pointer (some ⟨b, o + 0, none⟩)) w := fun _ => by kernel_rfl
theorem fa_34_1 (b o : Nat) : ∀ w, (Instr.fieldAt 34 (.pointer (some ⟨b, o, none⟩)) 1).run Try.prog w = .ok (.pointer (some ⟨b, o + 1, none⟩)) w := fun _ => by kernel_rfl
theorem fa_74_0 (b o : Nat) : ∀ w, (Instr.fieldAt 74 (.pointer (some ⟨b, o, none⟩)) 0).run Try.prog w = .ok (.pointer (some ⟨b, o + 0, none⟩)) w := fun _ => by kernel_rfl
theorem fa_74_1 (b o : Nat) : ∀ w, (Instr.fieldAt 74 (.pointer (some ⟨b, o, none⟩)) 1).run Try.prog w = .ok (.pointer (some ⟨b, o + 1, none⟩)) w := fun _ => by kernel_rfl
end HdV1
open HdV1

theorem ext_cmpstring (a b : ByteArray) (w : World) : (callFunc 181 #[.string a, .string b]).run Try.prog w = .ok (.value (.int .i64 (cmpS a b))) w := by
  rw [run_callFunc_extern Try.func181 (by kernel_rfl) (by kernel_rfl) (by kernel_rfl) (e := Extern.BytealgCompare.compare) (by kernel_rfl), Lib.run_compareString]
  rfl

theorem p_cmpstring {ty : TypeId} {K : Kd} {H : List Hp} {x y : Operand} {ats : Array TypeId} {a b : ByteArray} (hx : opS K x = some a) (hy : opS K y = some b) : Pu Try.prog (.call { callee := .value (.func 181), args := #[x, y], argTypes := ats }) ty K H (dI (cmpS a b)) :=
  ⟨fun ρ w F hk _ _ => e_ext (vs := [.string a, .string b]) (knows_lkO ρ [x, y]) (by rw [show (#[x, y] : Array Operand).toList = [x, y] from rfl, opvs_lkO ρ [x, y] [x, y] (fun _ h => h)]; simp [hk.opS hx, hk.opS hy]) (ext_cmpstring a b) ⟨rfl, rfl⟩⟩

set_option maxHeartbeats 4000000 in
set_option maxRecDepth 100000 in
theorem CompareString_c (a : ByteArray) (b : ByteArray)  :
    CD Try.prog 166 [] [.s a, .s b] (isR (dI (cmpS a b))) := by
  refine cd_of_JD Try.func166 rfl (N := 8) rfl rfl (fun C => ?_)
  refine JD.keep [0, 1] [(0, .s a), (1, .s b)] rfl ?_
  refine JD.bd 0 rfl (fun bd0 => ?_)
  have sz0 : a.size ≤ 9223372036854775807 := bd0
  refine JD.bd 1 rfl (fun bd1 => ?_)
  have sz1 : b.size ≤ 9223372036854775807 := bd1
  refine jd_seq [F'] [T'] rfl rfl rfl (jd_region rfl (od_pu rfl rfl (p_assign rfl) (od_nil rfl (pd_seq (jd_seq [T', F'] [T', T'] rfl rfl rfl (jd_region rfl (od_pu rfl rfl (p_move rfl) (od_pu rfl rfl (p_move rfl) (od_pu rfl rfl (p_cmpstring rfl rfl) (od_pu rfl rfl (p_assign rfl) (od_nil rfl (pd_seq (jd_ret rfl ?_)))))))))))))
  exact pd_retH Try.results166 (.cons (ro_cv (ro_tmp rfl) (Cv.eq (congrArg (fun n => D.v (.int .i64 n)) (by rfl)))) .nil) rfl HSub.none ⟨rfl, rfl⟩

set_option maxHeartbeats 4000000 in
set_option maxRecDepth 100000 in
theorem Compare_c (a : ByteArray) (b : ByteArray)  :
    CD Try.prog 137 [] [.s a, .s b] (isR (dI (cmpS a b))) := by
  refine cd_of_JD Try.func137 rfl (N := 8) rfl rfl (fun C => ?_)
  refine JD.keep [0, 1] [(0, .s a), (1, .s b)] rfl ?_
  refine JD.bd 0 rfl (fun bd0 => ?_)
  have sz0 : a.size ≤ 9223372036854775807 := bd0
  refine JD.bd 1 rfl (fun bd1 => ?_)
  have sz1 : b.size ≤ 9223372036854775807 := bd1
  refine jd_seq [F'] [T'] rfl rfl rfl (jd_region rfl (od_pu rfl rfl (p_assign rfl) (od_nil rfl (pd_seq (jd_seq [T', F'] [T', T'] rfl rfl rfl (jd_region rfl (od_pu rfl rfl (p_move rfl) (od_pu rfl rfl (p_move rfl) (od_step rfl rfl (ef_call [] _ [] rfl rfl (.cons ArgC.id (.cons ArgC.id .nil)) lend_nil Try.call166 (CompareString_c a b) (.inl rfl)) ?_)))))))))
  rintro _ _ ⟨_, ⟨rfl, rfl⟩, rfl⟩
  refine OpsD.norm [] rfl (od_pu rfl rfl (p_assign rfl) (od_nil rfl (pd_seq (jd_ret rfl ?_))))
  exact pd_retH Try.results137 (.cons (ro_tmp rfl) .nil) rfl HSub.none ⟨rfl, rfl⟩

set_option maxHeartbeats 4000000 in
set_option maxRecDepth 100000 in
theorem isNaN_c (x : Int)  :
    CD Try.prog 172 [] [dI x] (isR (dB false)) := by
  refine cd_of_JD Try.func172 rfl (N := 6) rfl rfl (fun C => ?_)
  refine JD.keep [0] [(0, dI x)] rfl (jd_seq [F'] [T'] rfl rfl rfl (jd_region rfl (od_pu rfl rfl (p_assign rfl) (od_nil rfl (pd_seq (jd_seq [T', F'] [T', T'] rfl rfl rfl (jd_region rfl (od_pu rfl rfl (p_move rfl) (od_pu rfl rfl (p_move rfl) (od_pu rfl rfl (p_neq rfl rfl (decide_eq_false (fun h => h rfl))) (od_pu rfl rfl (p_assign rfl) (od_nil rfl (pd_seq (jd_ret rfl ?_))))))))))))))
  exact pd_retH Try.results172 (.cons (ro_tmp rfl) .nil) rfl HSub.none ⟨rfl, rfl⟩

set_option maxHeartbeats 4000000 in
set_option maxRecDepth 100000 in
theorem cmpI_c (x : Int) (y : Int)  :
    CD Try.prog 149 [] [dI x, dI y] (isR (dI (cmpI x y))) := by
  refine cd_of_JD Try.func149 rfl (N := 20) rfl rfl (fun C => ?_)
  refine JD.keep [0, 1] [(0, dI x), (1, dI y)] rfl (jd_seq [F'] [T'] rfl rfl rfl (jd_region rfl (od_pu rfl rfl (p_assign rfl) (od_nil rfl (pd_seq (jd_seq [T', F'] [T', T'] rfl rfl rfl (jd_region rfl (od_pu rfl rfl (p_move rfl) (od_step rfl rfl (ef_call [] _ [] rfl rfl (.cons ArgC.id .nil) lend_nil Try.call172 (isNaN_c x) (.inl rfl)) ?_)))))))))
  rintro _ _ ⟨_, ⟨rfl, rfl⟩, rfl⟩
  refine OpsD.norm [] rfl (od_pu rfl rfl (p_assign rfl) (od_nil rfl (pd_seq (jd_seq [T', T', F'] [T', T', T'] rfl rfl rfl (jd_region rfl (od_pu rfl rfl (p_move rfl) (od_step rfl rfl (ef_call [] _ [] rfl rfl (.cons ArgC.id .nil) lend_nil Try.call172 (isNaN_c y) (.inl rfl)) ?_)))))))
  rintro _ _ ⟨_, ⟨rfl, rfl⟩, rfl⟩
  refine OpsD.norm [] rfl (od_pu rfl rfl (p_assign rfl) (od_nil rfl (pd_seq (jd_seq [T', T', T', F'] [T', T', T', T'] rfl rfl rfl (jd_seq [T', T', T', F', F'] [T', T', T', F', T'] rfl rfl rfl (jd_region rfl (od_pu rfl rfl (p_move rfl) (od_nil rfl (pd_seq (jd_cond_f [T', T', T', F', T', T'] rfl rfl rfl (jd_skip rfl (pd_seq (jd_seq [T', T', T', T', F'] [T', T', T', T', T'] rfl rfl rfl (jd_seq [T', T', T', T', F', F'] [T', T', T', T', F', T'] rfl rfl rfl (jd_region rfl (od_pu rfl rfl (p_move rfl) (od_nil rfl (pd_seq (jd_cond_f [T', T', T', T', F', T', T'] rfl rfl rfl (jd_skip rfl (pd_seq (jd_seq [T', T', T', T', T', F'] [T', T', T', T', T', T'] rfl rfl rfl (jd_seq [T', T', T', T', T', F', F'] [T', T', T', T', T', F', T'] rfl rfl rfl (jd_region rfl (od_pu rfl rfl (p_move rfl) (od_pu rfl rfl (p_move rfl) (od_pu rfl rfl (p_lss rfl rfl rfl) (od_nil rfl (pd_seq (JD.keep [0, 1, 4, 16] [(0, dI x), (1, dI y), (4, dI 0), (16, dB (decide (x < y)))] rfl ?_))))))))))))))))))))))))))))))
  refine jd_cond [T', T', T', T', T', F', T', F'] [T', T', T', T', T', F', T', T'] rfl rfl rfl rfl (fun hc1 => ?_) (fun hc1 => ?_)
  · replace hc1 := of_decide_eq_true hc1
    refine jd_seq [T', T', T', T', T', F', T', F', F'] [T', T', T', T', T', F', T', F', T'] rfl rfl rfl (jd_region rfl (od_pu rfl rfl (p_assign rfl) (od_nil rfl (pd_seq (jd_ret rfl (pd_seq_ret ?_))))))
    exact pd_retH Try.results149 (.cons (ro_cv (ro_tmp rfl) (Cv.eq (congrArg (fun n => D.v (.int .i64 n)) (by unfold cmpI; simp [*])))) .nil) rfl HSub.none ⟨rfl, rfl⟩
  · replace hc1 := of_decide_eq_false hc1
    refine jd_skip rfl (pd_seq (jd_seq [T', T', T', T', T', T', F'] [T', T', T', T', T', T', T'] rfl rfl rfl (jd_seq [T', T', T', T', T', T', F', F'] [T', T', T', T', T', T', F', T'] rfl rfl rfl (jd_region rfl (od_pu rfl rfl (p_move rfl) (od_pu rfl rfl (p_move rfl) (od_pu rfl rfl (p_gtr rfl rfl rfl) (od_nil rfl (pd_seq ?_)))))))))
    refine jd_cond [T', T', T', T', T', T', F', T', F'] [T', T', T', T', T', T', F', T', T'] rfl rfl rfl rfl (fun hc2 => ?_) (fun hc2 => ?_)
    · replace hc2 := of_decide_eq_true hc2
      refine jd_seq [T', T', T', T', T', T', F', T', F', F'] [T', T', T', T', T', T', F', T', F', T'] rfl rfl rfl (jd_region rfl (od_pu rfl rfl (p_assign rfl) (od_nil rfl (pd_seq (jd_ret rfl (pd_seq_ret ?_))))))
      exact pd_retH Try.results149 (.cons (ro_cv (ro_tmp rfl) (Cv.eq (congrArg (fun n => D.v (.int .i64 n)) (by unfold cmpI; simp [*])))) .nil) rfl HSub.none ⟨rfl, rfl⟩
    · replace hc2 := of_decide_eq_false hc2
      refine jd_skip rfl (pd_seq (jd_seq [T', T', T', T', T', T', T', F'] [T', T', T', T', T', T', T', T'] rfl rfl rfl (jd_region rfl (od_pu rfl rfl (p_assign rfl) (od_nil rfl (pd_seq (jd_ret rfl ?_)))))))
      exact pd_retH Try.results149 (.cons (ro_cv (ro_tmp rfl) (Cv.eq (congrArg (fun n => D.v (.int .i64 n)) (by unfold cmpI; simp [*])))) .nil) rfl HSub.none ⟨rfl, rfl⟩

set_option maxHeartbeats 4000000 in
set_option maxRecDepth 100000 in
theorem Or_c (ns : List Int)  :
    CD Try.prog 136 [] [.sh 1 (ns.map dI)] (isR (dI (firstNZ ns))) := by
  refine cd_of_JD Try.func136 rfl (N := 18) rfl rfl (fun C => ?_)
  refine JD.keep [0] [(0, .sh 1 (ns.map dI))] rfl ?_
  refine JD.bd 0 rfl (fun bd0 => ?_)
  have nl0 := bd_len bd0
  refine jd_seq [F'] [T'] rfl rfl rfl (jd_region rfl (od_pu rfl rfl (p_assign rfl) (od_nil rfl (pd_seq (jd_seq [T', F'] [T', T'] rfl rfl rfl (jd_region rfl (od_pu rfl rfl (p_assign rfl) (od_nil rfl (pd_seq (jd_seq [T', T', F'] [T', T', T'] rfl rfl rfl (jd_seq [T', T', F', F'] [T', T', F', T'] rfl rfl rfl (jd_region rfl (od_pu rfl rfl (p_move rfl) (od_pu rfl rfl (p_len (n := ns.length) rfl Try.runUnderlying25 (by simp only [List.length_map, List.length_cons, List.length_nil])) (od_pu rfl rfl (p_move rfl) (od_nil rfl (pd_seq (jd_block [T', T', F', T', F'] rfl rfl (jd_loop (fun (g : Nat) => [(3, dI 0), (6, .sh 1 (ns.map dI)), (7, dN ns.length), (8, dN g)]) (fun (g : Nat) => []) (fun (g : Nat) => (g ≤ ns.length) ∧ (firstNZ ns = firstNZ (ns.drop g))) (fun (g : Nat) => ns.length - g) [T', T', F', T', F', F'] 0 rfl rfl ⟨sk rfl, sk rfl, sk rfl, sk rfl, trivial⟩ HSub.rfl' ⟨Nat.zero_le _, by simp⟩ ?_)))))))))))))))))))
  rintro k ⟨hk, hf⟩
  refine JD.keep [3, 6, 7, 8] [(3, dI 0), (6, .sh 1 (ns.map dI)), (7, dN ns.length), (8, dN k)] rfl (JD.norm [] rfl (jd_seq [T', T', F', T', F', F', F'] [T', T', F', T', F', F', T'] rfl rfl rfl (jd_region rfl (od_pu rfl rfl (p_lss rfl rfl rfl) (od_nil rfl (pd_seq (jd_seq [T', T', F', T', F', F', T', F'] [T', T', F', T', F', F', T', T'] rfl rfl rfl ?_)))))))
  refine jd_cond [T', T', F', T', F', F', T', F', F'] [T', T', F', T', F', F', T', F', T'] rfl rfl rfl rfl (fun hc1 => ?_) (fun hc1 => ?_)
  · replace hc1 := of_decide_eq_true hc1
    refine jd_skip rfl (pd_seq (jd_seq [T', T', F', T', F', F', T', T', F'] [T', T', F', T', F', F', T', T', T'] rfl rfl rfl (jd_block [T', T', F', T', F', F', T', T', F', F'] rfl rfl (jd_seq [T', T', F', T', F', F', T', T', F', F', F'] [T', T', F', T', F', F', T', T', F', F', T'] rfl rfl rfl (jd_region rfl ?_)))))
    obtain ⟨x1, hx1⟩ := get_some ns k (by omega)
    refine od_pu rfl rfl (p_indexAddr (k := k) rfl rfl Try.runUnderlying25 Try.sizeOf3 (by first | rfl | omega) (get_map hx1)) (od_pu rfl rfl (p_load_el1 rfl Try.isAgg3 rfl) (od_pu rfl rfl (p_assign rfl) (od_nil rfl (pd_seq (jd_seq [T', T', F', T', F', F', T', T', F', F', T', F'] [T', T', F', T', F', F', T', T', F', F', T', T'] rfl rfl rfl (jd_region rfl (od_pu rfl rfl (p_move rfl) (od_pu rfl rfl (p_move rfl) (od_pu rfl rfl (p_neq rfl rfl rfl) (od_nil rfl (pd_seq ?_)))))))))))
    refine jd_cond [T', T', F', T', F', F', T', T', F', F', T', T', F'] [T', T', F', T', F', F', T', T', F', F', T', T', T'] rfl rfl rfl rfl (fun hc2 => ?_) (fun hc2 => ?_)
    · replace hc2 := of_decide_eq_true hc2
      refine jd_seq [T', T', F', T', F', F', T', T', F', F', T', T', F', F'] [T', T', F', T', F', F', T', T', F', F', T', T', F', T'] rfl rfl rfl (jd_region rfl (od_pu rfl rfl (p_move rfl) (od_pu rfl rfl (p_assign rfl) (od_nil rfl (pd_seq (jd_ret rfl (pd_block_ret (pd_seq_ret (pd_loop_ret (pd_block_ret (pd_seq_ret ?_)))))))))))
      exact pd_retH Try.results136 (.cons (ro_cv (ro_tmp rfl) (Cv.eq (congrArg (fun n => D.v (.int .i64 n)) (by exact (firstNZ_at hx1 hf (by assumption)).symm)))) .nil) rfl HSub.none ⟨rfl, rfl⟩
    · replace hc2 := of_decide_eq_false hc2
      refine jd_skip rfl (pd_block (pd_seq (jd_region rfl (od_pu rfl rfl (p_add (c := ((k + 1 : Nat) : Int)) rfl rfl (w64eq (by omega) (by omega))) (od_pu rfl rfl (p_move rfl) (od_nil rfl ?_))))))
      exact pd_loop (k + 1) ⟨sk rfl, sk rfl, sk rfl, sk rfl, trivial⟩ HSub.rfl' ⟨by omega, firstNZ_next hx1 hf (by omega)⟩ (by omega)
  · replace hc1 := of_decide_eq_false hc1
    refine jd_exit rfl (pd_seq_exit (pd_loop_exit (pd_block_exit (pd_seq (jd_seq [T', T', T', F'] [T', T', T', T'] rfl rfl rfl (jd_region rfl (od_pu rfl rfl (p_move rfl) (od_pu rfl rfl (p_assign rfl) (od_nil rfl (pd_seq (jd_ret rfl ?_)))))))))))
    exact pd_retH Try.results136 (.cons (ro_cv (ro_tmp rfl) (Cv.eq (congrArg (fun n => D.v (.int .i64 n)) (by rw [hf, List.drop_eq_nil_of_le (by omega)]; rfl)))) .nil) rfl HSub.none ⟨rfl, rfl⟩

set_option maxHeartbeats 4000000 in
set_option maxRecDepth 100000 in
theorem order_c (a : Lbl) (b : Lbl)  :
    CD Try.prog 100 [] [Lbl.d a, Lbl.d b] (isR (dI (cmpLbl a b))) := by
  refine cd_of_JD Try.func100 rfl (N := 17) rfl rfl (fun C => ?_)
  refine JD.keep [0, 1] [(0, Lbl.d a), (1, Lbl.d b)] rfl ?_
  refine JD.bd 0 rfl (fun bd0 => ?_)
  refine JD.bd 1 rfl (fun bd1 => ?_)
  refine jd_seq [F'] [T'] rfl rfl rfl (jd_region rfl (od_step rfl rfl (ef_box rfl (CellD.agg)) ?_))
  rintro _ _ ⟨g1, rfl, rfl⟩
  refine od_step rfl rfl (ef_box rfl (CellD.agg)) ?_
  rintro _ _ ⟨g2, rfl, rfl⟩
  refine od_pu rfl rfl (p_assign rfl) (od_nil rfl (pd_seq (jd_seq [T', F'] [T', T'] rfl rfl rfl (JD.keep [0, 1, 2, 3, 4] [(0, Lbl.d a), (1, Lbl.d b), (2, .v (.pointer (some ⟨g1, 0, none⟩))), (3, .v (.pointer (some ⟨g2, 0, none⟩))), (4, dI 0)] rfl (JD.norm [.bx g2 74 (Lbl.d b), .bx g1 74 (Lbl.d a)] rfl (jd_draw 9 [(5, .v (.pointer (some ⟨g1, 0, none⟩)), none), (6, .s a.n, none), (7, .v (.pointer (some ⟨g2, 0, none⟩)), none), (8, .s b.n, none), (9, dI (cmpS a.n b.n), none), (10, .v (.pointer (some ⟨g1, 1, none⟩)), none), (11, .s a.v, none), (12, .v (.pointer (some ⟨g2, 1, none⟩)), none), (13, .s b.v, none)] [.bx g2 74 (Lbl.d b), .bx g1 74 (Lbl.d a)] (Hn := [.bx g2 74 (Lbl.d b), .bx g1 74 (Lbl.d a)]) mixed rfl rfl rfl rfl HSub.rfl' rfl ⟨sa_p rfl rfl rfl (p_fieldAddr rfl fa_74_0 rfl), sa_p rfl rfl rfl (p_load_bx1 rfl (i := 1) rfl Try.isAgg9 rfl), sa_p rfl rfl rfl (p_fieldAddr rfl fa_74_0 rfl), sa_p rfl rfl rfl (p_load_bx1 rfl (i := 0) rfl Try.isAgg9 rfl), sa_q rfl rfl rfl (qu_call rfl (.cons Cv.rfl' (.cons Cv.rfl' .nil)) Try.call137 (Compare_c a.n b.n) isR_share), sa_p rfl rfl rfl (p_fieldAddr rfl fa_74_1 rfl), sa_p rfl rfl rfl (p_load_bx1 rfl (i := 1) rfl Try.isAgg9 rfl), sa_p rfl rfl rfl (p_fieldAddr rfl fa_74_1 rfl), sa_p rfl rfl rfl (p_load_bx1 rfl (i := 0) rfl Try.isAgg9 rfl), trivial⟩ ?_))))))
  refine OpsD.keep [0, 1, 2, 3, 4, 5, 6, 7, 8, 9, 10, 11, 12, 13] [(0, Lbl.d a), (1, Lbl.d b), (2, .v (.pointer (some ⟨g1, 0, none⟩))), (3, .v (.pointer (some ⟨g2, 0, none⟩))), (4, dI 0), (5, .v (.pointer (some ⟨g1, 0, none⟩))), (6, .s a.n), (7, .v (.pointer (some ⟨g2, 0, none⟩))), (8, .s b.n), (9, dI (cmpS a.n b.n)), (10, .v (.pointer (some ⟨g1, 1, none⟩))), (11, .s a.v), (12, .v (.pointer (some ⟨g2, 1, none⟩))), (13, .s b.v)] rfl (od_step rfl rfl (ef_call [] _ [] rfl rfl (.cons ArgC.id (.cons ArgC.id .nil)) lend_nil Try.call137 (Compare_c a.v b.v) (.inl rfl)) ?_)
  rintro _ _ ⟨_, ⟨rfl, rfl⟩, rfl⟩
  refine OpsD.norm [.bx g2 74 (Lbl.d b), .bx g1 74 (Lbl.d a)] rfl (od_step rfl rfl (ef_buildSlice [.tmp 9, .tmp 14] rfl rfl (.cons (CellD.v rfl) (.cons (CellD.v rfl) .nil)) rfl Try.runUnderlying25 Try.sizeOf3 Try.zeroValue3 rfl rfl rfl rfl) ?_)
  rintro _ _ ⟨g3, rfl, rfl⟩
  refine od_step rfl rfl (ef_call [] _ [.sl (.slice (some ⟨g3, 0, none⟩) 2 2) 1 3 ([dI (cmpS a.n b.n), dI (cmpS a.v b.v)])] rfl rfl (.cons (ArgC.own (j := 0) rfl rfl) .nil) (lend_cons (j := 0) rfl lend_nil) Try.call136 (Or_c [cmpS a.n b.n, cmpS a.v b.v]) (.inr (isR_flat rfl))) ?_
  rintro _ _ ⟨_, ⟨rfl, rfl⟩, rfl⟩
  refine OpsD.norm [.sl (.slice (some ⟨g3, 0, none⟩) 2 2) 1 3 ([dI (cmpS a.n b.n), dI (cmpS a.v b.v)]), .bx g2 74 (Lbl.d b), .bx g1 74 (Lbl.d a)] rfl (od_pu rfl rfl (p_assign rfl) (od_nil rfl (pd_seq (JD.keep [4] [(4, dI (firstNZ [cmpS a.n b.n, cmpS a.v b.v]))] rfl (jd_ret rfl ?_)))))
  exact pd_retH Try.results100 (.cons (ro_cv (ro_tmp rfl) (Cv.eq (congrArg (fun n => D.v (.int .i64 n)) (by rw [firstNZ_two]; rfl)))) .nil) rfl HSub.none ⟨rfl, rfl⟩

set_option maxHeartbeats 4000000 in
set_option maxRecDepth 100000 in
theorem CompareFunc_c (a b : List Lbl)  :
    CD Try.prog 102 [] [.sh 2 (a.map Lbl.d), .sh 2 (b.map Lbl.d), .fn 100 [] []] (isR (dI (cmpLs a b))) := by
  refine cd_of_JD Try.func102 rfl (N := 39) rfl rfl (fun C => ?_)
  refine JD.keep [0, 1, 2] [(0, .sh 2 (a.map Lbl.d)), (1, .sh 2 (b.map Lbl.d)), (2, .fn 100 [] [])] rfl ?_
  refine JD.bd 0 rfl (fun bd0 => ?_)
  have nl0 := bd_len bd0
  refine JD.bd 1 rfl (fun bd1 => ?_)
  have nl1 := bd_len bd1
  refine jd_seq [F'] [T'] rfl rfl rfl (jd_region rfl (od_pu rfl rfl (p_assign rfl) (od_nil rfl (pd_seq (jd_seq [T', F'] [T', T'] rfl rfl rfl (jd_seq [T', F', F'] [T', F', T'] rfl rfl rfl (jd_region rfl (od_pu rfl rfl (p_move rfl) (od_pu rfl rfl (p_len (n := a.length) rfl Try.runUnderlying32 (by simp only [List.length_map, List.length_cons, List.length_nil])) (od_pu rfl rfl (p_move rfl) (od_nil rfl (pd_seq (jd_block [T', F', T', F'] rfl rfl (jd_loop (fun (g : Nat) => [(0, .sh 2 (a.map Lbl.d)), (1, .sh 2 (b.map Lbl.d)), (2, .fn 100 [] []), (11, .sh 2 (a.map Lbl.d)), (12, dN a.length), (13, dN g)]) (fun (g : Nat) => []) (fun (g : Nat) => (g ≤ a.length) ∧ (cmpLs a b = cmpLs (a.drop g) (b.drop g))) (fun (g : Nat) => a.length - g) [T', F', T', F', F'] 0 rfl rfl ⟨sk rfl, sk rfl, sk rfl, sk rfl, sk rfl, sk rfl, trivial⟩ HSub.rfl' ⟨Nat.zero_le _, by simp⟩ ?_))))))))))))))
  rintro k ⟨hk, hf⟩
  refine JD.keep [0, 1, 2, 11, 12, 13] [(0, .sh 2 (a.map Lbl.d)), (1, .sh 2 (b.map Lbl.d)), (2, .fn 100 [] []), (11, .sh 2 (a.map Lbl.d)), (12, dN a.length), (13, dN k)] rfl (JD.norm [] rfl (jd_seq [T', F', T', F', F', F'] [T', F', T', F', F', T'] rfl rfl rfl (jd_region rfl (od_pu rfl rfl (p_lss rfl rfl rfl) (od_nil rfl (pd_seq (jd_seq [T', F', T', F', F', T', F'] [T', F', T', F', F', T', T'] rfl rfl rfl ?_)))))))
  refine jd_cond [T', F', T', F', F', T', F', F'] [T', F', T', F', F', T', F', T'] rfl rfl rfl rfl (fun hc1 => ?_) (fun hc1 => ?_)
  · replace hc1 := of_decide_eq_true hc1
    refine jd_skip rfl (pd_seq (jd_seq [T', F', T', F', F', T', T', F'] [T', F', T', F', F', T', T', T'] rfl rfl rfl (jd_block [T', F', T', F', F', T', T', F', F'] rfl rfl (jd_seq [T', F', T', F', F', T', T', F', F', F'] [T', F', T', F', F', T', T', F', F', T'] rfl rfl rfl (jd_region rfl (od_pu rfl rfl (p_move rfl) ?_))))))
    obtain ⟨x1, hx1⟩ := get_some a k (by omega)
    refine od_pu rfl rfl (p_indexAddr (k := k) rfl rfl Try.runUnderlying32 Try.sizeOf74 (by first | rfl | omega) (get_map hx1)) (od_pu rfl rfl (p_load_el (d := Lbl.d x1) rfl Try.isAgg74 Try.sizeOf74 rfl rfl) (od_step rfl rfl (ef_alloc (zv := (.agg #[(.string ByteArray.empty), (.string ByteArray.empty)])) Try.zeroValue74 ⟨rfl, rfl, trivial⟩ (Cv.vagg (by decide))) ?_))
    rintro _ _ ⟨g2, rfl, rfl⟩
    refine od_pu rfl rfl (p_assign rfl) (od_step rfl rfl (ef_store_bx (i := 0) (X' := Lbl.d x1) rfl rfl rfl (CellD.agg) Try.sizeOf74 rfl rfl rfl) ?_)
    rintro _ _ ⟨rfl, rfl⟩
    refine OpsD.norm [.bx g2 74 (Lbl.d x1)] rfl (od_nil rfl (pd_seq (jd_seq [T', F', T', F', F', T', T', F', F', T', F'] [T', F', T', F', F', T', T', F', F', T', T'] rfl rfl rfl (jd_seq [T', F', T', F', F', T', T', F', F', T', F', F'] [T', F', T', F', F', T', T', F', F', T', F', T'] rfl rfl rfl (jd_region rfl (od_pu rfl rfl (p_move rfl) (od_pu rfl rfl (p_move rfl) (od_pu rfl rfl (p_len (n := b.length) rfl Try.runUnderlying32 (by simp only [List.length_map, List.length_cons, List.length_nil])) (od_pu rfl rfl (p_geq rfl rfl rfl) (od_nil rfl (pd_seq ?_)))))))))))
    refine jd_cond [T', F', T', F', F', T', T', F', F', T', F', T', F'] [T', F', T', F', F', T', T', F', F', T', F', T', T'] rfl rfl rfl rfl (fun hc3 => ?_) (fun hc3 => ?_)
    · replace hc3 := of_decide_eq_true hc3
      refine jd_seq [T', F', T', F', F', T', T', F', F', T', F', T', F', F'] [T', F', T', F', F', T', T', F', F', T', F', T', F', T'] rfl rfl rfl (jd_region rfl (od_pu rfl rfl (p_assign rfl) (od_nil rfl (pd_seq (jd_ret rfl (pd_seq_ret (pd_block_ret (pd_seq_ret (pd_loop_ret (pd_block_ret (pd_seq_ret ?_)))))))))))
      exact pd_retH Try.results102 (.cons (ro_cv (ro_tmp rfl) (Cv.eq (congrArg (fun n => D.v (.int .i64 n)) (by exact (cmpLs_right hx1 (by omega) hf).symm)))) .nil) rfl HSub.none ⟨rfl, rfl⟩
    · replace hc3 := of_decide_eq_false hc3
      refine jd_skip rfl (pd_seq (jd_seq [T', F', T', F', F', T', T', F', F', T', T', F'] [T', F', T', F', F', T', T', F', F', T', T', T'] rfl rfl rfl (jd_region rfl (od_pu rfl rfl (p_move rfl) (od_pu rfl rfl (p_move rfl) ?_)))))
      obtain ⟨x2, hx2⟩ := get_some b k (by omega)
      refine od_pu rfl rfl (p_indexAddr (k := k) rfl rfl Try.runUnderlying32 Try.sizeOf74 (by first | rfl | omega) (get_map hx2)) (od_pu rfl rfl (p_load_el (d := Lbl.d x2) rfl Try.isAgg74 Try.sizeOf74 rfl rfl) (od_step rfl rfl (ef_alloc (zv := (.agg #[(.string ByteArray.empty), (.string ByteArray.empty)])) Try.zeroValue74 ⟨rfl, rfl, trivial⟩ (Cv.vagg (by decide))) ?_))
      rintro _ _ ⟨g4, rfl, rfl⟩
      refine od_step rfl rfl (ef_store_bx (i := 0) (X' := Lbl.d x2) rfl rfl rfl (CellD.agg) Try.sizeOf74 rfl rfl rfl) ?_
      rintro _ _ ⟨rfl, rfl⟩
      refine OpsD.norm [.bx g4 74 (Lbl.d x2), .bx g2 74 (Lbl.d x1)] rfl (od_nil rfl (pd_seq (jd_seq [T', F', T', F', F', T', T', F', F', T', T', T', F'] [T', F', T', F', F', T', T', F', F', T', T', T', T'] rfl rfl rfl (jd_region rfl (od_pu rfl rfl (p_move rfl) (od_pu rfl rfl (p_load_bx (d := Lbl.d x1) rfl (i := 1) rfl Try.isAgg74 Try.sizeOf74 rfl rfl) (od_pu rfl rfl (p_load_bx (d := Lbl.d x2) rfl (i := 0) rfl Try.isAgg74 Try.sizeOf74 rfl rfl) (od_step rfl rfl (ef_callv [] _ [] rfl rfl rfl (.cons ArgC.id (.cons ArgC.id .nil)) lend_nil Try.call100 (order_c x1 x2) (.inl rfl)) ?_))))))))
      rintro _ _ ⟨_, ⟨rfl, rfl⟩, rfl⟩
      refine OpsD.norm [.bx g4 74 (Lbl.d x2), .bx g2 74 (Lbl.d x1)] rfl (od_pu rfl rfl (p_assign rfl) (od_nil rfl (pd_seq (jd_seq [T', F', T', F', F', T', T', F', F', T', T', T', T', F'] [T', F', T', F', F', T', T', F', F', T', T', T', T', T'] rfl rfl rfl (jd_region rfl (od_pu rfl rfl (p_move rfl) (od_pu rfl rfl (p_neq rfl rfl rfl) (od_nil rfl (pd_seq ?_)))))))))
      refine jd_cond [T', F', T', F', F', T', T', F', F', T', T', T', T', T', F'] [T', F', T', F', F', T', T', F', F', T', T', T', T', T', T'] rfl rfl rfl rfl (fun hc5 => ?_) (fun hc5 => ?_)
      · replace hc5 := of_decide_eq_true hc5
        refine jd_seq [T', F', T', F', F', T', T', F', F', T', T', T', T', T', F', F'] [T', F', T', F', F', T', T', F', F', T', T', T', T', T', F', T'] rfl rfl rfl (jd_region rfl (od_pu rfl rfl (p_move rfl) (od_pu rfl rfl (p_assign rfl) (od_nil rfl (pd_seq (jd_ret rfl (pd_block_ret (pd_seq_ret (pd_loop_ret (pd_block_ret (pd_seq_ret ?_)))))))))))
        exact pd_retH Try.results102 (.cons (ro_cv (ro_tmp rfl) (Cv.eq (congrArg (fun n => D.v (.int .i64 n)) (by exact (cmpLs_at hx1 hx2 hf (by assumption)).symm)))) .nil) rfl HSub.none ⟨rfl, rfl⟩
      · replace hc5 := of_decide_eq_false hc5
        refine jd_skip rfl (pd_block (pd_seq (jd_region rfl (od_pu rfl rfl (p_add (c := ((k + 1 : Nat) : Int)) rfl rfl (w64eq (by omega) (by omega))) (od_pu rfl rfl (p_move rfl) (od_nil rfl ?_))))))
        exact pd_loop (k + 1) ⟨sk rfl, sk rfl, sk rfl, sk rfl, sk rfl, sk rfl, trivial⟩ HSub.none ⟨by omega, cmpLs_next hx1 hx2 hf (by omega)⟩ (by omega)
  · replace hc1 := of_decide_eq_false hc1
    refine jd_exit rfl (pd_seq_exit (pd_loop_exit (pd_block_exit (pd_seq (jd_seq [T', T', F'] [T', T', T'] rfl rfl rfl (jd_seq [T', T', F', F'] [T', T', F', T'] rfl rfl rfl (jd_region rfl (od_pu rfl rfl (p_move rfl) (od_pu rfl rfl (p_len (n := a.length) rfl Try.runUnderlying32 (by simp only [List.length_map, List.length_cons, List.length_nil])) (od_pu rfl rfl (p_move rfl) (od_pu rfl rfl (p_len (n := b.length) rfl Try.runUnderlying32 (by simp only [List.length_map, List.length_cons, List.length_nil])) (od_pu rfl rfl (p_lss rfl rfl rfl) (od_nil rfl (pd_seq (JD.keep [38] [(38, dB (decide (((a.length : Nat) : Int) < ((b.length : Nat) : Int))))] rfl ?_)))))))))))))))
    refine jd_cond [T', T', F', T', F'] [T', T', F', T', T'] rfl rfl rfl rfl (fun hc6 => ?_) (fun hc6 => ?_)
    · replace hc6 := of_decide_eq_true hc6
      refine jd_seq [T', T', F', T', F', F'] [T', T', F', T', F', T'] rfl rfl rfl (jd_region rfl (od_pu rfl rfl (p_assign rfl) (od_nil rfl (pd_seq (jd_ret rfl (pd_seq_ret ?_))))))
      exact pd_retH Try.results102 (.cons (ro_cv (ro_tmp rfl) (Cv.eq (congrArg (fun n => D.v (.int .i64 n)) (by rw [cmpLs_end (by omega) hf (by omega)]; first | rw [if_pos (by omega)] | rw [if_neg (by omega)])))) .nil) rfl HSub.none ⟨rfl, rfl⟩
    · replace hc6 := of_decide_eq_false hc6
      refine jd_skip rfl (pd_seq (jd_seq [T', T', T', F'] [T', T', T', T'] rfl rfl rfl (jd_region rfl (od_pu rfl rfl (p_assign rfl) (od_nil rfl (pd_seq (jd_ret rfl ?_)))))))
      exact pd_retH Try.results102 (.cons (ro_cv (ro_tmp rfl) (Cv.eq (congrArg (fun n => D.v (.int .i64 n)) (by rw [cmpLs_end (by omega) hf (by omega)]; first | rw [if_pos (by omega)] | rw [if_neg (by omega)])))) .nil) rfl HSub.none ⟨rfl, rfl⟩

set_option maxHeartbeats 4000000 in
set_option maxRecDepth 100000 in
theorem Compare2_c (a : List Lbl) (b : List Lbl)  :
    CD Try.prog 38 [] [.sh 2 (a.map Lbl.d), .sh 2 (b.map Lbl.d)] (isR (dI (cmpLs a b))) := by
  refine cd_of_JD Try.func38 rfl (N := 8) rfl rfl (fun C => ?_)
  refine JD.keep [0, 1] [(0, .sh 2 (a.map Lbl.d)), (1, .sh 2 (b.map Lbl.d))] rfl ?_
  refine JD.bd 0 rfl (fun bd0 => ?_)
  have nl0 := bd_len bd0
  refine JD.bd 1 rfl (fun bd1 => ?_)
  have nl1 := bd_len bd1
  refine jd_seq [F'] [T'] rfl rfl rfl (jd_region rfl (od_pu rfl rfl (p_assign rfl) (od_nil rfl (pd_seq (jd_seq [T', F'] [T', T'] rfl rfl rfl (jd_region rfl (od_pu rfl rfl (p_move rfl) (od_pu rfl rfl (p_move rfl) (od_step rfl rfl (ef_call [] _ [] rfl rfl (.cons ArgC.id (.cons ArgC.id (.cons ArgC.id .nil))) lend_nil Try.call102 (CompareFunc_c a b) (.inl rfl)) ?_)))))))))
  rintro _ _ ⟨_, ⟨rfl, rfl⟩, rfl⟩
  refine OpsD.norm [] rfl (od_pu rfl rfl (p_assign rfl) (od_nil rfl (pd_seq (jd_ret rfl ?_))))
  exact pd_retH Try.results38 (.cons (ro_tmp rfl) .nil) rfl HSub.none ⟨rfl, rfl⟩

set_option maxHeartbeats 4000000 in
set_option maxRecDepth 100000 in
theorem texts_c (a : ByteArray) (b : ByteArray)  :
    CD Try.prog 108 [] [.s a, .s b] (isR (dI (cmpS a b))) := by
  refine cd_of_JD Try.func108 rfl (N := 13) rfl rfl (fun C => ?_)
  refine JD.keep [0, 1] [(0, .s a), (1, .s b)] rfl ?_
  refine JD.bd 0 rfl (fun bd0 => ?_)
  have sz0 : a.size ≤ 9223372036854775807 := bd0
  refine JD.bd 1 rfl (fun bd1 => ?_)
  have sz1 : b.size ≤ 9223372036854775807 := bd1
  refine jd_seq [F'] [T'] rfl rfl rfl (jd_region rfl (od_pu rfl rfl (p_assign rfl) (od_nil rfl (pd_seq (jd_seq [T', F'] [T', T'] rfl rfl rfl (jd_block [T', F', F'] rfl rfl (jd_seq [T', F', F', F'] [T', F', F', T'] rfl rfl rfl (jd_region rfl (od_pu rfl rfl (p_move rfl) (od_pu rfl rfl (p_move rfl) (od_pu rfl rfl (p_lts rfl rfl rfl) (od_pu rfl rfl (p_assign rfl) (od_nil rfl (pd_seq ?_))))))))))))))
  refine jd_cond [T', F', F', T', F'] [T', F', F', T', T'] rfl rfl rfl rfl (fun hc1 => ?_) (fun hc1 => ?_)
  · replace hc1 := of_decide_eq_true hc1
    refine jd_seq [T', F', F', T', F', F'] [T', F', F', T', F', T'] rfl rfl rfl (jd_region rfl (od_pu rfl rfl (p_assign rfl) (od_nil rfl (pd_seq (jd_ret rfl (pd_block_ret (pd_seq_ret ?_)))))))
    exact pd_retH Try.results108 (.cons (ro_cv (ro_tmp rfl) (Cv.eq (congrArg (fun n => D.v (.int .i64 n)) (by rcases cmpS_cases a b with h | h | h <;> rw [h] <;> omega)))) .nil) rfl HSub.none ⟨rfl, rfl⟩
  · replace hc1 := of_decide_eq_false hc1
    refine jd_seq [T', F', F', T', T', F'] [T', F', F', T', T', T'] rfl rfl rfl (jd_region rfl (od_pu rfl rfl (p_move rfl) (od_pu rfl rfl (p_move rfl) (od_pu rfl rfl (p_gts rfl rfl rfl) (od_pu rfl rfl (p_assign rfl) (od_nil rfl (pd_seq (JD.keep [4, 9] [(4, dI 0), (9, dB (decide (0 < cmpS a b)))] rfl ?_))))))))
    refine jd_cond [T', F', F', T', T', T', F'] [T', F', F', T', T', T', T'] rfl rfl rfl rfl (fun hc2 => ?_) (fun hc2 => ?_)
    · replace hc2 := of_decide_eq_true hc2
      refine jd_seq [T', F', F', T', T', T', F', F'] [T', F', F', T', T', T', F', T'] rfl rfl rfl (jd_region rfl (od_pu rfl rfl (p_assign rfl) (od_nil rfl (pd_seq (jd_ret rfl (pd_block_ret (pd_seq_ret ?_)))))))
      exact pd_retH Try.results108 (.cons (ro_cv (ro_tmp rfl) (Cv.eq (congrArg (fun n => D.v (.int .i64 n)) (by rcases cmpS_cases a b with h | h | h <;> rw [h] <;> omega)))) .nil) rfl HSub.none ⟨rfl, rfl⟩
    · replace hc2 := of_decide_eq_false hc2
      refine jd_skip rfl (pd_block (pd_seq (jd_seq [T', T', F'] [T', T', T'] rfl rfl rfl (jd_region rfl (od_pu rfl rfl (p_assign rfl) (od_nil rfl (pd_seq (jd_ret rfl ?_))))))))
      exact pd_retH Try.results108 (.cons (ro_cv (ro_tmp rfl) (Cv.eq (congrArg (fun n => D.v (.int .i64 n)) (by rcases cmpS_cases a b with h | h | h <;> rw [h] <;> omega)))) .nil) rfl HSub.none ⟨rfl, rfl⟩

set_option maxHeartbeats 4000000 in
set_option maxRecDepth 100000 in
theorem compare_c (o : Int) (a : RowD) (b : RowD)  :
    CD Try.prog 110 [] [dI o, RowD.d a, RowD.d b] (isR (dI (cmpRow o a b))) := by
  refine cd_of_JD Try.func110 rfl (N := 35) rfl rfl (fun C => ?_)
  refine JD.keep [0, 1, 2] [(0, dI o), (1, RowD.d a), (2, RowD.d b)] rfl ?_
  refine JD.bd 1 rfl (fun bd1 => ?_)
  refine JD.bd 2 rfl (fun bd2 => ?_)
  refine jd_seq [F'] [T'] rfl rfl rfl (jd_region rfl (od_step rfl rfl (ef_box rfl (CellD.agg)) ?_))
  rintro _ _ ⟨g1, rfl, rfl⟩
  refine od_step rfl rfl (ef_box rfl (CellD.agg)) ?_
  rintro _ _ ⟨g2, rfl, rfl⟩
  refine od_pu rfl rfl (p_assign rfl) (od_nil rfl (pd_seq (jd_seq [T', F'] [T', T'] rfl rfl rfl (jd_region rfl (od_pu rfl rfl (p_fieldAddr rfl fa_34_0 rfl) (od_pu rfl rfl (p_load_bx1 rfl (i := 1) rfl Try.isAgg32 rfl) (od_pu rfl rfl (p_fieldAddr rfl fa_34_0 rfl) (od_pu rfl rfl (p_load_bx1 rfl (i := 0) rfl Try.isAgg32 rfl) (od_step rfl rfl (ef_call [] _ [] rfl rfl (.cons ArgC.id (.cons ArgC.id .nil)) lend_nil Try.call38 (Compare2_c a.ls b.ls) (.inl rfl)) ?_)))))))))
  rintro _ _ ⟨_, ⟨rfl, rfl⟩, rfl⟩
  refine OpsD.norm [.bx g2 34 (RowD.d b), .bx g1 34 (RowD.d a)] rfl (od_pu rfl rfl (p_assign rfl) (od_nil rfl (pd_seq (jd_seq [T', T', F'] [T', T', T'] rfl rfl rfl (jd_seq [T', T', F', F'] [T', T', F', T'] rfl rfl rfl (jd_region rfl (od_pu rfl rfl (p_move rfl) (od_nil rfl (pd_seq (jd_block [T', T', F', T', F'] rfl rfl (jd_seq [T', T', F', T', F', F'] [T', T', F', T', F', T'] rfl rfl rfl (jd_region rfl (od_pu rfl rfl (p_eql rfl rfl rfl) (od_pu rfl rfl (p_assign rfl) (od_nil rfl (pd_seq (JD.keep [4, 5, 6, 7, 13, 14] [(4, .v (.pointer (some ⟨g1, 0, none⟩))), (5, .v (.pointer (some ⟨g2, 0, none⟩))), (6, dI 0), (7, dI (cmpLs a.ls b.ls)), (13, dI o), (14, dB (decide (o = (1 : Int))))] rfl ?_)))))))))))))))))
  refine jd_cond [T', T', F', T', F', T', F'] [T', T', F', T', F', T', T'] rfl rfl rfl rfl (fun hc3 => ?_) (fun hc3 => ?_)
  · replace hc3 := of_decide_eq_true hc3
    refine jd_seq [T', T', F', T', F', T', F', F'] [T', T', F', T', F', T', F', T'] rfl rfl rfl (jd_region rfl (od_pu rfl rfl (p_fieldAddr rfl fa_34_1 rfl) (od_pu rfl rfl (p_load_bx1 rfl (i := 1) rfl Try.isAgg3 rfl) (od_pu rfl rfl (p_fieldAddr rfl fa_34_1 rfl) (od_pu rfl rfl (p_load_bx1 rfl (i := 0) rfl Try.isAgg3 rfl) (od_step rfl rfl (ef_call [] _ [] rfl rfl (.cons ArgC.id (.cons ArgC.id .nil)) lend_nil Try.call149 (cmpI_c a.v b.v) (.inl rfl)) ?_))))))
    rintro _ _ ⟨_, ⟨rfl, rfl⟩, rfl⟩
    refine OpsD.norm [.bx g2 34 (RowD.d b), .bx g1 34 (RowD.d a)] rfl (od_pu rfl rfl (p_move rfl) (od_step rfl rfl (ef_buildSlice [.tmp 20, .tmp 21] rfl rfl (.cons (CellD.v rfl) (.cons (CellD.v rfl) .nil)) rfl Try.runUnderlying25 Try.sizeOf3 Try.zeroValue3 rfl rfl rfl rfl) ?_))
    rintro _ _ ⟨g4, rfl, rfl⟩
    refine od_step rfl rfl (ef_call [] _ [.sl (.slice (some ⟨g4, 0, none⟩) 2 2) 1 3 ([dI (cmpI a.v b.v), dI (cmpLs a.ls b.ls)])] rfl rfl (.cons (ArgC.own (j := 0) rfl rfl) .nil) (lend_cons (j := 0) rfl lend_nil) Try.call136 (Or_c [cmpI a.v b.v, cmpLs a.ls b.ls]) (.inr (isR_flat rfl))) ?_
    rintro _ _ ⟨_, ⟨rfl, rfl⟩, rfl⟩
    refine OpsD.norm [.sl (.slice (some ⟨g4, 0, none⟩) 2 2) 1 3 ([dI (cmpI a.v b.v), dI (cmpLs a.ls b.ls)]), .bx g2 34 (RowD.d b), .bx g1 34 (RowD.d a)] rfl (od_pu rfl rfl (p_assign rfl) (od_nil rfl (pd_seq (JD.keep [6, 7] [(6, dI (firstNZ [cmpI a.v b.v, cmpLs a.ls b.ls])), (7, dI (cmpLs a.ls b.ls))] rfl (jd_ret rfl (pd_block_ret (pd_seq_ret ?_)))))))
    exact pd_retH Try.results110 (.cons (ro_cv (ro_tmp rfl) (Cv.eq (congrArg (fun n => D.v (.int .i64 n)) (by unfold cmpRow; simp [*, firstNZ_two])))) .nil) rfl HSub.none ⟨rfl, rfl⟩
  · replace hc3 := of_decide_eq_false hc3
    refine jd_seq [T', T', F', T', F', T', T', F'] [T', T', F', T', F', T', T', T'] rfl rfl rfl (jd_region rfl (od_pu rfl rfl (p_eql rfl rfl rfl) (od_pu rfl rfl (p_assign rfl) (od_nil rfl (pd_seq ?_)))))
    refine jd_cond [T', T', F', T', F', T', T', T', F'] [T', T', F', T', F', T', T', T', T'] rfl rfl rfl rfl (fun hc5 => ?_) (fun hc5 => ?_)
    · replace hc5 := of_decide_eq_true hc5
      refine jd_seq [T', T', F', T', F', T', T', T', F', F'] [T', T', F', T', F', T', T', T', F', T'] rfl rfl rfl (jd_region rfl (od_pu rfl rfl (p_fieldAddr rfl fa_34_1 rfl) (od_pu rfl rfl (p_load_bx1 rfl (i := 0) rfl Try.isAgg3 rfl) (od_pu rfl rfl (p_fieldAddr rfl fa_34_1 rfl) (od_pu rfl rfl (p_load_bx1 rfl (i := 1) rfl Try.isAgg3 rfl) (od_step rfl rfl (ef_call [] _ [] rfl rfl (.cons ArgC.id (.cons ArgC.id .nil)) lend_nil Try.call149 (cmpI_c b.v a.v) (.inl rfl)) ?_))))))
      rintro _ _ ⟨_, ⟨rfl, rfl⟩, rfl⟩
      refine OpsD.norm [.bx g2 34 (RowD.d b), .bx g1 34 (RowD.d a)] rfl (od_pu rfl rfl (p_move rfl) (od_step rfl rfl (ef_buildSlice [.tmp 30, .tmp 31] rfl rfl (.cons (CellD.v rfl) (.cons (CellD.v rfl) .nil)) rfl Try.runUnderlying25 Try.sizeOf3 Try.zeroValue3 rfl rfl rfl rfl) ?_))
      rintro _ _ ⟨g6, rfl, rfl⟩
      refine od_step rfl rfl (ef_call [] _ [.sl (.slice (some ⟨g6, 0, none⟩) 2 2) 1 3 ([dI (cmpI b.v a.v), dI (cmpLs a.ls b.ls)])] rfl rfl (.cons (ArgC.own (j := 0) rfl rfl) .nil) (lend_cons (j := 0) rfl lend_nil) Try.call136 (Or_c [cmpI b.v a.v, cmpLs a.ls b.ls]) (.inr (isR_flat rfl))) ?_
      rintro _ _ ⟨_, ⟨rfl, rfl⟩, rfl⟩
      refine OpsD.norm [.sl (.slice (some ⟨g6, 0, none⟩) 2 2) 1 3 ([dI (cmpI b.v a.v), dI (cmpLs a.ls b.ls)]), .bx g2 34 (RowD.d b), .bx g1 34 (RowD.d a)] rfl (od_pu rfl rfl (p_assign rfl) (od_nil rfl (pd_seq (JD.keep [6, 7] [(6, dI (firstNZ [cmpI b.v a.v, cmpLs a.ls b.ls])), (7, dI (cmpLs a.ls b.ls))] rfl (jd_ret rfl (pd_block_ret (pd_seq_ret ?_)))))))
      exact pd_retH Try.results110 (.cons (ro_cv (ro_tmp rfl) (Cv.eq (congrArg (fun n => D.v (.int .i64 n)) (by unfold cmpRow; simp [*, firstNZ_two])))) .nil) rfl HSub.none ⟨rfl, rfl⟩
    · replace hc5 := of_decide_eq_false hc5
      refine jd_skip rfl (pd_block (pd_seq (jd_seq [T', T', T', F'] [T', T', T', T'] rfl rfl rfl (jd_region rfl (od_pu rfl rfl (p_move rfl) (od_pu rfl rfl (p_assign rfl) (od_nil rfl (pd_seq (jd_ret rfl ?_)))))))))
      exact pd_retH Try.results110 (.cons (ro_cv (ro_tmp rfl) (Cv.eq (congrArg (fun n => D.v (.int .i64 n)) (by unfold cmpRow; simp [*, firstNZ_two])))) .nil) rfl HSub.none ⟨rfl, rfl⟩

set_option maxHeartbeats 4000000 in
set_option maxRecDepth 100000 in
theorem Less_c (o : Int) (a : RowD) (b : RowD)  :
    CD Try.prog 49 [] [dI o, RowD.d a, RowD.d b] (isR (dB (less o a b))) := by
  refine cd_of_JD Try.func49 rfl (N := 12) rfl rfl (fun C => ?_)
  refine JD.keep [0, 1, 2] [(0, dI o), (1, RowD.d a), (2, RowD.d b)] rfl ?_
  refine JD.bd 1 rfl (fun bd1 => ?_)
  refine JD.bd 2 rfl (fun bd2 => ?_)
  refine jd_seq [F'] [T'] rfl rfl rfl (jd_region rfl (od_step rfl rfl (ef_box rfl (CellD.agg)) ?_))
  rintro _ _ ⟨g1, rfl, rfl⟩
  refine od_step rfl rfl (ef_box rfl (CellD.agg)) ?_
  rintro _ _ ⟨g2, rfl, rfl⟩
  refine od_pu rfl rfl (p_assign rfl) (od_nil rfl (pd_seq (jd_seq [T', F'] [T', T'] rfl rfl rfl (jd_region rfl (od_pu rfl rfl (p_move rfl) (od_pu rfl rfl (p_load_bx (d := RowD.d a) rfl (i := 1) rfl Try.isAgg34 Try.sizeOf34 rfl rfl) (od_pu rfl rfl (p_load_bx (d := RowD.d b) rfl (i := 0) rfl Try.isAgg34 Try.sizeOf34 rfl rfl) (od_step rfl rfl (ef_call [] _ [] rfl rfl (.cons ArgC.id (.cons ArgC.id (.cons ArgC.id .nil))) lend_nil Try.call110 (compare_c o a b) (.inl rfl)) ?_))))))))
  rintro _ _ ⟨_, ⟨rfl, rfl⟩, rfl⟩
  refine OpsD.norm [.bx g2 34 (RowD.d b), .bx g1 34 (RowD.d a)] rfl (od_pu rfl rfl (p_lss rfl rfl rfl) (od_pu rfl rfl (p_assign rfl) (od_nil rfl (pd_seq (JD.keep [6] [(6, dB (decide (cmpRow o a b < (0 : Int))))] rfl (jd_ret rfl ?_))))))
  exact pd_retH Try.results49 (.cons (ro_cv (ro_tmp rfl) (Cv.eq (congrArg (fun b => D.v (.bool b)) (by rfl)))) .nil) rfl HSub.none ⟨rfl, rfl⟩

set_option maxHeartbeats 4000000 in
set_option maxRecDepth 100000 in
theorem refCompare_c (a : List Lbl) (b : List Lbl)  :
    CD Try.prog 46 [] [.sh 2 (a.map Lbl.d), .sh 2 (b.map Lbl.d)] (isR (dI (cmpLs a b))) := by
  refine cd_of_JD Try.func46 rfl (N := 58) rfl rfl (fun C => ?_)
  refine JD.keep [0, 1] [(0, .sh 2 (a.map Lbl.d)), (1, .sh 2 (b.map Lbl.d))] rfl ?_
  refine JD.bd 0 rfl (fun bd0 => ?_)
  have nl0 := bd_len bd0
  refine JD.bd 1 rfl (fun bd1 => ?_)
  have nl1 := bd_len bd1
  refine jd_seq [F'] [T'] rfl rfl rfl (jd_region rfl (od_pu rfl rfl (p_assign rfl) (od_nil rfl (pd_seq (jd_seq [T', F'] [T', T'] rfl rfl rfl (jd_seq [T', F', F'] [T', F', T'] rfl rfl rfl (jd_region rfl (od_pu rfl rfl (p_assign rfl) (od_nil rfl (pd_seq (jd_block [T', F', T', F'] rfl rfl (jd_loop (fun (g : Nat) => [(0, .sh 2 (a.map Lbl.d)), (1, .sh 2 (b.map Lbl.d)), (5, dN g)]) (fun (g : Nat) => []) (fun (g : Nat) => (g ≤ a.length) ∧ (g ≤ b.length) ∧ (cmpLs a b = cmpLs (a.drop g) (b.drop g))) (fun (g : Nat) => a.length - g) [T', F', T', F', F'] 0 rfl rfl ⟨sk rfl, sk rfl, sk rfl, trivial⟩ HSub.rfl' ⟨Nat.zero_le _, Nat.zero_le _, by simp⟩ ?_))))))))))))
  rintro k ⟨hk, hk2, hf⟩
  refine JD.keep [0, 1, 5] [(0, .sh 2 (a.map Lbl.d)), (1, .sh 2 (b.map Lbl.d)), (5, dN k)] rfl (JD.norm [] rfl (jd_seq [T', F', T', F', F', F'] [T', F', T', F', F', T'] rfl rfl rfl (jd_seq [T', F', T', F', F', F', F'] [T', F', T', F', F', F', T'] rfl rfl rfl (JD.keep [0, 1, 5] [(0, .sh 2 (a.map Lbl.d)), (1, .sh 2 (b.map Lbl.d)), (5, dN k)] rfl ?_))))
  refine jd_sum 16 ((decide (((k : Nat) : Int) < ((a.length : Nat) : Int)) && decide (((k : Nat) : Int) < ((b.length : Nat) : Int)))) [] (fun _ hQ1 => ?_) ?_
  · skip
    by_cases hg2 : ((k : Nat) : Int) < ((a.length : Nat) : Int)
    · skip
      refine jd_region rfl (od_pu rfl rfl (p_move rfl) (od_pu rfl rfl (p_move rfl) (od_pu rfl rfl (p_len (n := a.length) rfl Try.runUnderlying32 (by simp only [List.length_map, List.length_cons, List.length_nil])) (od_pu rfl rfl (p_lss rfl rfl (decide_eq_true hg2)) (od_pu rfl rfl (p_move rfl) (od_runp rfl rfl rfl rfl rfl (p_move rfl) (od_runp rfl rfl rfl rfl rfl (p_move rfl) (od_runp rfl rfl rfl rfl rfl (p_len (n := b.length) rfl Try.runUnderlying32 (by simp only [List.length_map, List.length_cons, List.length_nil])) (od_runp rfl rfl rfl rfl rfl (p_lss rfl rfl rfl) (od_pu rfl rfl (p_pick_t rfl rfl) (od_nil rfl ?_)))))))))))
      exact PD.sub ((16, dB (decide (((k : Nat) : Int) < ((a.length : Nat) : Int)) && decide (((k : Nat) : Int) < ((b.length : Nat) : Int)))) :: [(0, .sh 2 (a.map Lbl.d)), (1, .sh 2 (b.map Lbl.d)), (5, dN k)]) ⟨sc rfl (Cv.eq (congrArg (fun b => D.v (.bool b)) (by first | (simp [hg2]; done) | (simp_all; done)))), sk rfl, sk rfl, sk rfl, trivial⟩ hQ1
    · skip
      refine jd_region rfl (od_pu rfl rfl (p_move rfl) (od_pu rfl rfl (p_move rfl) (od_pu rfl rfl (p_len (n := a.length) rfl Try.runUnderlying32 (by simp only [List.length_map, List.length_cons, List.length_nil])) (od_pu rfl rfl (p_lss rfl rfl (decide_eq_false hg2)) (od_pu rfl rfl (p_move rfl) (od_skip rfl rfl rfl rfl rfl (by decide) (od_skip rfl rfl rfl rfl rfl (by decide) (od_skip rfl rfl rfl rfl rfl (by decide) (od_skip rfl rfl rfl rfl rfl (by decide) (od_pu rfl rfl (p_pick_f rfl rfl) (od_nil rfl ?_)))))))))))
      exact PD.sub ((16, dB (decide (((k : Nat) : Int) < ((a.length : Nat) : Int)) && decide (((k : Nat) : Int) < ((b.length : Nat) : Int)))) :: [(0, .sh 2 (a.map Lbl.d)), (1, .sh 2 (b.map Lbl.d)), (5, dN k)]) ⟨sc rfl (Cv.eq (congrArg (fun b => D.v (.bool b)) (by first | (simp [hg2]; done) | (simp_all; done)))), sk rfl, sk rfl, sk rfl, trivial⟩ hQ1
  · skip
    refine pd_seq ?_
    refine jd_cond [T', F', T', F', F', F', T', F'] [T', F', T', F', F', F', T', T'] rfl rfl rfl rfl (fun hc3 => ?_) (fun hc3 => ?_)
    · simp only [Bool.and_eq_true, Bool.or_eq_true, Bool.not_eq_true', Bool.not_eq_false', Bool.and_eq_false_iff, Bool.or_eq_false_iff, decide_eq_true_eq, decide_eq_false_iff_not, Decidable.not_not, ne_eq] at hc3
      refine jd_skip rfl (pd_seq (jd_seq [T', F', T', F', F', T', F'] [T', F', T', F', F', T', T'] rfl rfl rfl (jd_block [T', F', T', F', F', T', F', F'] rfl rfl (jd_seq [T', F', T', F', F', T', F', F', F'] [T', F', T', F', F', T', F', F', T'] rfl rfl rfl (JD.keep [0, 1, 5, 16] [(0, .sh 2 (a.map Lbl.d)), (1, .sh 2 (b.map Lbl.d)), (5, dN k), (16, dB (decide (((k : Nat) : Int) < ((a.length : Nat) : Int)) && decide (((k : Nat) : Int) < ((b.length : Nat) : Int))))] rfl (JD.norm [] rfl ?_))))))
      obtain ⟨x1, hx1⟩ := get_some a k (by omega)
      obtain ⟨x2, hx2⟩ := get_some b k (by omega)
      refine jd_draw 10 [(19, .sh 2 (a.map Lbl.d), none), (20, dN k, none), (21, .el (Lbl.d x1) 0, none), (22, .el (Lbl.d x1) 0, none), (23, .s x1.n, none), (24, .sh 2 (b.map Lbl.d), none), (25, dN k, none), (26, .el (Lbl.d x2) 0, none), (27, .el (Lbl.d x2) 0, none), (28, .s x2.n, none)] [] (Hn := []) mixed rfl rfl rfl rfl HSub.rfl' rfl ⟨sa_p rfl rfl rfl (p_move rfl), sa_p rfl rfl rfl (p_move rfl), sa_p rfl rfl rfl (p_indexAddr (k := k) rfl rfl Try.runUnderlying32 Try.sizeOf74 (by first | rfl | omega) (get_map hx1)), sa_p rfl rfl rfl (p_fieldAddr_el rfl fa_74_0 rfl), sa_p rfl rfl rfl (p_load_el1 rfl Try.isAgg9 rfl), sa_p rfl rfl rfl (p_move rfl), sa_p rfl rfl rfl (p_move rfl), sa_p rfl rfl rfl (p_indexAddr (k := k) rfl rfl Try.runUnderlying32 Try.sizeOf74 (by first | rfl | omega) (get_map hx2)), sa_p rfl rfl rfl (p_fieldAddr_el rfl fa_74_0 rfl), sa_p rfl rfl rfl (p_load_el1 rfl Try.isAgg9 rfl), trivial⟩ ?_
      refine OpsD.keep [0, 1, 5, 16, 19, 20, 21, 22, 23, 24, 25, 26, 27, 28] [(0, .sh 2 (a.map Lbl.d)), (1, .sh 2 (b.map Lbl.d)), (5, dN k), (16, dB (decide (((k : Nat) : Int) < ((a.length : Nat) : Int)) && decide (((k : Nat) : Int) < ((b.length : Nat) : Int)))), (19, .sh 2 (a.map Lbl.d)), (20, dN k), (21, .el (Lbl.d x1) 0), (22, .el (Lbl.d x1) 0), (23, .s x1.n), (24, .sh 2 (b.map Lbl.d)), (25, dN k), (26, .el (Lbl.d x2) 0), (27, .el (Lbl.d x2) 0), (28, .s x2.n)] rfl (od_step rfl rfl (ef_call [] _ [] rfl rfl (.cons ArgC.id (.cons ArgC.id .nil)) lend_nil Try.call108 (texts_c x1.n x2.n) (.inl rfl)) ?_)
      rintro _ _ ⟨_, ⟨rfl, rfl⟩, rfl⟩
      refine OpsD.norm [] rfl (od_pu rfl rfl (p_assign rfl) (od_nil rfl (pd_seq (jd_seq [T', F', T', F', F', T', F', F', T', F'] [T', F', T', F', F', T', F', F', T', T'] rfl rfl rfl (jd_seq [T', F', T', F', F', T', F', F', T', F', F'] [T', F', T', F', F', T', F', F', T', F', T'] rfl rfl rfl (jd_region rfl (od_pu rfl rfl (p_move rfl) (od_pu rfl rfl (p_eql rfl rfl rfl) (od_nil rfl (pd_seq ?_))))))))))
      refine jd_cond [T', F', T', F', F', T', F', F', T', F', T', F'] [T', F', T', F', F', T', F', F', T', F', T', T'] rfl rfl rfl rfl (fun hc4 => ?_) (fun hc4 => ?_)
      · replace hc4 := of_decide_eq_true hc4
        refine JD.keep [0, 1, 5, 6, 16, 19, 20, 21, 22, 23, 24, 25, 26, 27, 28, 29, 30, 31] [(0, .sh 2 (a.map Lbl.d)), (1, .sh 2 (b.map Lbl.d)), (5, dN k), (6, dI (cmpS x1.n x2.n)), (16, dB (decide (((k : Nat) : Int) < ((a.length : Nat) : Int)) && decide (((k : Nat) : Int) < ((b.length : Nat) : Int)))), (19, .sh 2 (a.map Lbl.d)), (20, dN k), (21, .el (Lbl.d x1) 0), (22, .el (Lbl.d x1) 0), (23, .s x1.n), (24, .sh 2 (b.map Lbl.d)), (25, dN k), (26, .el (Lbl.d x2) 0), (27, .el (Lbl.d x2) 0), (28, .s x2.n), (29, dI (cmpS x1.n x2.n)), (30, dI (cmpS x1.n x2.n)), (31, dB (decide (cmpS x1.n x2.n = (0 : Int))))] rfl (JD.norm [] rfl ?_)
        refine jd_draw 10 [(32, .sh 2 (a.map Lbl.d), none), (33, dN k, none), (34, .el (Lbl.d x1) 0, none), (35, .el (Lbl.d x1) 1, none), (36, .s x1.v, none), (37, .sh 2 (b.map Lbl.d), none), (38, dN k, none), (39, .el (Lbl.d x2) 0, none), (40, .el (Lbl.d x2) 1, none), (41, .s x2.v, none)] [] (Hn := []) mixed rfl rfl rfl rfl HSub.rfl' rfl ⟨sa_p rfl rfl rfl (p_move rfl), sa_p rfl rfl rfl (p_move rfl), sa_p rfl rfl rfl (p_indexAddr (k := k) rfl rfl Try.runUnderlying32 Try.sizeOf74 (by first | rfl | omega) (get_map hx1)), sa_p rfl rfl rfl (p_fieldAddr_el rfl fa_74_1 rfl), sa_p rfl rfl rfl (p_load_el1 rfl Try.isAgg9 rfl), sa_p rfl rfl rfl (p_move rfl), sa_p rfl rfl rfl (p_move rfl), sa_p rfl rfl rfl (p_indexAddr (k := k) rfl rfl Try.runUnderlying32 Try.sizeOf74 (by first | rfl | omega) (get_map hx2)), sa_p rfl rfl rfl (p_fieldAddr_el rfl fa_74_1 rfl), sa_p rfl rfl rfl (p_load_el1 rfl Try.isAgg9 rfl), trivial⟩ ?_
        refine OpsD.keep [0, 1, 5, 6, 16, 19, 20, 21, 22, 23, 24, 25, 26, 27, 28, 29, 30, 31, 32, 33, 34, 35, 36, 37, 38, 39, 40, 41] [(0, .sh 2 (a.map Lbl.d)), (1, .sh 2 (b.map Lbl.d)), (5, dN k), (6, dI (cmpS x1.n x2.n)), (16, dB (decide (((k : Nat) : Int) < ((a.length : Nat) : Int)) && decide (((k : Nat) : Int) < ((b.length : Nat) : Int)))), (19, .sh 2 (a.map Lbl.d)), (20, dN k), (21, .el (Lbl.d x1) 0), (22, .el (Lbl.d x1) 0), (23, .s x1.n), (24, .sh 2 (b.map Lbl.d)), (25, dN k), (26, .el (Lbl.d x2) 0), (27, .el (Lbl.d x2) 0), (28, .s x2.n), (29, dI (cmpS x1.n x2.n)), (30, dI (cmpS x1.n x2.n)), (31, dB (decide (cmpS x1.n x2.n = (0 : Int)))), (32, .sh 2 (a.map Lbl.d)), (33, dN k), (34, .el (Lbl.d x1) 0), (35, .el (Lbl.d x1) 1), (36, .s x1.v), (37, .sh 2 (b.map Lbl.d)), (38, dN k), (39, .el (Lbl.d x2) 0), (40, .el (Lbl.d x2) 1), (41, .s x2.v)] rfl (od_step rfl rfl (ef_call [] _ [] rfl rfl (.cons ArgC.id (.cons ArgC.id .nil)) lend_nil Try.call108 (texts_c x1.v x2.v) (.inl rfl)) ?_)
        rintro _ _ ⟨_, ⟨rfl, rfl⟩, rfl⟩
        refine OpsD.norm [] rfl (od_pu rfl rfl (p_assign rfl) (od_nil rfl (pd_seq (jd_seq [T', F', T', F', F', T', F', F', T', T', F'] [T', F', T', F', F', T', F', F', T', T', T'] rfl rfl rfl (jd_region rfl (od_pu rfl rfl (p_move rfl) (od_pu rfl rfl (p_neq rfl rfl rfl) (od_nil rfl (pd_seq ?_)))))))))
        refine jd_cond [T', F', T', F', F', T', F', F', T', T', T', F'] [T', F', T', F', F', T', F', F', T', T', T', T'] rfl rfl rfl rfl (fun hc5 => ?_) (fun hc5 => ?_)
        · replace hc5 := of_decide_eq_true hc5
          refine jd_seq [T', F', T', F', F', T', F', F', T', T', T', F', F'] [T', F', T', F', F', T', F', F', T', T', T', F', T'] rfl rfl rfl (jd_region rfl (od_pu rfl rfl (p_move rfl) (od_pu rfl rfl (p_assign rfl) (od_nil rfl (pd_seq (jd_ret rfl (pd_block_ret (pd_seq_ret (pd_loop_ret (pd_block_ret (pd_seq_ret ?_)))))))))))
          exact pd_retH Try.results46 (.cons (ro_cv (ro_tmp rfl) (Cv.eq (congrArg (fun n => D.v (.int .i64 n)) (by rw [cmpLs_at hx1 hx2 hf (by unfold cmpLbl or2; split <;> omega)]; unfold cmpLbl or2; first | rw [if_pos (by omega)] | rw [if_neg (by omega)])))) .nil) rfl HSub.none ⟨rfl, rfl⟩
        · replace hc5 := of_decide_eq_false hc5
          refine jd_skip rfl (pd_block (pd_seq (jd_region rfl (od_pu rfl rfl (p_move rfl) (od_pu rfl rfl (p_add (c := ((k + 1 : Nat) : Int)) rfl rfl (w64eq (by omega) (by omega))) (od_pu rfl rfl (p_assign rfl) (od_nil rfl ?_)))))))
          exact pd_loop (k + 1) ⟨sk rfl, sk rfl, sk rfl, trivial⟩ HSub.rfl' ⟨by omega, by omega, cmpLs_next hx1 hx2 hf (by unfold cmpLbl or2; split <;> omega)⟩ (by omega)
      · replace hc4 := of_decide_eq_false hc4
        refine jd_skip rfl (pd_seq (jd_seq [T', F', T', F', F', T', F', F', T', T', F'] [T', F', T', F', F', T', F', F', T', T', T'] rfl rfl rfl (jd_region rfl (od_pu rfl rfl (p_move rfl) (od_pu rfl rfl (p_neq rfl rfl rfl) (od_nil rfl (pd_seq ?_)))))))
        refine jd_cond [T', F', T', F', F', T', F', F', T', T', T', F'] [T', F', T', F', F', T', F', F', T', T', T', T'] rfl rfl rfl rfl (fun hc6 => ?_) (fun hc6 => ?_)
        · replace hc6 := of_decide_eq_true hc6
          refine jd_seq [T', F', T', F', F', T', F', F', T', T', T', F', F'] [T', F', T', F', F', T', F', F', T', T', T', F', T'] rfl rfl rfl (jd_region rfl (od_pu rfl rfl (p_move rfl) (od_pu rfl rfl (p_assign rfl) (od_nil rfl (pd_seq (jd_ret rfl (pd_block_ret (pd_seq_ret (pd_loop_ret (pd_block_ret (pd_seq_ret ?_)))))))))))
          exact pd_retH Try.results46 (.cons (ro_cv (ro_tmp rfl) (Cv.eq (congrArg (fun n => D.v (.int .i64 n)) (by rw [cmpLs_at hx1 hx2 hf (by unfold cmpLbl or2; split <;> omega)]; unfold cmpLbl or2; first | rw [if_pos (by omega)] | rw [if_neg (by omega)])))) .nil) rfl HSub.none ⟨rfl, rfl⟩
        · replace hc6 := of_decide_eq_false hc6
          refine jd_skip rfl (pd_block (pd_seq (jd_region rfl (od_pu rfl rfl (p_move rfl) (od_pu rfl rfl (p_add (c := ((k + 1 : Nat) : Int)) rfl rfl (w64eq (by omega) (by omega))) (od_pu rfl rfl (p_assign rfl) (od_nil rfl ?_)))))))
          exact pd_loop (k + 1) ⟨sk rfl, sk rfl, sk rfl, trivial⟩ HSub.rfl' ⟨by omega, by omega, cmpLs_next hx1 hx2 hf (by unfold cmpLbl or2; split <;> omega)⟩ (by omega)
    · simp only [Bool.and_eq_true, Bool.or_eq_true, Bool.not_eq_true', Bool.not_eq_false', Bool.and_eq_false_iff, Bool.or_eq_false_iff, decide_eq_true_eq, decide_eq_false_iff_not, Decidable.not_not, ne_eq] at hc3
      refine jd_exit rfl (pd_seq_exit (pd_loop_exit (pd_block_exit (pd_seq (jd_seq [T', T', F'] [T', T', T'] rfl rfl rfl (jd_block [T', T', F', F'] rfl rfl (jd_seq [T', T', F', F', F'] [T', T', F', F', T'] rfl rfl rfl (jd_region rfl (od_pu rfl rfl (p_move rfl) (od_pu rfl rfl (p_len (n := a.length) rfl Try.runUnderlying32 (by simp only [List.length_map, List.length_cons, List.length_nil])) (od_pu rfl rfl (p_move rfl) (od_pu rfl rfl (p_len (n := b.length) rfl Try.runUnderlying32 (by simp only [List.length_map, List.length_cons, List.length_nil])) (od_pu rfl rfl (p_lss rfl rfl rfl) (od_pu rfl rfl (p_assign rfl) (od_nil rfl (pd_seq ?_))))))))))))))))
      refine jd_cond [T', T', F', F', T', F'] [T', T', F', F', T', T'] rfl rfl rfl rfl (fun hc7 => ?_) (fun hc7 => ?_)
      · replace hc7 := of_decide_eq_true hc7
        refine jd_seq [T', T', F', F', T', F', F'] [T', T', F', F', T', F', T'] rfl rfl rfl (jd_region rfl (od_pu rfl rfl (p_assign rfl) (od_nil rfl (pd_seq (JD.keep [4] [(4, dI (-1))] rfl (jd_ret rfl (pd_block_ret (pd_seq_ret ?_))))))))
        exact pd_retH Try.results46 (.cons (ro_cv (ro_tmp rfl) (Cv.eq (congrArg (fun n => D.v (.int .i64 n)) (by rw [hf]; first | rw [cmpLs_nil (by omega) (by omega) (by omega)] | rw [cmpLs_nil_l (by omega) (by omega)] | rw [cmpLs_nil_r (by omega) (by omega)])))) .nil) rfl HSub.none ⟨rfl, rfl⟩
      · replace hc7 := of_decide_eq_false hc7
        refine jd_seq [T', T', F', F', T', T', F'] [T', T', F', F', T', T', T'] rfl rfl rfl (jd_region rfl (od_pu rfl rfl (p_move rfl) (od_pu rfl rfl (p_len (n := a.length) rfl Try.runUnderlying32 (by simp only [List.length_map, List.length_cons, List.length_nil])) (od_pu rfl rfl (p_move rfl) (od_pu rfl rfl (p_len (n := b.length) rfl Try.runUnderlying32 (by simp only [List.length_map, List.length_cons, List.length_nil])) (od_pu rfl rfl (p_gtr rfl rfl rfl) (od_pu rfl rfl (p_assign rfl) (od_nil rfl (pd_seq (JD.keep [52] [(52, dB (decide (((b.length : Nat) : Int) < ((a.length : Nat) : Int))))] rfl ?_))))))))))
        refine jd_cond [T', T', F', F', T', T', T', F'] [T', T', F', F', T', T', T', T'] rfl rfl rfl rfl (fun hc8 => ?_) (fun hc8 => ?_)
        · replace hc8 := of_decide_eq_true hc8
          refine jd_seq [T', T', F', F', T', T', T', F', F'] [T', T', F', F', T', T', T', F', T'] rfl rfl rfl (jd_region rfl (od_pu rfl rfl (p_assign rfl) (od_nil rfl (pd_seq (jd_ret rfl (pd_block_ret (pd_seq_ret ?_)))))))
          exact pd_retH Try.results46 (.cons (ro_cv (ro_tmp rfl) (Cv.eq (congrArg (fun n => D.v (.int .i64 n)) (by rw [hf]; first | rw [cmpLs_nil (by omega) (by omega) (by omega)] | rw [cmpLs_nil_l (by omega) (by omega)] | rw [cmpLs_nil_r (by omega) (by omega)])))) .nil) rfl HSub.none ⟨rfl, rfl⟩
        · replace hc8 := of_decide_eq_false hc8
          refine jd_skip rfl (pd_block (pd_seq (jd_seq [T', T', T', F'] [T', T', T', T'] rfl rfl rfl (jd_region rfl (od_pu rfl rfl (p_assign rfl) (od_nil rfl (pd_seq (jd_ret rfl ?_))))))))
          exact pd_retH Try.results46 (.cons (ro_cv (ro_tmp rfl) (Cv.eq (congrArg (fun n => D.v (.int .i64 n)) (by rw [hf]; first | rw [cmpLs_nil (by omega) (by omega) (by omega)] | rw [cmpLs_nil_l (by omega) (by omega)] | rw [cmpLs_nil_r (by omega) (by omega)])))) .nil) rfl HSub.none ⟨rfl, rfl⟩

set_option maxHeartbeats 4000000 in
set_option maxRecDepth 100000 in
theorem refLess_c (o : Int) (a : RowD) (b : RowD)  :
    CD Try.prog 18 [] [dI o, RowD.d a, RowD.d b] (isR (dB (less o a b))) := by
  refine cd_of_JD Try.func18 rfl (N := 41) rfl rfl (fun C => ?_)
  refine JD.keep [0, 1, 2] [(0, dI o), (1, RowD.d a), (2, RowD.d b)] rfl ?_
  refine JD.bd 1 rfl (fun bd1 => ?_)
  refine JD.bd 2 rfl (fun bd2 => ?_)
  refine jd_seq [F'] [T'] rfl rfl rfl (jd_region rfl (od_step rfl rfl (ef_box rfl (CellD.agg)) ?_))
  rintro _ _ ⟨g1, rfl, rfl⟩
  refine od_step rfl rfl (ef_box rfl (CellD.agg)) ?_
  rintro _ _ ⟨g2, rfl, rfl⟩
  refine od_pu rfl rfl (p_assign rfl) (od_nil rfl (pd_seq (jd_seq [T', F'] [T', T'] rfl rfl rfl (jd_seq [T', F', F'] [T', F', T'] rfl rfl rfl (JD.keep [0, 4, 5, 6] [(0, dI o), (4, .v (.pointer (some ⟨g1, 0, none⟩))), (5, .v (.pointer (some ⟨g2, 0, none⟩))), (6, dB false)] rfl ?_)))))
  refine jd_sum 15 ((decide (o = (1 : Int)) && decide (a.v ≠ b.v))) [.bx g2 34 (RowD.d b), .bx g1 34 (RowD.d a)] (fun _ hQ3 => ?_) ?_
  · skip
    by_cases hg4 : o = (1 : Int)
    · skip
      refine jd_region rfl (od_pu rfl rfl (p_move rfl) (od_pu rfl rfl (p_eql rfl rfl (decide_eq_true hg4)) (od_pu rfl rfl (p_move rfl) (od_runp rfl rfl rfl rfl rfl (p_fieldAddr rfl fa_34_1 rfl) (od_runp rfl rfl rfl rfl rfl (p_load_bx1 rfl (i := 1) rfl Try.isAgg3 rfl) (od_runp rfl rfl rfl rfl rfl (p_fieldAddr rfl fa_34_1 rfl) (od_runp rfl rfl rfl rfl rfl (p_load_bx1 rfl (i := 0) rfl Try.isAgg3 rfl) (od_runp rfl rfl rfl rfl rfl (p_neq rfl rfl rfl) (od_pu rfl rfl (p_pick_t rfl rfl) (od_nil rfl ?_))))))))))
      exact PD.sub ((15, dB (decide (o = (1 : Int)) && decide (a.v ≠ b.v))) :: [(0, dI o), (4, .v (.pointer (some ⟨g1, 0, none⟩))), (5, .v (.pointer (some ⟨g2, 0, none⟩))), (6, dB false)]) ⟨sc rfl (Cv.eq (congrArg (fun b => D.v (.bool b)) (by first | (simp [hg4]; done) | (simp_all; done)))), sk rfl, sk rfl, sk rfl, sk rfl, trivial⟩ hQ3
    · skip
      refine jd_region rfl (od_pu rfl rfl (p_move rfl) (od_pu rfl rfl (p_eql rfl rfl (decide_eq_false hg4)) (od_pu rfl rfl (p_move rfl) (od_skip rfl rfl rfl rfl rfl (by decide) (od_skip rfl rfl rfl rfl rfl (by decide) (od_skip rfl rfl rfl rfl rfl (by decide) (od_skip rfl rfl rfl rfl rfl (by decide) (od_skip rfl rfl rfl rfl rfl (by decide) (od_pu rfl rfl (p_pick_f rfl rfl) (od_nil rfl ?_))))))))))
      exact PD.sub ((15, dB (decide (o = (1 : Int)) && decide (a.v ≠ b.v))) :: [(0, dI o), (4, .v (.pointer (some ⟨g1, 0, none⟩))), (5, .v (.pointer (some ⟨g2, 0, none⟩))), (6, dB false)]) ⟨sc rfl (Cv.eq (congrArg (fun b => D.v (.bool b)) (by first | (simp [hg4]; done) | (simp_all; done)))), sk rfl, sk rfl, sk rfl, sk rfl, trivial⟩ hQ3
  · skip
    refine pd_seq ?_
    refine jd_cond [T', F', T', F'] [T', F', T', T'] rfl rfl rfl rfl (fun hc5 => ?_) (fun hc5 => ?_)
    · simp only [Bool.and_eq_true, Bool.or_eq_true, Bool.not_eq_true', Bool.not_eq_false', Bool.and_eq_false_iff, Bool.or_eq_false_iff, decide_eq_true_eq, decide_eq_false_iff_not, Decidable.not_not, ne_eq] at hc5
      refine jd_seq [T', F', T', F', F'] [T', F', T', F', T'] rfl rfl rfl (jd_region rfl (od_pu rfl rfl (p_fieldAddr rfl fa_34_1 rfl) (od_pu rfl rfl (p_load_bx1 rfl (i := 1) rfl Try.isAgg3 rfl) (od_pu rfl rfl (p_fieldAddr rfl fa_34_1 rfl) (od_pu rfl rfl (p_load_bx1 rfl (i := 0) rfl Try.isAgg3 rfl) (od_pu rfl rfl (p_lss rfl rfl rfl) (od_pu rfl rfl (p_assign rfl) (od_nil rfl (pd_seq (jd_ret rfl (pd_seq_ret ?_)))))))))))
      exact pd_retH Try.results18 (.cons (ro_cv (ro_tmp rfl) (Cv.eq (congrArg (fun b => D.v (.bool b)) (by first | rw [less_ref1 (by omega) (by omega)] | rw [less_ref2 (by omega) (by omega)] | rw [less_ref3 (by omega) (by omega)])))) .nil) rfl HSub.none ⟨rfl, rfl⟩
    · simp only [Bool.and_eq_true, Bool.or_eq_true, Bool.not_eq_true', Bool.not_eq_false', Bool.and_eq_false_iff, Bool.or_eq_false_iff, decide_eq_true_eq, decide_eq_false_iff_not, Decidable.not_not, ne_eq] at hc5
      refine jd_skip rfl (pd_seq (jd_seq [T', T', F'] [T', T', T'] rfl rfl rfl (jd_seq [T', T', F', F'] [T', T', F', T'] rfl rfl rfl (JD.keep [0, 4, 5, 6] [(0, dI o), (4, .v (.pointer (some ⟨g1, 0, none⟩))), (5, .v (.pointer (some ⟨g2, 0, none⟩))), (6, dB false)] rfl ?_))))
      refine jd_sum 29 ((decide (o = (2 : Int)) && decide (a.v ≠ b.v))) [.bx g2 34 (RowD.d b), .bx g1 34 (RowD.d a)] (fun _ hQ6 => ?_) ?_
      · skip
        by_cases hg7 : o = (2 : Int)
        · skip
          refine jd_region rfl (od_pu rfl rfl (p_move rfl) (od_pu rfl rfl (p_eql rfl rfl (decide_eq_true hg7)) (od_pu rfl rfl (p_move rfl) (od_runp rfl rfl rfl rfl rfl (p_fieldAddr rfl fa_34_1 rfl) (od_runp rfl rfl rfl rfl rfl (p_load_bx1 rfl (i := 1) rfl Try.isAgg3 rfl) (od_runp rfl rfl rfl rfl rfl (p_fieldAddr rfl fa_34_1 rfl) (od_runp rfl rfl rfl rfl rfl (p_load_bx1 rfl (i := 0) rfl Try.isAgg3 rfl) (od_runp rfl rfl rfl rfl rfl (p_neq rfl rfl rfl) (od_pu rfl rfl (p_pick_t rfl rfl) (od_nil rfl ?_))))))))))
          exact PD.sub ((29, dB (decide (o = (2 : Int)) && decide (a.v ≠ b.v))) :: [(0, dI o), (4, .v (.pointer (some ⟨g1, 0, none⟩))), (5, .v (.pointer (some ⟨g2, 0, none⟩))), (6, dB false)]) ⟨sc rfl (Cv.eq (congrArg (fun b => D.v (.bool b)) (by first | (simp [hg7]; done) | (simp_all; done)))), sk rfl, sk rfl, sk rfl, sk rfl, trivial⟩ hQ6
        · skip
          refine jd_region rfl (od_pu rfl rfl (p_move rfl) (od_pu rfl rfl (p_eql rfl rfl (decide_eq_false hg7)) (od_pu rfl rfl (p_move rfl) (od_skip rfl rfl rfl rfl rfl (by decide) (od_skip rfl rfl rfl rfl rfl (by decide) (od_skip rfl rfl rfl rfl rfl (by decide) (od_skip rfl rfl rfl rfl rfl (by decide) (od_skip rfl rfl rfl rfl rfl (by decide) (od_pu rfl rfl (p_pick_f rfl rfl) (od_nil rfl ?_))))))))))
          exact PD.sub ((29, dB (decide (o = (2 : Int)) && decide (a.v ≠ b.v))) :: [(0, dI o), (4, .v (.pointer (some ⟨g1, 0, none⟩))), (5, .v (.pointer (some ⟨g2, 0, none⟩))), (6, dB false)]) ⟨sc rfl (Cv.eq (congrArg (fun b => D.v (.bool b)) (by first | (simp [hg7]; done) | (simp_all; done)))), sk rfl, sk rfl, sk rfl, sk rfl, trivial⟩ hQ6
      · skip
        refine pd_seq ?_
        refine jd_cond [T', T', F', T', F'] [T', T', F', T', T'] rfl rfl rfl rfl (fun hc8 => ?_) (fun hc8 => ?_)
        · simp only [Bool.and_eq_true, Bool.or_eq_true, Bool.not_eq_true', Bool.not_eq_false', Bool.and_eq_false_iff, Bool.or_eq_false_iff, decide_eq_true_eq, decide_eq_false_iff_not, Decidable.not_not, ne_eq] at hc8
          refine jd_seq [T', T', F', T', F', F'] [T', T', F', T', F', T'] rfl rfl rfl (jd_region rfl (od_pu rfl rfl (p_fieldAddr rfl fa_34_1 rfl) (od_pu rfl rfl (p_load_bx1 rfl (i := 1) rfl Try.isAgg3 rfl) (od_pu rfl rfl (p_fieldAddr rfl fa_34_1 rfl) (od_pu rfl rfl (p_load_bx1 rfl (i := 0) rfl Try.isAgg3 rfl) (od_pu rfl rfl (p_gtr rfl rfl rfl) (od_pu rfl rfl (p_assign rfl) (od_nil rfl (pd_seq (jd_ret rfl (pd_seq_ret ?_)))))))))))
          exact pd_retH Try.results18 (.cons (ro_cv (ro_tmp rfl) (Cv.eq (congrArg (fun b => D.v (.bool b)) (by first | rw [less_ref1 (by omega) (by omega)] | rw [less_ref2 (by omega) (by omega)] | rw [less_ref3 (by omega) (by omega)])))) .nil) rfl HSub.none ⟨rfl, rfl⟩
        · simp only [Bool.and_eq_true, Bool.or_eq_true, Bool.not_eq_true', Bool.not_eq_false', Bool.and_eq_false_iff, Bool.or_eq_false_iff, decide_eq_true_eq, decide_eq_false_iff_not, Decidable.not_not, ne_eq] at hc8
          refine jd_skip rfl (pd_seq (jd_seq [T', T', T', F'] [T', T', T', T'] rfl rfl rfl (jd_region rfl (od_pu rfl rfl (p_fieldAddr rfl fa_34_0 rfl) (od_pu rfl rfl (p_load_bx1 rfl (i := 1) rfl Try.isAgg32 rfl) (od_pu rfl rfl (p_fieldAddr rfl fa_34_0 rfl) (od_pu rfl rfl (p_load_bx1 rfl (i := 0) rfl Try.isAgg32 rfl) (od_step rfl rfl (ef_call [] _ [] rfl rfl (.cons ArgC.id (.cons ArgC.id .nil)) lend_nil Try.call46 (refCompare_c a.ls b.ls) (.inl rfl)) ?_))))))))
          rintro _ _ ⟨_, ⟨rfl, rfl⟩, rfl⟩
          refine OpsD.norm [.bx g2 34 (RowD.d b), .bx g1 34 (RowD.d a)] rfl (od_pu rfl rfl (p_lss rfl rfl rfl) (od_pu rfl rfl (p_assign rfl) (od_nil rfl (pd_seq (JD.keep [6] [(6, dB (decide (cmpLs a.ls b.ls < (0 : Int))))] rfl (jd_ret rfl ?_))))))
          exact pd_retH Try.results18 (.cons (ro_cv (ro_tmp rfl) (Cv.eq (congrArg (fun b => D.v (.bool b)) (by first | rw [less_ref1 (by omega) (by omega)] | rw [less_ref2 (by omega) (by omega)] | rw [less_ref3 (by omega) (by omega)])))) .nil) rfl HSub.none ⟨rfl, rfl⟩
end Lp
