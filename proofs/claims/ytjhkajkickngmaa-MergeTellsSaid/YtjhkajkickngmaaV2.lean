/- Walks, printed by a program of mine (wip/tools/dw.py): each theorem says what a function of the translation hands back. -/
import Derived.Test.YtjhkajkickngmaaDP
set_option linter.unusedSimpArgs false
set_option linter.unusedVariables false
namespace Lp
open Go Go.RowKit Go.Proofs

namespace HdV2
theorem fa_34_0 (b o : Nat) : ∀ w, (Instr.fieldAt 34 (.pointer (some ⟨b, o, none⟩)) 0).run Try.prog w = .ok (.pointer (some ⟨b, o + 0, none⟩)) w := fun _ => by kernel_rfl
theorem fa_34_1 (b o : Nat) : ∀ w, (Instr.fieldAt 34 (.pointer (some ⟨b, o, none⟩)) 1).run Try.prog w = .ok (.pointer (some ⟨b, o + 1, none⟩)) w := fun _ => by kernel_rfl
theorem fa_74_0 (b o : Nat) : ∀ w, (Instr.fieldAt 74 (.pointer (some ⟨b, o, none⟩)) 0).run Try.prog w = .ok (.pointer (some ⟨b, o + 0, none⟩)) w := fun _ => by kernel_rfl
theorem fa_74_1 (b o : Nat) : ∀ w, (Instr.fieldAt 74 (.pointer (some ⟨b, o, none⟩)) 1).run Try.prog w = .ok (.pointer (some ⟨b, o + 1, none⟩)) w := fun _ => by kernel_rfl
end HdV2
open HdV2

theorem p_eqlbl_eql {ty t' : TypeId} {K : Kd} {H : List Hp} {x y : Operand} {a b : Lbl} {q : Bool} (hx : opD K x = some (Lbl.d a)) (hy : opD K y = some (Lbl.d b)) (hq : decide (a = b) = q) : Pu Try.prog (.binOp .eql 74 x y t') ty K H (dB q) :=
  ⟨fun ρ w F hk _ _ => by
    obtain ⟨vs, e, u1, r1, rfl, _, ⟨rfl, _⟩, u2, r2, rfl, _, ⟨rfl, _⟩, rfl⟩ := hk.op hx
    obtain ⟨vs', e', u3, r3, rfl, _, ⟨rfl, _⟩, u4, r4, rfl, _, ⟨rfl, _⟩, rfl⟩ := hk.op hy
    refine e_bin (r := .bool q) (knows_lkO ρ [x, y]) (opv2a ρ e) (opv2b ρ e') (fun w => ?_) ⟨rfl, rfl⟩
    subst hq
    obtain ⟨a1, a2⟩ := a
    obtain ⟨b1, b2⟩ := b
    simp [go_sem, toList_beq]
    by_cases h1 : a1 = b1 <;> by_cases h2 : a2 = b2 <;> simp [h1, h2]⟩

theorem row_eq {a b : RowD} (h : a.v = b.v ∧ a.ls = b.ls) : a = b := by
  obtain ⟨p, q⟩ := a
  obtain ⟨r, s⟩ := b
  obtain ⟨h1, h2⟩ := h
  simp at h1 h2; simp [h1, h2]
theorem row_ne {a b : RowD} (h : ¬ (a.v = b.v ∧ a.ls = b.ls)) : a ≠ b := by rintro rfl; exact h ⟨rfl, rfl⟩

set_option maxHeartbeats 4000000 in
set_option maxRecDepth 100000 in
theorem SameLabels_c (a : List Lbl) (b : List Lbl)  :
    CD Try.prog 37 [] [.sh 2 (a.map Lbl.d), .sh 2 (b.map Lbl.d)] (isR (dB (decide (a = b)))) := by
  refine cd_of_JD Try.func37 rfl (N := 27) rfl rfl (fun C => ?_)
  refine JD.keep [0, 1] [(0, .sh 2 (a.map Lbl.d)), (1, .sh 2 (b.map Lbl.d))] rfl ?_
  refine JD.bd 0 rfl (fun bd0 => ?_)
  have nl0 := bd_len bd0
  refine JD.bd 1 rfl (fun bd1 => ?_)
  have nl1 := bd_len bd1
  refine jd_seq [F'] [T'] rfl rfl rfl (jd_region rfl (od_pu rfl rfl (p_assign rfl) (od_nil rfl (pd_seq (jd_seq [T', F'] [T', T'] rfl rfl rfl (jd_seq [T', F', F'] [T', F', T'] rfl rfl rfl (jd_region rfl (od_pu rfl rfl (p_move rfl) (od_pu rfl rfl (p_len (n := a.length) rfl Try.runUnderlying32 (by simp only [List.length_map, List.length_cons, List.length_nil])) (od_pu rfl rfl (p_move rfl) (od_pu rfl rfl (p_len (n := b.length) rfl Try.runUnderlying32 (by simp only [List.length_map, List.length_cons, List.length_nil])) (od_pu rfl rfl (p_neq rfl rfl rfl) (od_nil rfl (pd_seq ?_))))))))))))))
  refine jd_cond [T', F', T', F'] [T', F', T', T'] rfl rfl rfl rfl (fun hc1 => ?_) (fun hc1 => ?_)
  · replace hc1 := of_decide_eq_true hc1
    refine jd_seq [T', F', T', F', F'] [T', F', T', F', T'] rfl rfl rfl (jd_region rfl (od_pu rfl rfl (p_assign rfl) (od_nil rfl (pd_seq (jd_ret rfl (pd_seq_ret ?_))))))
    exact pd_retH Try.results37 (.cons (ro_cv (ro_tmp rfl) (Cv.eq (congrArg (fun b => D.v (.bool b)) (by first | exact (same_ne_len (by omega)).symm | exact (same_all (by omega) (by omega) hf).symm)))) .nil) rfl HSub.none ⟨rfl, rfl⟩
  · replace hc1 := of_decide_eq_false hc1
    refine jd_skip rfl (pd_seq (jd_seq [T', T', F'] [T', T', T'] rfl rfl rfl (jd_seq [T', T', F', F'] [T', T', F', T'] rfl rfl rfl (jd_region rfl (od_pu rfl rfl (p_assign rfl) (od_nil rfl (pd_seq (jd_block [T', T', F', T', F'] rfl rfl (jd_loop (fun (g : Nat) => [(0, .sh 2 (a.map Lbl.d)), (1, .sh 2 (b.map Lbl.d)), (5, dN g)]) (fun (g : Nat) => []) (fun (g : Nat) => (g ≤ a.length) ∧ (a.take g = b.take g)) (fun (g : Nat) => a.length - g) [T', T', F', T', F', F'] 0 rfl rfl ⟨sk rfl, sk rfl, sk rfl, trivial⟩ HSub.rfl' ⟨Nat.zero_le _, by simp⟩ ?_)))))))))
    rintro k ⟨hk, hf⟩
    refine JD.keep [0, 1, 5] [(0, .sh 2 (a.map Lbl.d)), (1, .sh 2 (b.map Lbl.d)), (5, dN k)] rfl (JD.norm [] rfl (jd_seq [T', T', F', T', F', F', F'] [T', T', F', T', F', F', T'] rfl rfl rfl (jd_seq [T', T', F', T', F', F', F', F'] [T', T', F', T', F', F', F', T'] rfl rfl rfl (jd_region rfl (od_pu rfl rfl (p_move rfl) (od_pu rfl rfl (p_move rfl) (od_pu rfl rfl (p_len (n := a.length) rfl Try.runUnderlying32 (by simp only [List.length_map, List.length_cons, List.length_nil])) (od_pu rfl rfl (p_lss rfl rfl rfl) (od_nil rfl (pd_seq ?_))))))))))
    refine jd_cond [T', T', F', T', F', F', F', T', F'] [T', T', F', T', F', F', F', T', T'] rfl rfl rfl rfl (fun hc2 => ?_) (fun hc2 => ?_)
    · replace hc2 := of_decide_eq_true hc2
      refine jd_skip rfl (pd_seq (jd_seq [T', T', F', T', F', F', T', F'] [T', T', F', T', F', F', T', T'] rfl rfl rfl (jd_block [T', T', F', T', F', F', T', F', F'] rfl rfl (jd_seq [T', T', F', T', F', F', T', F', F', F'] [T', T', F', T', F', F', T', F', F', T'] rfl rfl rfl (JD.keep [0, 1, 5, 11, 12, 13, 14] [(0, .sh 2 (a.map Lbl.d)), (1, .sh 2 (b.map Lbl.d)), (5, dN k), (11, dN k), (12, .sh 2 (a.map Lbl.d)), (13, dN a.length), (14, dB (decide (((k : Nat) : Int) < ((a.length : Nat) : Int))))] rfl (JD.norm [] rfl ?_))))))
      obtain ⟨x1, hx1⟩ := get_some a k (by omega)
      obtain ⟨x2, hx2⟩ := get_some b k (by omega)
      refine jd_draw 8 [(17, .sh 2 (a.map Lbl.d), none), (18, dN k, none), (19, .el (Lbl.d x1) 0, none), (20, Lbl.d x1, none), (21, .sh 2 (b.map Lbl.d), none), (22, dN k, none), (23, .el (Lbl.d x2) 0, none), (24, Lbl.d x2, none)] [] (Hn := []) mixed rfl rfl rfl rfl HSub.rfl' rfl ⟨sa_p rfl rfl rfl (p_move rfl), sa_p rfl rfl rfl (p_move rfl), sa_p rfl rfl rfl (p_indexAddr (k := k) rfl rfl Try.runUnderlying32 Try.sizeOf74 (by first | rfl | omega) (get_map hx1)), sa_p rfl rfl rfl (p_load_el (d := Lbl.d x1) rfl Try.isAgg74 Try.sizeOf74 rfl rfl), sa_p rfl rfl rfl (p_move rfl), sa_p rfl rfl rfl (p_move rfl), sa_p rfl rfl rfl (p_indexAddr (k := k) rfl rfl Try.runUnderlying32 Try.sizeOf74 (by first | rfl | omega) (get_map hx2)), sa_p rfl rfl rfl (p_load_el (d := Lbl.d x2) rfl Try.isAgg74 Try.sizeOf74 rfl rfl), trivial⟩ ?_
      refine OpsD.keep [0, 1, 5, 11, 12, 13, 14, 17, 18, 19, 20, 21, 22, 23, 24] [(0, .sh 2 (a.map Lbl.d)), (1, .sh 2 (b.map Lbl.d)), (5, dN k), (11, dN k), (12, .sh 2 (a.map Lbl.d)), (13, dN a.length), (14, dB (decide (((k : Nat) : Int) < ((a.length : Nat) : Int)))), (17, .sh 2 (a.map Lbl.d)), (18, dN k), (19, .el (Lbl.d x1) 0), (20, Lbl.d x1), (21, .sh 2 (b.map Lbl.d)), (22, dN k), (23, .el (Lbl.d x2) 0), (24, Lbl.d x2)] rfl (od_pu rfl rfl (p_eqlbl_eql rfl rfl rfl) (od_pu rfl rfl (p_not rfl) (od_nil rfl (pd_seq ?_))))
      refine jd_cond [T', T', F', T', F', F', T', F', F', T', F'] [T', T', F', T', F', F', T', F', F', T', T'] rfl rfl rfl rfl (fun hc3 => ?_) (fun hc3 => ?_)
      · replace hc3 := of_decide_eq_false (p := x1 = x2) (by simpa using hc3)
        refine jd_seq [T', T', F', T', F', F', T', F', F', T', F', F'] [T', T', F', T', F', F', T', F', F', T', F', T'] rfl rfl rfl (jd_region rfl (od_pu rfl rfl (p_assign rfl) (od_nil rfl (pd_seq (jd_ret rfl (pd_block_ret (pd_seq_ret (pd_loop_ret (pd_block_ret (pd_seq_ret ?_))))))))))
        exact pd_retH Try.results37 (.cons (ro_cv (ro_tmp rfl) (Cv.eq (congrArg (fun b => D.v (.bool b)) (by first | exact (same_ne_len (by omega)).symm | exact (same_ne_at hx1 hx2 (by simpa using hc3)).symm | exact (same_all (by omega) (by omega) hf).symm)))) .nil) rfl HSub.none ⟨rfl, rfl⟩
      · replace hc3 := of_decide_eq_true (p := x1 = x2) (by simpa using hc3)
        refine jd_skip rfl (pd_block (pd_seq (jd_region rfl (od_pu rfl rfl (p_move rfl) (od_pu rfl rfl (p_add (c := ((k + 1 : Nat) : Int)) rfl rfl (w64eq (by omega) (by omega))) (od_pu rfl rfl (p_assign rfl) (od_nil rfl ?_)))))))
        exact pd_loop (k + 1) ⟨sk rfl, sk rfl, sk rfl, trivial⟩ HSub.rfl' ⟨by omega, same_snoc hx1 hx2 hf (by simpa using hc3)⟩ (by omega)
    · replace hc2 := of_decide_eq_false hc2
      refine jd_exit rfl (pd_seq_exit (pd_loop_exit (pd_block_exit (pd_seq (jd_seq [T', T', T', F'] [T', T', T', T'] rfl rfl rfl (jd_region rfl (od_pu rfl rfl (p_assign rfl) (od_nil rfl (pd_seq (jd_ret rfl ?_))))))))))
      exact pd_retH Try.results37 (.cons (ro_cv (ro_tmp rfl) (Cv.eq (congrArg (fun b => D.v (.bool b)) (by first | exact (same_ne_len (by omega)).symm | exact (same_all (by omega) (by omega) hf).symm)))) .nil) rfl HSub.none ⟨rfl, rfl⟩

set_option maxHeartbeats 4000000 in
set_option maxRecDepth 100000 in
theorem SameRows_c (a : List RowD) (b : List RowD)  :
    CD Try.prog 15 [] [.sh 2 (a.map RowD.d), .sh 2 (b.map RowD.d)] (isR (dB (decide (a = b)))) := by
  refine cd_of_JD Try.func15 rfl (N := 42) rfl rfl (fun C => ?_)
  refine JD.keep [0, 1] [(0, .sh 2 (a.map RowD.d)), (1, .sh 2 (b.map RowD.d))] rfl ?_
  refine JD.bd 0 rfl (fun bd0 => ?_)
  have nl0 := bd_len bd0
  refine JD.bd 1 rfl (fun bd1 => ?_)
  have nl1 := bd_len bd1
  refine jd_seq [F'] [T'] rfl rfl rfl (jd_region rfl (od_pu rfl rfl (p_assign rfl) (od_nil rfl (pd_seq (jd_seq [T', F'] [T', T'] rfl rfl rfl (jd_seq [T', F', F'] [T', F', T'] rfl rfl rfl (jd_region rfl (od_pu rfl rfl (p_move rfl) (od_pu rfl rfl (p_len (n := a.length) rfl Try.runUnderlying27 (by simp only [List.length_map, List.length_cons, List.length_nil])) (od_pu rfl rfl (p_move rfl) (od_pu rfl rfl (p_len (n := b.length) rfl Try.runUnderlying27 (by simp only [List.length_map, List.length_cons, List.length_nil])) (od_pu rfl rfl (p_neq rfl rfl rfl) (od_nil rfl (pd_seq ?_))))))))))))))
  refine jd_cond [T', F', T', F'] [T', F', T', T'] rfl rfl rfl rfl (fun hc1 => ?_) (fun hc1 => ?_)
  · replace hc1 := of_decide_eq_true hc1
    refine jd_seq [T', F', T', F', F'] [T', F', T', F', T'] rfl rfl rfl (jd_region rfl (od_pu rfl rfl (p_assign rfl) (od_nil rfl (pd_seq (jd_ret rfl (pd_seq_ret ?_))))))
    exact pd_retH Try.results15 (.cons (ro_cv (ro_tmp rfl) (Cv.eq (congrArg (fun b => D.v (.bool b)) (by first | exact (same_ne_len (by omega)).symm | exact (same_all (by omega) (by omega) hf).symm)))) .nil) rfl HSub.none ⟨rfl, rfl⟩
  · replace hc1 := of_decide_eq_false hc1
    refine jd_skip rfl (pd_seq (jd_seq [T', T', F'] [T', T', T'] rfl rfl rfl (jd_seq [T', T', F', F'] [T', T', F', T'] rfl rfl rfl (jd_region rfl (od_pu rfl rfl (p_assign rfl) (od_nil rfl (pd_seq (jd_block [T', T', F', T', F'] rfl rfl (jd_loop (fun (g : Nat) => [(0, .sh 2 (a.map RowD.d)), (1, .sh 2 (b.map RowD.d)), (5, dN g)]) (fun (g : Nat) => []) (fun (g : Nat) => (g ≤ a.length) ∧ (a.take g = b.take g)) (fun (g : Nat) => a.length - g) [T', T', F', T', F', F'] 0 rfl rfl ⟨sk rfl, sk rfl, sk rfl, trivial⟩ HSub.rfl' ⟨Nat.zero_le _, by simp⟩ ?_)))))))))
    rintro k ⟨hk, hf⟩
    refine JD.keep [0, 1, 5] [(0, .sh 2 (a.map RowD.d)), (1, .sh 2 (b.map RowD.d)), (5, dN k)] rfl (JD.norm [] rfl (jd_seq [T', T', F', T', F', F', F'] [T', T', F', T', F', F', T'] rfl rfl rfl (jd_seq [T', T', F', T', F', F', F', F'] [T', T', F', T', F', F', F', T'] rfl rfl rfl (jd_region rfl (od_pu rfl rfl (p_move rfl) (od_pu rfl rfl (p_move rfl) (od_pu rfl rfl (p_len (n := a.length) rfl Try.runUnderlying27 (by simp only [List.length_map, List.length_cons, List.length_nil])) (od_pu rfl rfl (p_lss rfl rfl rfl) (od_nil rfl (pd_seq ?_))))))))))
    refine jd_cond [T', T', F', T', F', F', F', T', F'] [T', T', F', T', F', F', F', T', T'] rfl rfl rfl rfl (fun hc2 => ?_) (fun hc2 => ?_)
    · replace hc2 := of_decide_eq_true hc2
      refine jd_skip rfl (pd_seq (jd_seq [T', T', F', T', F', F', T', F'] [T', T', F', T', F', F', T', T'] rfl rfl rfl (jd_block [T', T', F', T', F', F', T', F', F'] rfl rfl (jd_seq [T', T', F', T', F', F', T', F', F', F'] [T', T', F', T', F', F', T', F', F', T'] rfl rfl rfl ?_))))
      obtain ⟨x1, hx1⟩ := get_some a k (by omega)
      obtain ⟨x2, hx2⟩ := get_some b k (by omega)
      refine JD.keep [0, 1, 5, 11, 12, 13, 14] [(0, .sh 2 (a.map RowD.d)), (1, .sh 2 (b.map RowD.d)), (5, dN k), (11, dN k), (12, .sh 2 (a.map RowD.d)), (13, dN a.length), (14, dB (decide (((k : Nat) : Int) < ((a.length : Nat) : Int))))] rfl ?_
      refine jd_sum 41 (!((decide (x1.v = x2.v) && decide (x1.ls = x2.ls)))) [] (fun _ hQ3 => ?_) ?_
      · skip
        by_cases hg4 : x1.v = x2.v
        · skip
          refine JD.keep [0, 1, 5, 11, 12, 13, 14] [(0, .sh 2 (a.map RowD.d)), (1, .sh 2 (b.map RowD.d)), (5, dN k), (11, dN k), (12, .sh 2 (a.map RowD.d)), (13, dN a.length), (14, dB (decide (((k : Nat) : Int) < ((a.length : Nat) : Int))))] rfl (JD.norm [] rfl ?_)
          refine jd_draw 22 [(17, .sh 2 (a.map RowD.d), none), (18, dN k, none), (19, .el (RowD.d x1) 0, none), (20, .el (RowD.d x1) 1, none), (21, dI x1.v, none), (22, .sh 2 (b.map RowD.d), none), (23, dN k, none), (24, .el (RowD.d x2) 0, none), (25, .el (RowD.d x2) 1, none), (26, dI x2.v, none), (27, dB true, none), (28, dB true, none), (29, .sh 2 (a.map RowD.d), none), (30, dN k, none), (31, .el (RowD.d x1) 0, none), (32, .el (RowD.d x1) 0, none), (33, .sh 2 (x1.ls.map Lbl.d), none), (34, .sh 2 (b.map RowD.d), none), (35, dN k, none), (36, .el (RowD.d x2) 0, none), (37, .el (RowD.d x2) 0, none), (38, .sh 2 (x2.ls.map Lbl.d), none)] [] (Hn := []) mixed rfl rfl rfl rfl HSub.rfl' rfl ⟨sa_p rfl rfl rfl (p_move rfl), sa_p rfl rfl rfl (p_move rfl), sa_p rfl rfl rfl (p_indexAddr (k := k) rfl rfl Try.runUnderlying27 Try.sizeOf34 (by first | rfl | omega) (get_map hx1)), sa_p rfl rfl rfl (p_fieldAddr_el rfl fa_34_1 rfl), sa_p rfl rfl rfl (p_load_el1 rfl Try.isAgg3 rfl), sa_p rfl rfl rfl (p_move rfl), sa_p rfl rfl rfl (p_move rfl), sa_p rfl rfl rfl (p_indexAddr (k := k) rfl rfl Try.runUnderlying27 Try.sizeOf34 (by first | rfl | omega) (get_map hx2)), sa_p rfl rfl rfl (p_fieldAddr_el rfl fa_34_1 rfl), sa_p rfl rfl rfl (p_load_el1 rfl Try.isAgg3 rfl), sa_p rfl rfl rfl (p_eql rfl rfl (decide_eq_true hg4)), sa_p rfl rfl rfl (p_move rfl), sa_qr rfl rfl rfl rfl rfl rfl (p_move rfl).qu, sa_qr rfl rfl rfl rfl rfl rfl (p_move rfl).qu, sa_qr rfl rfl rfl rfl rfl rfl (p_indexAddr (k := k) rfl rfl Try.runUnderlying27 Try.sizeOf34 (by first | rfl | omega) (get_map hx1)).qu, sa_qr rfl rfl rfl rfl rfl rfl (p_fieldAddr_el rfl fa_34_0 rfl).qu, sa_qr rfl rfl rfl rfl rfl rfl (p_load_el1 rfl Try.isAgg32 rfl).qu, sa_qr rfl rfl rfl rfl rfl rfl (p_move rfl).qu, sa_qr rfl rfl rfl rfl rfl rfl (p_move rfl).qu, sa_qr rfl rfl rfl rfl rfl rfl (p_indexAddr (k := k) rfl rfl Try.runUnderlying27 Try.sizeOf34 (by first | rfl | omega) (get_map hx2)).qu, sa_qr rfl rfl rfl rfl rfl rfl (p_fieldAddr_el rfl fa_34_0 rfl).qu, sa_qr rfl rfl rfl rfl rfl rfl (p_load_el1 rfl Try.isAgg32 rfl).qu, trivial⟩ ?_
          refine OpsD.keep [0, 1, 5, 11, 12, 13, 14, 17, 18, 19, 20, 21, 22, 23, 24, 25, 26, 27, 28, 29, 30, 31, 32, 33, 34, 35, 36, 37, 38] [(0, .sh 2 (a.map RowD.d)), (1, .sh 2 (b.map RowD.d)), (5, dN k), (11, dN k), (12, .sh 2 (a.map RowD.d)), (13, dN a.length), (14, dB (decide (((k : Nat) : Int) < ((a.length : Nat) : Int)))), (17, .sh 2 (a.map RowD.d)), (18, dN k), (19, .el (RowD.d x1) 0), (20, .el (RowD.d x1) 1), (21, dI x1.v), (22, .sh 2 (b.map RowD.d)), (23, dN k), (24, .el (RowD.d x2) 0), (25, .el (RowD.d x2) 1), (26, dI x2.v), (27, dB true), (28, dB true), (29, .sh 2 (a.map RowD.d)), (30, dN k), (31, .el (RowD.d x1) 0), (32, .el (RowD.d x1) 0), (33, .sh 2 (x1.ls.map Lbl.d)), (34, .sh 2 (b.map RowD.d)), (35, dN k), (36, .el (RowD.d x2) 0), (37, .el (RowD.d x2) 0), (38, .sh 2 (x2.ls.map Lbl.d))] rfl (od_run rfl rfl rfl rfl rfl (ef_call [] _ [] rfl rfl (.cons ArgC.id (.cons ArgC.id .nil)) lend_nil Try.call37 (SameLabels_c x1.ls x2.ls) (.inl rfl)) ?_)
          rintro _ _ ⟨_, ⟨rfl, rfl⟩, rfl⟩
          refine OpsD.norm [] rfl (od_pu rfl rfl (p_pick_t rfl rfl) (od_pu rfl rfl (p_not rfl) (od_nil rfl ?_)))
          exact PD.sub ((41, dB (!((decide (x1.v = x2.v) && decide (x1.ls = x2.ls))))) :: [(0, .sh 2 (a.map RowD.d)), (1, .sh 2 (b.map RowD.d)), (5, dN k), (11, dN k), (12, .sh 2 (a.map RowD.d)), (13, dN a.length), (14, dB (decide (((k : Nat) : Int) < ((a.length : Nat) : Int))))]) ⟨sc rfl (Cv.eq (congrArg (fun b => D.v (.bool b)) (by first | (simp [hc2, hg4]; done) | (simp_all; done)))), sk rfl, sk rfl, sk rfl, sk rfl, sk rfl, sk rfl, sk rfl, trivial⟩ hQ3
        · skip
          refine JD.keep [0, 1, 5, 11, 12, 13, 14] [(0, .sh 2 (a.map RowD.d)), (1, .sh 2 (b.map RowD.d)), (5, dN k), (11, dN k), (12, .sh 2 (a.map RowD.d)), (13, dN a.length), (14, dB (decide (((k : Nat) : Int) < ((a.length : Nat) : Int))))] rfl (JD.norm [] rfl ?_)
          refine jd_draw 22 [(17, .sh 2 (a.map RowD.d), none), (18, dN k, none), (19, .el (RowD.d x1) 0, none), (20, .el (RowD.d x1) 1, none), (21, dI x1.v, none), (22, .sh 2 (b.map RowD.d), none), (23, dN k, none), (24, .el (RowD.d x2) 0, none), (25, .el (RowD.d x2) 1, none), (26, dI x2.v, none), (27, dB false, none), (28, dB false, none), (29, .v undef, none), (30, .v undef, none), (31, .v undef, none), (32, .v undef, none), (33, .v undef, none), (34, .v undef, none), (35, .v undef, none), (36, .v undef, none), (37, .v undef, none), (38, .v undef, none)] [] (Hn := []) mixed rfl rfl rfl rfl HSub.rfl' rfl ⟨sa_p rfl rfl rfl (p_move rfl), sa_p rfl rfl rfl (p_move rfl), sa_p rfl rfl rfl (p_indexAddr (k := k) rfl rfl Try.runUnderlying27 Try.sizeOf34 (by first | rfl | omega) (get_map hx1)), sa_p rfl rfl rfl (p_fieldAddr_el rfl fa_34_1 rfl), sa_p rfl rfl rfl (p_load_el1 rfl Try.isAgg3 rfl), sa_p rfl rfl rfl (p_move rfl), sa_p rfl rfl rfl (p_move rfl), sa_p rfl rfl rfl (p_indexAddr (k := k) rfl rfl Try.runUnderlying27 Try.sizeOf34 (by first | rfl | omega) (get_map hx2)), sa_p rfl rfl rfl (p_fieldAddr_el rfl fa_34_1 rfl), sa_p rfl rfl rfl (p_load_el1 rfl Try.isAgg3 rfl), sa_p rfl rfl rfl (p_eql rfl rfl (decide_eq_false hg4)), sa_p rfl rfl rfl (p_move rfl), sa_s rfl rfl rfl rfl rfl rfl (by decide), sa_s rfl rfl rfl rfl rfl rfl (by decide), sa_s rfl rfl rfl rfl rfl rfl (by decide), sa_s rfl rfl rfl rfl rfl rfl (by decide), sa_s rfl rfl rfl rfl rfl rfl (by decide), sa_s rfl rfl rfl rfl rfl rfl (by decide), sa_s rfl rfl rfl rfl rfl rfl (by decide), sa_s rfl rfl rfl rfl rfl rfl (by decide), sa_s rfl rfl rfl rfl rfl rfl (by decide), sa_s rfl rfl rfl rfl rfl rfl (by decide), trivial⟩ ?_
          refine OpsD.keep [0, 1, 5, 11, 12, 13, 14, 17, 18, 19, 20, 21, 22, 23, 24, 25, 26, 27, 28, 29, 30, 31, 32, 33, 34, 35, 36, 37, 38] [(0, .sh 2 (a.map RowD.d)), (1, .sh 2 (b.map RowD.d)), (5, dN k), (11, dN k), (12, .sh 2 (a.map RowD.d)), (13, dN a.length), (14, dB (decide (((k : Nat) : Int) < ((a.length : Nat) : Int)))), (17, .sh 2 (a.map RowD.d)), (18, dN k), (19, .el (RowD.d x1) 0), (20, .el (RowD.d x1) 1), (21, dI x1.v), (22, .sh 2 (b.map RowD.d)), (23, dN k), (24, .el (RowD.d x2) 0), (25, .el (RowD.d x2) 1), (26, dI x2.v), (27, dB false), (28, dB false), (29, .v undef), (30, .v undef), (31, .v undef), (32, .v undef), (33, .v undef), (34, .v undef), (35, .v undef), (36, .v undef), (37, .v undef), (38, .v undef)] rfl (od_skip rfl rfl rfl rfl rfl (by decide) (od_pu rfl rfl (p_pick_f rfl rfl) (od_pu rfl rfl (p_not (q := false) rfl) (od_nil rfl ?_))))
          exact PD.sub ((41, dB (!((decide (x1.v = x2.v) && decide (x1.ls = x2.ls))))) :: [(0, .sh 2 (a.map RowD.d)), (1, .sh 2 (b.map RowD.d)), (5, dN k), (11, dN k), (12, .sh 2 (a.map RowD.d)), (13, dN a.length), (14, dB (decide (((k : Nat) : Int) < ((a.length : Nat) : Int))))]) ⟨sc rfl (Cv.eq (congrArg (fun b => D.v (.bool b)) (by first | (simp [hc2, hg4]; done) | (simp_all; done)))), sk rfl, sk rfl, sk rfl, sk rfl, sk rfl, sk rfl, sk rfl, trivial⟩ hQ3
      · skip
        refine pd_seq ?_
        refine jd_cond [T', T', F', T', F', F', T', F', F', T', F'] [T', T', F', T', F', F', T', F', F', T', T'] rfl rfl rfl rfl (fun hc5 => ?_) (fun hc5 => ?_)
        · simp only [Bool.and_eq_true, Bool.or_eq_true, Bool.not_eq_true', Bool.not_eq_false', Bool.and_eq_false_iff, Bool.or_eq_false_iff, decide_eq_true_eq, decide_eq_false_iff_not, Decidable.not_not, ne_eq] at hc5
          refine jd_seq [T', T', F', T', F', F', T', F', F', T', F', F'] [T', T', F', T', F', F', T', F', F', T', F', T'] rfl rfl rfl (jd_region rfl (od_pu rfl rfl (p_assign rfl) (od_nil rfl (pd_seq (jd_ret rfl (pd_block_ret (pd_seq_ret (pd_loop_ret (pd_block_ret (pd_seq_ret ?_))))))))))
          exact pd_retH Try.results15 (.cons (ro_cv (ro_tmp rfl) (Cv.eq (congrArg (fun b => D.v (.bool b)) (by first | exact (same_ne_len (by omega)).symm | exact (same_ne_at hx1 hx2 (row_ne (fun e => by rcases hc5 with h | h; exact h e.1; exact h e.2))).symm | exact (same_all (by omega) (by omega) hf).symm)))) .nil) rfl HSub.none ⟨rfl, rfl⟩
        · simp only [Bool.and_eq_true, Bool.or_eq_true, Bool.not_eq_true', Bool.not_eq_false', Bool.and_eq_false_iff, Bool.or_eq_false_iff, decide_eq_true_eq, decide_eq_false_iff_not, Decidable.not_not, ne_eq] at hc5
          refine jd_skip rfl (pd_block (pd_seq (jd_region rfl (od_pu rfl rfl (p_move rfl) (od_pu rfl rfl (p_add (c := ((k + 1 : Nat) : Int)) rfl rfl (w64eq (by omega) (by omega))) (od_pu rfl rfl (p_assign rfl) (od_nil rfl ?_)))))))
          exact pd_loop (k + 1) ⟨sk rfl, sk rfl, sk rfl, trivial⟩ HSub.rfl' ⟨by omega, same_snoc hx1 hx2 hf (by refine row_eq ?_; simpa using hc5)⟩ (by omega)
    · replace hc2 := of_decide_eq_false hc2
      refine jd_exit rfl (pd_seq_exit (pd_loop_exit (pd_block_exit (pd_seq (jd_seq [T', T', T', F'] [T', T', T', T'] rfl rfl rfl (jd_region rfl (od_pu rfl rfl (p_assign rfl) (od_nil rfl (pd_seq (jd_ret rfl ?_))))))))))
      exact pd_retH Try.results15 (.cons (ro_cv (ro_tmp rfl) (Cv.eq (congrArg (fun b => D.v (.bool b)) (by first | exact (same_ne_len (by omega)).symm | exact (same_all (by omega) (by omega) hf).symm)))) .nil) rfl HSub.none ⟨rfl, rfl⟩

set_option maxHeartbeats 4000000 in
set_option maxRecDepth 100000 in
theorem SameInts_c (a : List Int) (b : List Int)  :
    CD Try.prog 23 [] [.sh 1 (a.map dI), .sh 1 (b.map dI)] (isR (dB (decide (a = b)))) := by
  refine cd_of_JD Try.func23 rfl (N := 27) rfl rfl (fun C => ?_)
  refine JD.keep [0, 1] [(0, .sh 1 (a.map dI)), (1, .sh 1 (b.map dI))] rfl ?_
  refine JD.bd 0 rfl (fun bd0 => ?_)
  have nl0 := bd_len bd0
  refine JD.bd 1 rfl (fun bd1 => ?_)
  have nl1 := bd_len bd1
  refine jd_seq [F'] [T'] rfl rfl rfl (jd_region rfl (od_pu rfl rfl (p_assign rfl) (od_nil rfl (pd_seq (jd_seq [T', F'] [T', T'] rfl rfl rfl (jd_seq [T', F', F'] [T', F', T'] rfl rfl rfl (jd_region rfl (od_pu rfl rfl (p_move rfl) (od_pu rfl rfl (p_len (n := a.length) rfl Try.runUnderlying25 (by simp only [List.length_map, List.length_cons, List.length_nil])) (od_pu rfl rfl (p_move rfl) (od_pu rfl rfl (p_len (n := b.length) rfl Try.runUnderlying25 (by simp only [List.length_map, List.length_cons, List.length_nil])) (od_pu rfl rfl (p_neq rfl rfl rfl) (od_nil rfl (pd_seq ?_))))))))))))))
  refine jd_cond [T', F', T', F'] [T', F', T', T'] rfl rfl rfl rfl (fun hc1 => ?_) (fun hc1 => ?_)
  · replace hc1 := of_decide_eq_true hc1
    refine jd_seq [T', F', T', F', F'] [T', F', T', F', T'] rfl rfl rfl (jd_region rfl (od_pu rfl rfl (p_assign rfl) (od_nil rfl (pd_seq (jd_ret rfl (pd_seq_ret ?_))))))
    exact pd_retH Try.results23 (.cons (ro_cv (ro_tmp rfl) (Cv.eq (congrArg (fun b => D.v (.bool b)) (by first | exact (same_ne_len (by omega)).symm | exact (same_all (by omega) (by omega) hf).symm)))) .nil) rfl HSub.none ⟨rfl, rfl⟩
  · replace hc1 := of_decide_eq_false hc1
    refine jd_skip rfl (pd_seq (jd_seq [T', T', F'] [T', T', T'] rfl rfl rfl (jd_seq [T', T', F', F'] [T', T', F', T'] rfl rfl rfl (jd_region rfl (od_pu rfl rfl (p_assign rfl) (od_nil rfl (pd_seq (jd_block [T', T', F', T', F'] rfl rfl (jd_loop (fun (g : Nat) => [(0, .sh 1 (a.map dI)), (1, .sh 1 (b.map dI)), (5, dN g)]) (fun (g : Nat) => []) (fun (g : Nat) => (g ≤ a.length) ∧ (a.take g = b.take g)) (fun (g : Nat) => a.length - g) [T', T', F', T', F', F'] 0 rfl rfl ⟨sk rfl, sk rfl, sk rfl, trivial⟩ HSub.rfl' ⟨Nat.zero_le _, by simp⟩ ?_)))))))))
    rintro k ⟨hk, hf⟩
    refine JD.keep [0, 1, 5] [(0, .sh 1 (a.map dI)), (1, .sh 1 (b.map dI)), (5, dN k)] rfl (JD.norm [] rfl (jd_seq [T', T', F', T', F', F', F'] [T', T', F', T', F', F', T'] rfl rfl rfl (jd_seq [T', T', F', T', F', F', F', F'] [T', T', F', T', F', F', F', T'] rfl rfl rfl (jd_region rfl (od_pu rfl rfl (p_move rfl) (od_pu rfl rfl (p_move rfl) (od_pu rfl rfl (p_len (n := a.length) rfl Try.runUnderlying25 (by simp only [List.length_map, List.length_cons, List.length_nil])) (od_pu rfl rfl (p_lss rfl rfl rfl) (od_nil rfl (pd_seq ?_))))))))))
    refine jd_cond [T', T', F', T', F', F', F', T', F'] [T', T', F', T', F', F', F', T', T'] rfl rfl rfl rfl (fun hc2 => ?_) (fun hc2 => ?_)
    · replace hc2 := of_decide_eq_true hc2
      refine jd_skip rfl (pd_seq (jd_seq [T', T', F', T', F', F', T', F'] [T', T', F', T', F', F', T', T'] rfl rfl rfl (jd_block [T', T', F', T', F', F', T', F', F'] rfl rfl (jd_seq [T', T', F', T', F', F', T', F', F', F'] [T', T', F', T', F', F', T', F', F', T'] rfl rfl rfl (JD.keep [0, 1, 5, 11, 12, 13, 14] [(0, .sh 1 (a.map dI)), (1, .sh 1 (b.map dI)), (5, dN k), (11, dN k), (12, .sh 1 (a.map dI)), (13, dN a.length), (14, dB (decide (((k : Nat) : Int) < ((a.length : Nat) : Int))))] rfl (JD.norm [] rfl ?_))))))
      obtain ⟨x1, hx1⟩ := get_some a k (by omega)
      obtain ⟨x2, hx2⟩ := get_some b k (by omega)
      refine jd_draw 8 [(17, .sh 1 (a.map dI), none), (18, dN k, none), (19, .el (dI x1) 0, none), (20, dI x1, none), (21, .sh 1 (b.map dI), none), (22, dN k, none), (23, .el (dI x2) 0, none), (24, dI x2, none)] [] (Hn := []) mixed rfl rfl rfl rfl HSub.rfl' rfl ⟨sa_p rfl rfl rfl (p_move rfl), sa_p rfl rfl rfl (p_move rfl), sa_p rfl rfl rfl (p_indexAddr (k := k) rfl rfl Try.runUnderlying25 Try.sizeOf3 (by first | rfl | omega) (get_map hx1)), sa_p rfl rfl rfl (p_load_el1 rfl Try.isAgg3 rfl), sa_p rfl rfl rfl (p_move rfl), sa_p rfl rfl rfl (p_move rfl), sa_p rfl rfl rfl (p_indexAddr (k := k) rfl rfl Try.runUnderlying25 Try.sizeOf3 (by first | rfl | omega) (get_map hx2)), sa_p rfl rfl rfl (p_load_el1 rfl Try.isAgg3 rfl), trivial⟩ ?_
      refine OpsD.keep [0, 1, 5, 11, 12, 13, 14, 17, 18, 19, 20, 21, 22, 23, 24] [(0, .sh 1 (a.map dI)), (1, .sh 1 (b.map dI)), (5, dN k), (11, dN k), (12, .sh 1 (a.map dI)), (13, dN a.length), (14, dB (decide (((k : Nat) : Int) < ((a.length : Nat) : Int)))), (17, .sh 1 (a.map dI)), (18, dN k), (19, .el (dI x1) 0), (20, dI x1), (21, .sh 1 (b.map dI)), (22, dN k), (23, .el (dI x2) 0), (24, dI x2)] rfl (od_pu rfl rfl (p_eql rfl rfl rfl) (od_pu rfl rfl (p_not rfl) (od_nil rfl (pd_seq ?_))))
      refine jd_cond [T', T', F', T', F', F', T', F', F', T', F'] [T', T', F', T', F', F', T', F', F', T', T'] rfl rfl rfl rfl (fun hc3 => ?_) (fun hc3 => ?_)
      · replace hc3 := of_decide_eq_false (p := x1 = x2) (by simpa using hc3)
        refine jd_seq [T', T', F', T', F', F', T', F', F', T', F', F'] [T', T', F', T', F', F', T', F', F', T', F', T'] rfl rfl rfl (jd_region rfl (od_pu rfl rfl (p_assign rfl) (od_nil rfl (pd_seq (jd_ret rfl (pd_block_ret (pd_seq_ret (pd_loop_ret (pd_block_ret (pd_seq_ret ?_))))))))))
        exact pd_retH Try.results23 (.cons (ro_cv (ro_tmp rfl) (Cv.eq (congrArg (fun b => D.v (.bool b)) (by first | exact (same_ne_len (by omega)).symm | exact (same_ne_at hx1 hx2 (by simpa using hc3)).symm | exact (same_all (by omega) (by omega) hf).symm)))) .nil) rfl HSub.none ⟨rfl, rfl⟩
      · replace hc3 := of_decide_eq_true (p := x1 = x2) (by simpa using hc3)
        refine jd_skip rfl (pd_block (pd_seq (jd_region rfl (od_pu rfl rfl (p_move rfl) (od_pu rfl rfl (p_add (c := ((k + 1 : Nat) : Int)) rfl rfl (w64eq (by omega) (by omega))) (od_pu rfl rfl (p_assign rfl) (od_nil rfl ?_)))))))
        exact pd_loop (k + 1) ⟨sk rfl, sk rfl, sk rfl, trivial⟩ HSub.rfl' ⟨by omega, same_snoc hx1 hx2 hf (by simpa using hc3)⟩ (by omega)
    · replace hc2 := of_decide_eq_false hc2
      refine jd_exit rfl (pd_seq_exit (pd_loop_exit (pd_block_exit (pd_seq (jd_seq [T', T', T', F'] [T', T', T', T'] rfl rfl rfl (jd_region rfl (od_pu rfl rfl (p_assign rfl) (od_nil rfl (pd_seq (jd_ret rfl ?_))))))))))
      exact pd_retH Try.results23 (.cons (ro_cv (ro_tmp rfl) (Cv.eq (congrArg (fun b => D.v (.bool b)) (by first | exact (same_ne_len (by omega)).symm | exact (same_all (by omega) (by omega) hf).symm)))) .nil) rfl HSub.none ⟨rfl, rfl⟩

set_option maxHeartbeats 4000000 in
set_option maxRecDepth 100000 in
theorem Light2_c (l : List Lbl)  :
    CD Try.prog 34 [] [.sh 2 (l.map Lbl.d)] (isR (dB (lightL l))) := by
  refine cd_of_JD Try.func34 rfl (N := 33) rfl rfl (fun C => ?_)
  refine JD.keep [0] [(0, .sh 2 (l.map Lbl.d))] rfl ?_
  refine JD.bd 0 rfl (fun bd0 => ?_)
  have nl0 := bd_len bd0
  refine jd_seq [F'] [T'] rfl rfl rfl (jd_region rfl (od_pu rfl rfl (p_assign rfl) (od_nil rfl (pd_seq (jd_seq [T', F'] [T', T'] rfl rfl rfl (jd_seq [T', F', F'] [T', F', T'] rfl rfl rfl (jd_region rfl (od_pu rfl rfl (p_assign rfl) (od_nil rfl (pd_seq (jd_block [T', F', T', F'] rfl rfl (jd_loop (fun (g : Nat) => [(0, .sh 2 (l.map Lbl.d)), (3, dN g)]) (fun (g : Nat) => []) (fun (g : Nat) => (g ≤ l.length ∧ g ≤ 30) ∧ ((l.take g).all (fun x => decide (x.n.size ≤ 200) && decide (x.v.size ≤ 200)) = true)) (fun (g : Nat) => l.length - g) [T', F', T', F', F'] 0 rfl rfl ⟨sk rfl, sk rfl, trivial⟩ HSub.rfl' ⟨⟨Nat.zero_le _, Nat.zero_le _⟩, by simp⟩ ?_))))))))))))
  rintro k ⟨hk, hf⟩
  refine JD.keep [0, 3] [(0, .sh 2 (l.map Lbl.d)), (3, dN k)] rfl (JD.norm [] rfl (jd_seq [T', F', T', F', F', F'] [T', F', T', F', F', T'] rfl rfl rfl (jd_seq [T', F', T', F', F', F', F'] [T', F', T', F', F', F', T'] rfl rfl rfl (JD.keep [0, 3] [(0, .sh 2 (l.map Lbl.d)), (3, dN k)] rfl ?_))))
  refine jd_sum 11 ((decide (((k : Nat) : Int) < ((l.length : Nat) : Int)) && decide (((k : Nat) : Int) < (30 : Int)))) [] (fun _ hQ1 => ?_) ?_
  · skip
    by_cases hg2 : ((k : Nat) : Int) < ((l.length : Nat) : Int)
    · skip
      refine jd_region rfl (od_pu rfl rfl (p_move rfl) (od_pu rfl rfl (p_move rfl) (od_pu rfl rfl (p_len (n := l.length) rfl Try.runUnderlying32 (by simp only [List.length_map, List.length_cons, List.length_nil])) (od_pu rfl rfl (p_lss rfl rfl (decide_eq_true hg2)) (od_pu rfl rfl (p_move rfl) (od_runp rfl rfl rfl rfl rfl (p_move rfl) (od_runp rfl rfl rfl rfl rfl (p_lss rfl rfl rfl) (od_pu rfl rfl (p_pick_t rfl rfl) (od_nil rfl ?_)))))))))
      exact PD.sub ((11, dB (decide (((k : Nat) : Int) < ((l.length : Nat) : Int)) && decide (((k : Nat) : Int) < (30 : Int)))) :: [(0, .sh 2 (l.map Lbl.d)), (3, dN k)]) ⟨sc rfl (Cv.eq (congrArg (fun b => D.v (.bool b)) (by first | (simp [hg2]; done) | (simp_all; done)))), sk rfl, sk rfl, trivial⟩ hQ1
    · skip
      refine jd_region rfl (od_pu rfl rfl (p_move rfl) (od_pu rfl rfl (p_move rfl) (od_pu rfl rfl (p_len (n := l.length) rfl Try.runUnderlying32 (by simp only [List.length_map, List.length_cons, List.length_nil])) (od_pu rfl rfl (p_lss rfl rfl (decide_eq_false hg2)) (od_pu rfl rfl (p_move rfl) (od_skip rfl rfl rfl rfl rfl (by decide) (od_skip rfl rfl rfl rfl rfl (by decide) (od_pu rfl rfl (p_pick_f rfl rfl) (od_nil rfl ?_)))))))))
      exact PD.sub ((11, dB (decide (((k : Nat) : Int) < ((l.length : Nat) : Int)) && decide (((k : Nat) : Int) < (30 : Int)))) :: [(0, .sh 2 (l.map Lbl.d)), (3, dN k)]) ⟨sc rfl (Cv.eq (congrArg (fun b => D.v (.bool b)) (by first | (simp [hg2]; done) | (simp_all; done)))), sk rfl, sk rfl, trivial⟩ hQ1
  · skip
    refine pd_seq ?_
    refine jd_cond [T', F', T', F', F', F', T', F'] [T', F', T', F', F', F', T', T'] rfl rfl rfl rfl (fun hc3 => ?_) (fun hc3 => ?_)
    · simp only [Bool.and_eq_true, Bool.or_eq_true, Bool.not_eq_true', Bool.not_eq_false', Bool.and_eq_false_iff, Bool.or_eq_false_iff, decide_eq_true_eq, decide_eq_false_iff_not, Decidable.not_not, ne_eq] at hc3
      refine jd_skip rfl (pd_seq (jd_seq [T', F', T', F', F', T', F'] [T', F', T', F', F', T', T'] rfl rfl rfl (jd_block [T', F', T', F', F', T', F', F'] rfl rfl (jd_seq [T', F', T', F', F', T', F', F', F'] [T', F', T', F', F', T', F', F', T'] rfl rfl rfl ?_))))
      obtain ⟨x1, hx1⟩ := get_some l k (by omega)
      refine JD.keep [0, 3, 11] [(0, .sh 2 (l.map Lbl.d)), (3, dN k), (11, dB (decide (((k : Nat) : Int) < ((l.length : Nat) : Int)) && decide (((k : Nat) : Int) < (30 : Int))))] rfl ?_
      refine jd_sum 29 ((decide ((200 : Int) < ((x1.n.size : Nat) : Int)) || decide ((200 : Int) < ((x1.v.size : Nat) : Int)))) [] (fun _ hQ4 => ?_) ?_
      · skip
        by_cases hg5 : (200 : Int) < ((x1.n.size : Nat) : Int)
        · skip
          refine jd_region rfl (od_pu rfl rfl (p_move rfl) (od_pu rfl rfl (p_move rfl) (od_pu rfl rfl (p_indexAddr (k := k) rfl rfl Try.runUnderlying32 Try.sizeOf74 (by first | rfl | omega) (get_map hx1)) (od_pu rfl rfl (p_fieldAddr_el rfl fa_74_0 rfl) (od_pu rfl rfl (p_load_el1 rfl Try.isAgg9 rfl) (od_pu rfl rfl (p_len_str rfl Try.runUnderlying9) (od_pu rfl rfl (p_gtr rfl rfl (decide_eq_true hg5)) (od_pu rfl rfl (p_move rfl) (od_skip rfl rfl rfl rfl rfl (by decide) (od_skip rfl rfl rfl rfl rfl (by decide) (od_skip rfl rfl rfl rfl rfl (by decide) (od_skip rfl rfl rfl rfl rfl (by decide) (od_skip rfl rfl rfl rfl rfl (by decide) (od_skip rfl rfl rfl rfl rfl (by decide) (od_skip rfl rfl rfl rfl rfl (by decide) (od_pu rfl rfl (p_pick_t rfl rfl) (od_nil rfl ?_)))))))))))))))))
          exact PD.sub ((29, dB (decide ((200 : Int) < ((x1.n.size : Nat) : Int)) || decide ((200 : Int) < ((x1.v.size : Nat) : Int)))) :: [(0, .sh 2 (l.map Lbl.d)), (3, dN k), (11, dB (decide (((k : Nat) : Int) < ((l.length : Nat) : Int)) && decide (((k : Nat) : Int) < (30 : Int))))]) ⟨sc rfl (Cv.eq (congrArg (fun b => D.v (.bool b)) (by first | (simp [hg5]; done) | (simp_all; done)))), sk rfl, sk rfl, sk rfl, trivial⟩ hQ4
        · skip
          refine jd_region rfl (od_pu rfl rfl (p_move rfl) (od_pu rfl rfl (p_move rfl) (od_pu rfl rfl (p_indexAddr (k := k) rfl rfl Try.runUnderlying32 Try.sizeOf74 (by first | rfl | omega) (get_map hx1)) (od_pu rfl rfl (p_fieldAddr_el rfl fa_74_0 rfl) (od_pu rfl rfl (p_load_el1 rfl Try.isAgg9 rfl) (od_pu rfl rfl (p_len_str rfl Try.runUnderlying9) (od_pu rfl rfl (p_gtr rfl rfl (decide_eq_false hg5)) (od_pu rfl rfl (p_move rfl) (od_runp rfl rfl rfl rfl rfl (p_move rfl) (od_runp rfl rfl rfl rfl rfl (p_move rfl) (od_runp rfl rfl rfl rfl rfl (p_indexAddr (k := k) rfl rfl Try.runUnderlying32 Try.sizeOf74 (by first | rfl | omega) (get_map hx1)) (od_runp rfl rfl rfl rfl rfl (p_fieldAddr_el rfl fa_74_1 rfl) (od_runp rfl rfl rfl rfl rfl (p_load_el1 rfl Try.isAgg9 rfl) (od_runp rfl rfl rfl rfl rfl (p_len_str rfl Try.runUnderlying9) (od_runp rfl rfl rfl rfl rfl (p_gtr rfl rfl rfl) (od_pu rfl rfl (p_pick_f rfl rfl) (od_nil rfl ?_)))))))))))))))))
          exact PD.sub ((29, dB (decide ((200 : Int) < ((x1.n.size : Nat) : Int)) || decide ((200 : Int) < ((x1.v.size : Nat) : Int)))) :: [(0, .sh 2 (l.map Lbl.d)), (3, dN k), (11, dB (decide (((k : Nat) : Int) < ((l.length : Nat) : Int)) && decide (((k : Nat) : Int) < (30 : Int))))]) ⟨sc rfl (Cv.eq (congrArg (fun b => D.v (.bool b)) (by first | (simp [hg5]; done) | (simp_all; done)))), sk rfl, sk rfl, sk rfl, trivial⟩ hQ4
      · skip
        refine pd_seq ?_
        refine jd_cond [T', F', T', F', F', T', F', F', T', F'] [T', F', T', F', F', T', F', F', T', T'] rfl rfl rfl rfl (fun hc6 => ?_) (fun hc6 => ?_)
        · simp only [Bool.and_eq_true, Bool.or_eq_true, Bool.not_eq_true', Bool.not_eq_false', Bool.and_eq_false_iff, Bool.or_eq_false_iff, decide_eq_true_eq, decide_eq_false_iff_not, Decidable.not_not, ne_eq] at hc6
          refine jd_seq [T', F', T', F', F', T', F', F', T', F', F'] [T', F', T', F', F', T', F', F', T', F', T'] rfl rfl rfl (jd_region rfl (od_pu rfl rfl (p_assign rfl) (od_nil rfl (pd_seq (jd_ret rfl (pd_block_ret (pd_seq_ret (pd_loop_ret (pd_block_ret (pd_seq_ret ?_))))))))))
          exact pd_retH Try.results34 (.cons (ro_cv (ro_tmp rfl) (Cv.eq (congrArg (fun b => D.v (.bool b)) (by first | rw [lightL_bad hx1 (by omega) (by omega)] | (rw [lightL_end hf (by omega)]; exact decide_eq_decide.2 (by omega)))))) .nil) rfl HSub.none ⟨rfl, rfl⟩
        · simp only [Bool.and_eq_true, Bool.or_eq_true, Bool.not_eq_true', Bool.not_eq_false', Bool.and_eq_false_iff, Bool.or_eq_false_iff, decide_eq_true_eq, decide_eq_false_iff_not, Decidable.not_not, ne_eq] at hc6
          refine jd_skip rfl (pd_block (pd_seq (jd_region rfl (od_pu rfl rfl (p_move rfl) (od_pu rfl rfl (p_add (c := ((k + 1 : Nat) : Int)) rfl rfl (w64eq (by omega) (by omega))) (od_pu rfl rfl (p_assign rfl) (od_nil rfl ?_)))))))
          exact pd_loop (k + 1) ⟨sk rfl, sk rfl, trivial⟩ HSub.rfl' ⟨by omega, all_take_snoc hx1 hf (by simp only [Bool.and_eq_true, decide_eq_true_eq]; omega)⟩ (by omega)
    · simp only [Bool.and_eq_true, Bool.or_eq_true, Bool.not_eq_true', Bool.not_eq_false', Bool.and_eq_false_iff, Bool.or_eq_false_iff, decide_eq_true_eq, decide_eq_false_iff_not, Decidable.not_not, ne_eq] at hc3
      refine jd_exit rfl (pd_seq_exit (pd_loop_exit (pd_block_exit (pd_seq (jd_seq [T', T', F'] [T', T', T'] rfl rfl rfl (jd_region rfl (od_pu rfl rfl (p_move rfl) (od_pu rfl rfl (p_len (n := l.length) rfl Try.runUnderlying32 (by simp only [List.length_map, List.length_cons, List.length_nil])) (od_pu rfl rfl (p_leq rfl rfl rfl) (od_pu rfl rfl (p_assign rfl) (od_nil rfl (pd_seq (jd_ret rfl ?_)))))))))))))
      exact pd_retH Try.results34 (.cons (ro_cv (ro_tmp rfl) (Cv.eq (congrArg (fun b => D.v (.bool b)) (by first | rw [lightL_bad hk (by omega) (by omega)] | (rw [lightL_end hf (by omega)]; exact decide_eq_decide.2 (by omega)))))) .nil) rfl HSub.none ⟨rfl, rfl⟩

set_option maxHeartbeats 4000000 in
set_option maxRecDepth 100000 in
theorem Light10_c (l : List RowD)  :
    CD Try.prog 17 [] [.sh 2 (l.map RowD.d)] (isR (dB (lightR l))) := by
  refine cd_of_JD Try.func17 rfl (N := 24) rfl rfl (fun C => ?_)
  refine JD.keep [0] [(0, .sh 2 (l.map RowD.d))] rfl ?_
  refine JD.bd 0 rfl (fun bd0 => ?_)
  have nl0 := bd_len bd0
  refine jd_seq [F'] [T'] rfl rfl rfl (jd_region rfl (od_pu rfl rfl (p_assign rfl) (od_nil rfl (pd_seq (jd_seq [T', F'] [T', T'] rfl rfl rfl (jd_seq [T', F', F'] [T', F', T'] rfl rfl rfl (jd_region rfl (od_pu rfl rfl (p_assign rfl) (od_nil rfl (pd_seq (jd_block [T', F', T', F'] rfl rfl (jd_loop (fun (g : Nat) => [(0, .sh 2 (l.map RowD.d)), (3, dN g)]) (fun (g : Nat) => []) (fun (g : Nat) => (g ≤ l.length ∧ g ≤ 100) ∧ ((l.take g).all (fun r => lightL r.ls) = true)) (fun (g : Nat) => l.length - g) [T', F', T', F', F'] 0 rfl rfl ⟨sk rfl, sk rfl, trivial⟩ HSub.rfl' ⟨⟨Nat.zero_le _, Nat.zero_le _⟩, by simp⟩ ?_))))))))))))
  rintro k ⟨hk, hf⟩
  refine JD.keep [0, 3] [(0, .sh 2 (l.map RowD.d)), (3, dN k)] rfl (JD.norm [] rfl (jd_seq [T', F', T', F', F', F'] [T', F', T', F', F', T'] rfl rfl rfl (jd_seq [T', F', T', F', F', F', F'] [T', F', T', F', F', F', T'] rfl rfl rfl (JD.keep [0, 3] [(0, .sh 2 (l.map RowD.d)), (3, dN k)] rfl ?_))))
  refine jd_sum 11 ((decide (((k : Nat) : Int) < ((l.length : Nat) : Int)) && decide (((k : Nat) : Int) < (100 : Int)))) [] (fun _ hQ1 => ?_) ?_
  · skip
    by_cases hg2 : ((k : Nat) : Int) < ((l.length : Nat) : Int)
    · skip
      refine jd_region rfl (od_pu rfl rfl (p_move rfl) (od_pu rfl rfl (p_move rfl) (od_pu rfl rfl (p_len (n := l.length) rfl Try.runUnderlying27 (by simp only [List.length_map, List.length_cons, List.length_nil])) (od_pu rfl rfl (p_lss rfl rfl (decide_eq_true hg2)) (od_pu rfl rfl (p_move rfl) (od_runp rfl rfl rfl rfl rfl (p_move rfl) (od_runp rfl rfl rfl rfl rfl (p_lss rfl rfl rfl) (od_pu rfl rfl (p_pick_t rfl rfl) (od_nil rfl ?_)))))))))
      exact PD.sub ((11, dB (decide (((k : Nat) : Int) < ((l.length : Nat) : Int)) && decide (((k : Nat) : Int) < (100 : Int)))) :: [(0, .sh 2 (l.map RowD.d)), (3, dN k)]) ⟨sc rfl (Cv.eq (congrArg (fun b => D.v (.bool b)) (by first | (simp [hg2]; done) | (simp_all; done)))), sk rfl, sk rfl, trivial⟩ hQ1
    · skip
      refine jd_region rfl (od_pu rfl rfl (p_move rfl) (od_pu rfl rfl (p_move rfl) (od_pu rfl rfl (p_len (n := l.length) rfl Try.runUnderlying27 (by simp only [List.length_map, List.length_cons, List.length_nil])) (od_pu rfl rfl (p_lss rfl rfl (decide_eq_false hg2)) (od_pu rfl rfl (p_move rfl) (od_skip rfl rfl rfl rfl rfl (by decide) (od_skip rfl rfl rfl rfl rfl (by decide) (od_pu rfl rfl (p_pick_f rfl rfl) (od_nil rfl ?_)))))))))
      exact PD.sub ((11, dB (decide (((k : Nat) : Int) < ((l.length : Nat) : Int)) && decide (((k : Nat) : Int) < (100 : Int)))) :: [(0, .sh 2 (l.map RowD.d)), (3, dN k)]) ⟨sc rfl (Cv.eq (congrArg (fun b => D.v (.bool b)) (by first | (simp [hg2]; done) | (simp_all; done)))), sk rfl, sk rfl, trivial⟩ hQ1
  · skip
    refine pd_seq ?_
    refine jd_cond [T', F', T', F', F', F', T', F'] [T', F', T', F', F', F', T', T'] rfl rfl rfl rfl (fun hc3 => ?_) (fun hc3 => ?_)
    · simp only [Bool.and_eq_true, Bool.or_eq_true, Bool.not_eq_true', Bool.not_eq_false', Bool.and_eq_false_iff, Bool.or_eq_false_iff, decide_eq_true_eq, decide_eq_false_iff_not, Decidable.not_not, ne_eq] at hc3
      refine jd_skip rfl (pd_seq (jd_seq [T', F', T', F', F', T', F'] [T', F', T', F', F', T', T'] rfl rfl rfl (jd_block [T', F', T', F', F', T', F', F'] rfl rfl (jd_seq [T', F', T', F', F', T', F', F', F'] [T', F', T', F', F', T', F', F', T'] rfl rfl rfl (jd_region rfl (od_pu rfl rfl (p_move rfl) (od_pu rfl rfl (p_move rfl) ?_)))))))
      obtain ⟨x1, hx1⟩ := get_some l k (by omega)
      refine od_pu rfl rfl (p_indexAddr (k := k) rfl rfl Try.runUnderlying27 Try.sizeOf34 (by first | rfl | omega) (get_map hx1)) (od_pu rfl rfl (p_fieldAddr_el rfl fa_34_0 rfl) (od_pu rfl rfl (p_load_el1 rfl Try.isAgg32 rfl) (od_step rfl rfl (ef_call [] _ [] rfl rfl (.cons ArgC.id .nil) lend_nil Try.call34 (Light2_c x1.ls) (.inl rfl)) ?_)))
      rintro _ _ ⟨_, ⟨rfl, rfl⟩, rfl⟩
      refine OpsD.norm [] rfl (od_pu rfl rfl (p_not rfl) (od_nil rfl (pd_seq ?_)))
      refine jd_cond [T', F', T', F', F', T', F', F', T', F'] [T', F', T', F', F', T', F', F', T', T'] rfl rfl rfl rfl (fun hc4 => ?_) (fun hc4 => ?_)
      · simp only [Bool.and_eq_true, Bool.or_eq_true, Bool.not_eq_true', Bool.not_eq_false', Bool.and_eq_false_iff, Bool.or_eq_false_iff, decide_eq_true_eq, decide_eq_false_iff_not, Decidable.not_not, ne_eq] at hc4
        refine jd_seq [T', F', T', F', F', T', F', F', T', F', F'] [T', F', T', F', F', T', F', F', T', F', T'] rfl rfl rfl (jd_region rfl (od_pu rfl rfl (p_assign rfl) (od_nil rfl (pd_seq (jd_ret rfl (pd_block_ret (pd_seq_ret (pd_loop_ret (pd_block_ret (pd_seq_ret ?_))))))))))
        exact pd_retH Try.results17 (.cons (ro_cv (ro_tmp rfl) (Cv.eq (congrArg (fun b => D.v (.bool b)) (by first | rw [lightR_bad hx1 (by omega) (by simpa using hc4)] | (rw [lightR_end hf (by omega)]; exact decide_eq_decide.2 (by omega)))))) .nil) rfl HSub.none ⟨rfl, rfl⟩
      · simp only [Bool.and_eq_true, Bool.or_eq_true, Bool.not_eq_true', Bool.not_eq_false', Bool.and_eq_false_iff, Bool.or_eq_false_iff, decide_eq_true_eq, decide_eq_false_iff_not, Decidable.not_not, ne_eq] at hc4
        refine jd_skip rfl (pd_block (pd_seq (jd_region rfl (od_pu rfl rfl (p_move rfl) (od_pu rfl rfl (p_add (c := ((k + 1 : Nat) : Int)) rfl rfl (w64eq (by omega) (by omega))) (od_pu rfl rfl (p_assign rfl) (od_nil rfl ?_)))))))
        exact pd_loop (k + 1) ⟨sk rfl, sk rfl, trivial⟩ HSub.rfl' ⟨by omega, all_take_snoc hx1 hf (by simpa using hc4)⟩ (by omega)
    · simp only [Bool.and_eq_true, Bool.or_eq_true, Bool.not_eq_true', Bool.not_eq_false', Bool.and_eq_false_iff, Bool.or_eq_false_iff, decide_eq_true_eq, decide_eq_false_iff_not, Decidable.not_not, ne_eq] at hc3
      refine jd_exit rfl (pd_seq_exit (pd_loop_exit (pd_block_exit (pd_seq (jd_seq [T', T', F'] [T', T', T'] rfl rfl rfl (jd_region rfl (od_pu rfl rfl (p_move rfl) (od_pu rfl rfl (p_len (n := l.length) rfl Try.runUnderlying27 (by simp only [List.length_map, List.length_cons, List.length_nil])) (od_pu rfl rfl (p_leq rfl rfl rfl) (od_pu rfl rfl (p_assign rfl) (od_nil rfl (pd_seq (jd_ret rfl ?_)))))))))))))
      exact pd_retH Try.results17 (.cons (ro_cv (ro_tmp rfl) (Cv.eq (congrArg (fun b => D.v (.bool b)) (by first | rw [lightR_bad hk (by omega) (by simpa using hc4)] | (rw [lightR_end hf (by omega)]; exact decide_eq_decide.2 (by omega)))))) .nil) rfl HSub.none ⟨rfl, rfl⟩

set_option maxHeartbeats 4000000 in
set_option maxRecDepth 100000 in
theorem light17_c (l : List (List RowD))  :
    CD Try.prog 12 [] [.sh 1 (l.map (D.ls 2 RowD.d))] (isR (dB (lightLL l))) := by
  refine cd_of_JD Try.func12 rfl (N := 35) rfl rfl (fun C => ?_)
  refine JD.keep [0] [(0, .sh 1 (l.map (D.ls 2 RowD.d)))] rfl ?_
  refine JD.bd 0 rfl (fun bd0 => ?_)
  have nl0 := bd_len bd0
  refine jd_seq [F'] [T'] rfl rfl rfl (jd_region rfl (od_pu rfl rfl (p_assign rfl) (od_nil rfl (pd_seq (jd_seq [T', F'] [T', T'] rfl rfl rfl (jd_region rfl (od_pu rfl rfl (p_assign rfl) (od_nil rfl (pd_seq (jd_seq [T', T', F'] [T', T', T'] rfl rfl rfl (jd_seq [T', T', F', F'] [T', T', F', T'] rfl rfl rfl (jd_region rfl (od_pu rfl rfl (p_assign rfl) (od_nil rfl (pd_seq (jd_block [T', T', F', T', F'] rfl rfl (jd_loop (fun (g : Nat) => [(0, .sh 1 (l.map (D.ls 2 RowD.d))), (4, dN g), (3, dN (totalR (l.take g)))]) (fun (g : Nat) => []) (fun (g : Nat) => (g ≤ l.length ∧ g ≤ 30) ∧ ((l.take g).all lightR = true) ∧ (totalR (l.take g) ≤ g * 60)) (fun (g : Nat) => l.length - g) [T', T', F', T', F', F'] 0 rfl rfl ⟨sk rfl, sk rfl, sc rfl (Cv.eq (by simp [totalR])), trivial⟩ HSub.rfl' ⟨⟨Nat.zero_le _, Nat.zero_le _⟩, by simp, by simp [totalR]⟩ ?_)))))))))))))))))
  rintro k ⟨hk, hf, hn⟩
  refine JD.keep [0, 4, 3] [(0, .sh 1 (l.map (D.ls 2 RowD.d))), (4, dN k), (3, dN (totalR (l.take k)))] rfl (JD.norm [] rfl (jd_seq [T', T', F', T', F', F', F'] [T', T', F', T', F', F', T'] rfl rfl rfl (jd_seq [T', T', F', T', F', F', F', F'] [T', T', F', T', F', F', F', T'] rfl rfl rfl (JD.keep [0, 3, 4] [(0, .sh 1 (l.map (D.ls 2 RowD.d))), (3, dN (totalR (l.take k))), (4, dN k)] rfl ?_))))
  refine jd_sum 12 ((decide (((k : Nat) : Int) < ((l.length : Nat) : Int)) && decide (((k : Nat) : Int) < (30 : Int)))) [] (fun _ hQ1 => ?_) ?_
  · skip
    by_cases hg2 : ((k : Nat) : Int) < ((l.length : Nat) : Int)
    · skip
      refine jd_region rfl (od_pu rfl rfl (p_move rfl) (od_pu rfl rfl (p_move rfl) (od_pu rfl rfl (p_len (n := l.length) rfl Try.runUnderlying22 (by simp only [List.length_map, List.length_cons, List.length_nil])) (od_pu rfl rfl (p_lss rfl rfl (decide_eq_true hg2)) (od_pu rfl rfl (p_move rfl) (od_runp rfl rfl rfl rfl rfl (p_move rfl) (od_runp rfl rfl rfl rfl rfl (p_lss rfl rfl rfl) (od_pu rfl rfl (p_pick_t rfl rfl) (od_nil rfl ?_)))))))))
      exact PD.sub ((12, dB (decide (((k : Nat) : Int) < ((l.length : Nat) : Int)) && decide (((k : Nat) : Int) < (30 : Int)))) :: [(0, .sh 1 (l.map (D.ls 2 RowD.d))), (3, dN (totalR (l.take k))), (4, dN k)]) ⟨sc rfl (Cv.eq (congrArg (fun b => D.v (.bool b)) (by first | (simp [hg2]; done) | (simp_all; done)))), sk rfl, sk rfl, sk rfl, trivial⟩ hQ1
    · skip
      refine jd_region rfl (od_pu rfl rfl (p_move rfl) (od_pu rfl rfl (p_move rfl) (od_pu rfl rfl (p_len (n := l.length) rfl Try.runUnderlying22 (by simp only [List.length_map, List.length_cons, List.length_nil])) (od_pu rfl rfl (p_lss rfl rfl (decide_eq_false hg2)) (od_pu rfl rfl (p_move rfl) (od_skip rfl rfl rfl rfl rfl (by decide) (od_skip rfl rfl rfl rfl rfl (by decide) (od_pu rfl rfl (p_pick_f rfl rfl) (od_nil rfl ?_)))))))))
      exact PD.sub ((12, dB (decide (((k : Nat) : Int) < ((l.length : Nat) : Int)) && decide (((k : Nat) : Int) < (30 : Int)))) :: [(0, .sh 1 (l.map (D.ls 2 RowD.d))), (3, dN (totalR (l.take k))), (4, dN k)]) ⟨sc rfl (Cv.eq (congrArg (fun b => D.v (.bool b)) (by first | (simp [hg2]; done) | (simp_all; done)))), sk rfl, sk rfl, sk rfl, trivial⟩ hQ1
  · skip
    refine pd_seq ?_
    refine jd_cond [T', T', F', T', F', F', F', T', F'] [T', T', F', T', F', F', F', T', T'] rfl rfl rfl rfl (fun hc3 => ?_) (fun hc3 => ?_)
    · simp only [Bool.and_eq_true, Bool.or_eq_true, Bool.not_eq_true', Bool.not_eq_false', Bool.and_eq_false_iff, Bool.or_eq_false_iff, decide_eq_true_eq, decide_eq_false_iff_not, Decidable.not_not, ne_eq] at hc3
      refine jd_skip rfl (pd_seq (jd_seq [T', T', F', T', F', F', T', F'] [T', T', F', T', F', F', T', T'] rfl rfl rfl (jd_block [T', T', F', T', F', F', T', F', F'] rfl rfl (jd_seq [T', T', F', T', F', F', T', F', F', F'] [T', T', F', T', F', F', T', F', F', T'] rfl rfl rfl (jd_seq [T', T', F', T', F', F', T', F', F', F', F'] [T', T', F', T', F', F', T', F', F', F', T'] rfl rfl rfl (jd_region rfl (od_pu rfl rfl (p_move rfl) (od_pu rfl rfl (p_move rfl) ?_))))))))
      obtain ⟨x1, hx1⟩ := get_some l k (by omega)
      refine od_pu rfl rfl (p_indexAddr (k := k) rfl rfl Try.runUnderlying22 Try.sizeOf27 (by first | rfl | omega) (get_map (f := (D.ls 2 RowD.d)) hx1)) (od_pu rfl rfl (p_load_el1 rfl Try.isAgg27 rfl) (od_step rfl rfl (ef_call [] _ [] rfl rfl (.cons ArgC.id .nil) lend_nil Try.call17 (Light10_c x1) (.inl rfl)) ?_))
      rintro _ _ ⟨_, ⟨rfl, rfl⟩, rfl⟩
      refine OpsD.norm [] rfl (od_pu rfl rfl (p_not rfl) (od_nil rfl (pd_seq ?_)))
      refine jd_cond [T', T', F', T', F', F', T', F', F', F', T', F'] [T', T', F', T', F', F', T', F', F', F', T', T'] rfl rfl rfl rfl (fun hc4 => ?_) (fun hc4 => ?_)
      · simp only [Bool.and_eq_true, Bool.or_eq_true, Bool.not_eq_true', Bool.not_eq_false', Bool.and_eq_false_iff, Bool.or_eq_false_iff, decide_eq_true_eq, decide_eq_false_iff_not, Decidable.not_not, ne_eq] at hc4
        refine jd_seq [T', T', F', T', F', F', T', F', F', F', T', F', F'] [T', T', F', T', F', F', T', F', F', F', T', F', T'] rfl rfl rfl (jd_region rfl (od_pu rfl rfl (p_assign rfl) (od_nil rfl (pd_seq (jd_ret rfl (pd_seq_ret (pd_block_ret (pd_seq_ret (pd_loop_ret (pd_block_ret (pd_seq_ret ?_)))))))))))
        exact pd_retH Try.results12 (.cons (ro_cv (ro_tmp rfl) (Cv.eq (congrArg (fun b => D.v (.bool b)) (by first | rw [lightLL_bad hx1 (by omega) (by simpa using hc4)] | (rw [lightLL_end hf (by omega) (by omega)]; congr 1 <;> exact decide_eq_decide.2 (by omega)))))) .nil) rfl HSub.none ⟨rfl, rfl⟩
      · simp only [Bool.and_eq_true, Bool.or_eq_true, Bool.not_eq_true', Bool.not_eq_false', Bool.and_eq_false_iff, Bool.or_eq_false_iff, decide_eq_true_eq, decide_eq_false_iff_not, Decidable.not_not, ne_eq] at hc4
        have nl := lightR_len (by simpa using hc4)
        refine jd_skip rfl (pd_seq (jd_region rfl (od_pu rfl rfl (p_move rfl) (od_pu rfl rfl (p_move rfl) (od_pu rfl rfl (p_move rfl) (od_pu rfl rfl (p_indexAddr (k := k) rfl rfl Try.runUnderlying22 Try.sizeOf27 (by first | rfl | omega) (get_map (f := (D.ls 2 RowD.d)) hx1)) (od_pu rfl rfl (p_load_el1 rfl Try.isAgg27 rfl) (od_pu rfl rfl (p_len (n := x1.length) rfl Try.runUnderlying27 (by simp only [List.length_map, List.length_cons, List.length_nil])) (od_pu rfl rfl (p_add (c := (((totalR (l.take k)) + x1.length : Nat) : Int)) rfl rfl (w64eq (by omega) (by omega))) (od_pu rfl rfl (p_assign rfl) (od_nil rfl (pd_block (pd_seq (jd_region rfl (od_pu rfl rfl (p_move rfl) (od_pu rfl rfl (p_add (c := ((k + 1 : Nat) : Int)) rfl rfl (w64eq (by omega) (by omega))) (od_pu rfl rfl (p_assign rfl) (od_nil rfl ?_))))))))))))))))))
        exact pd_loop (k + 1) ⟨sk rfl, sk rfl, sc rfl (Cv.eq (congrArg (fun n => D.v (.int .i64 n)) (by rw [take_snoc hx1, totalR_snoc]))), trivial⟩ HSub.rfl' ⟨by omega, all_take_snoc hx1 hf (by simpa using hc4), by rw [take_snoc hx1, totalR_snoc]; omega⟩ (by omega)
    · simp only [Bool.and_eq_true, Bool.or_eq_true, Bool.not_eq_true', Bool.not_eq_false', Bool.and_eq_false_iff, Bool.or_eq_false_iff, decide_eq_true_eq, decide_eq_false_iff_not, Decidable.not_not, ne_eq] at hc3
      refine jd_exit rfl (pd_seq_exit (pd_loop_exit (pd_block_exit (pd_seq (jd_seq [T', T', T', F'] [T', T', T', T'] rfl rfl rfl (JD.keep [0, 3] [(0, .sh 1 (l.map (D.ls 2 RowD.d))), (3, dN (totalR (l.take k)))] rfl ?_))))))
      refine jd_sum 2 ((decide (((l.length : Nat) : Int) ≤ (20 : Int)) && decide (((totalR (l.take k) : Nat) : Int) ≤ (200 : Int)))) [] (fun _ hQ5 => ?_) ?_
      · skip
        by_cases hg6 : ((l.length : Nat) : Int) ≤ (20 : Int)
        · skip
          refine jd_region rfl (od_pu rfl rfl (p_move rfl) (od_pu rfl rfl (p_len (n := l.length) rfl Try.runUnderlying22 (by simp only [List.length_map, List.length_cons, List.length_nil])) (od_pu rfl rfl (p_leq rfl rfl (decide_eq_true hg6)) (od_pu rfl rfl (p_move rfl) (od_runp rfl rfl rfl rfl rfl (p_move rfl) (od_runp rfl rfl rfl rfl rfl (p_leq rfl rfl rfl) (od_pu rfl rfl (p_pick_t rfl rfl) (od_pu rfl rfl (p_assign rfl) (od_nil rfl ?_)))))))))
          exact PD.sub ((2, dB (decide (((l.length : Nat) : Int) ≤ (20 : Int)) && decide (((totalR (l.take k) : Nat) : Int) ≤ (200 : Int)))) :: [(0, .sh 1 (l.map (D.ls 2 RowD.d))), (3, dN (totalR (l.take k)))]) ⟨sc rfl (Cv.eq (congrArg (fun b => D.v (.bool b)) (by first | (simp [hg6]; done) | (simp_all; done)))), sk rfl, sk rfl, trivial⟩ hQ5
        · skip
          refine jd_region rfl (od_pu rfl rfl (p_move rfl) (od_pu rfl rfl (p_len (n := l.length) rfl Try.runUnderlying22 (by simp only [List.length_map, List.length_cons, List.length_nil])) (od_pu rfl rfl (p_leq rfl rfl (decide_eq_false hg6)) (od_pu rfl rfl (p_move rfl) (od_skip rfl rfl rfl rfl rfl (by decide) (od_skip rfl rfl rfl rfl rfl (by decide) (od_pu rfl rfl (p_pick_f rfl rfl) (od_pu rfl rfl (p_assign rfl) (od_nil rfl ?_)))))))))
          exact PD.sub ((2, dB (decide (((l.length : Nat) : Int) ≤ (20 : Int)) && decide (((totalR (l.take k) : Nat) : Int) ≤ (200 : Int)))) :: [(0, .sh 1 (l.map (D.ls 2 RowD.d))), (3, dN (totalR (l.take k)))]) ⟨sc rfl (Cv.eq (congrArg (fun b => D.v (.bool b)) (by first | (simp [hg6]; done) | (simp_all; done)))), sk rfl, sk rfl, trivial⟩ hQ5
      · skip
        refine pd_seq (jd_ret rfl ?_)
        exact pd_retH Try.results12 (.cons (ro_cv (ro_tmp rfl) (Cv.eq (congrArg (fun b => D.v (.bool b)) (by first | rw [lightLL_bad hk (by omega) (by simpa using hc4)] | (rw [lightLL_end hf (by omega) (by omega)]; congr 1 <;> exact decide_eq_decide.2 (by omega)))))) .nil) rfl HSub.none ⟨rfl, rfl⟩
end Lp
