/- Walks, printed by a program of mine (wip/tools/dw.py): each theorem says what a function of the translation hands back. -/
import Derived.Test.YtjhkajkickngmaaPLent
set_option linter.unusedSimpArgs false
set_option linter.unusedVariables false
namespace Lp
open Go Go.RowKit Go.Proofs

namespace HdV24
theorem bd_34 : ∀ w, ((#[⟨"Labels", 32, 0, false, "", "", 0⟩, ⟨"V", 3, 1, false, "", "", 24⟩] : Array Field).mapM fun f => do pure (f.offset, ← Go.sizeOf f.type) : Sem (Array (Nat × Nat))).run Try.prog w = .ok ([(0, 1), (1, 1)] : List (Nat × Nat)).toArray w := fun _ => by kernel_rfl
theorem fa_34_0 (b o : Nat) : ∀ w, (Instr.fieldAt 34 (.pointer (some ⟨b, o, none⟩)) 0).run Try.prog w = .ok (.pointer (some ⟨b, o + 0, none⟩)) w := fun _ => by kernel_rfl
theorem fa_34_1 (b o : Nat) : ∀ w, (Instr.fieldAt 34 (.pointer (some ⟨b, o, none⟩)) 1).run Try.prog w = .ok (.pointer (some ⟨b, o + 1, none⟩)) w := fun _ => by kernel_rfl
theorem infz_34 : ∃ i, Try.prog.info? 34 = some i ∧ i.zero = some (.agg #[(.slice none 0 0), (.int .i64 0)]) ∧ i.size = 2 ∧ i.bytes = 32 := infz_of (by kernel_rfl)
theorem infz_74 : ∃ i, Try.prog.info? 74 = some i ∧ i.zero = some (.agg #[(.string ByteArray.empty), (.string ByteArray.empty)]) ∧ i.size = 2 ∧ i.bytes = 32 := infz_of (by kernel_rfl)
theorem und_27 : Try.prog.underlying 27 = some (.slice 34) := by kernel_rfl
theorem und_32 : Try.prog.underlying 32 = some (.slice 74) := by kernel_rfl
end HdV24
open HdV24

set_option maxHeartbeats 4000000 in
set_option maxRecDepth 100000 in
theorem copyLabels_c (l : List Lbl) (hl : l.length ≤ 1000000) :
    CD Try.prog 109 [] [.sh 2 (l.map Lbl.d)] (isOwn 2 74 (l.map Lbl.d)) := by
  refine cd_of_JD Try.func109 rfl (N := 5) rfl rfl (fun C => ?_)
  refine JD.keep [0] [(0, .sh 2 (l.map Lbl.d))] rfl ?_
  refine JD.bd 0 rfl (fun bd0 => ?_)
  have nl0 := bd_len bd0
  refine jd_seq [F'] [T'] rfl rfl rfl (jd_region rfl (od_pu rfl rfl (p_assign rfl) (od_nil rfl (pd_seq (jd_seq [T', F'] [T', T'] rfl rfl rfl (jd_region rfl (od_pu rfl rfl (p_move rfl) (od_step rfl rfl (ef_append_n (f := Lbl.d) (l' := l) rfl rfl (SrcD.sh) und_32 infz_74 rfl rfl (by unfold maxLen; (try simp only [List.length_append, List.length_cons, List.length_nil, List.length_map, List.length_take, List.length_drop, List.length_set, List.length_replicate]); omega) (by (try simp only [List.length_append, List.length_cons, List.length_nil, List.length_map, List.length_take, List.length_drop, List.length_set, List.length_replicate]); omega)) ?_))))))))
  rintro _ _ ⟨v1, rfl, rfl⟩
  refine od_pu rfl rfl (p_assign rfl) (od_nil rfl (pd_seq (jd_ret rfl (PD.subH (HSub.less (sub_one (i := 0) rfl)) ?_))))
  exact pd_ret Try.results109 (.cons (ro_tmp rfl) .nil) rfl ⟨_, rfl, rfl⟩

set_option maxHeartbeats 4000000 in
set_option maxRecDepth 100000 in
theorem copyRows_c (l : List RowD) (hl : l.length ≤ 1000000) (hll : ∀ r ∈ l, r.ls.length ≤ 1000000) :
    CD Try.prog 47 [] [.sh 2 (l.map RowD.d)] (isOwn 2 34 (l.map RowD.d)) := by
  refine cd_of_JD Try.func47 rfl (N := 23) rfl rfl (fun C => ?_)
  refine JD.keep [0] [(0, .sh 2 (l.map RowD.d))] rfl ?_
  refine JD.bd 0 rfl (fun bd0 => ?_)
  have nl0 := bd_len bd0
  refine jd_seq [F'] [T'] rfl rfl rfl (jd_region rfl (od_pu rfl rfl (p_assign rfl) (od_nil rfl (pd_seq (jd_seq [T', F'] [T', T'] rfl rfl rfl (jd_region rfl (od_pu rfl rfl (p_move rfl) (od_step rfl rfl (ef_append_n (f := RowD.d) (l' := l) rfl rfl (SrcD.sh) und_27 infz_34 rfl rfl (by unfold maxLen; (try simp only [List.length_append, List.length_cons, List.length_nil, List.length_map, List.length_take, List.length_drop, List.length_set, List.length_replicate]); omega) (by (try simp only [List.length_append, List.length_cons, List.length_nil, List.length_map, List.length_take, List.length_drop, List.length_set, List.length_replicate]); omega)) ?_))))))))
  rintro _ _ ⟨v1, rfl, rfl⟩
  refine od_pu rfl rfl (p_assign rfl) (od_nil rfl (pd_seq (jd_seq [T', T', F'] [T', T', T'] rfl rfl rfl (jd_seq [T', T', F', F'] [T', T', F', T'] rfl rfl rfl (jd_region rfl (od_pu rfl rfl (p_assign rfl) (od_nil rfl (pd_seq (jd_block [T', T', F', T', F'] rfl rfl (jd_loop (fun (g : Nat) => [(0, .ov v1), (2, .v (.slice none 0 0)), (3, dN g)]) (fun (g : Nat) => [.sl v1 2 34 (l.map RowD.d)]) (fun (g : Nat) => True) (fun (g : Nat) => l.length - g) [T', T', F', T', F', F'] 0 rfl rfl ⟨sk rfl, sk rfl, sk rfl, trivial⟩ HSub.rfl' trivial ?_))))))))))
  rintro i _
  refine JD.keep [0, 2, 3] [(0, .ov v1), (2, .v (.slice none 0 0)), (3, dN i)] rfl (JD.norm [.sl v1 2 34 (l.map RowD.d)] rfl (jd_seq [T', T', F', T', F', F', F'] [T', T', F', T', F', F', T'] rfl rfl rfl (jd_seq [T', T', F', T', F', F', F', F'] [T', T', F', T', F', F', F', T'] rfl rfl rfl (jd_region rfl (od_pu rfl rfl (p_move rfl) (od_pu rfl rfl (p_move rfl) (od_pu rfl rfl (p_len_own (n := l.length) (j := 0) rfl rfl Try.runUnderlying27 (List.length_map _)) (od_pu rfl rfl (p_lss rfl rfl rfl) (od_nil rfl (pd_seq ?_))))))))))
  refine jd_cond [T', T', F', T', F', F', F', T', F'] [T', T', F', T', F', F', F', T', T'] rfl rfl rfl rfl (fun hc2 => ?_) (fun hc2 => ?_)
  · replace hc2 := of_decide_eq_true hc2
    refine jd_skip rfl (pd_seq (jd_seq [T', T', F', T', F', F', T', F'] [T', T', F', T', F', F', T', T'] rfl rfl rfl (jd_block [T', T', F', T', F', F', T', F', F'] rfl rfl (jd_region rfl (od_pu rfl rfl (p_move rfl) (od_pu rfl rfl (p_move rfl) (od_pu rfl rfl (p_move rfl) (od_pu rfl rfl (p_move rfl) ?_))))))))
    obtain ⟨x1, hx1⟩ := get_some l i (by omega)
    refine od_pu rfl rfl (p_indexAddr_sl (k := i) (j := 0) rfl rfl rfl Try.runUnderlying27 Try.sizeOf34 (by first | rfl | omega) (get_map hx1)) (od_pu rfl rfl (p_fieldAddr rfl fa_34_0 rfl) (od_pu rfl rfl (p_load_sl1 rfl (i := 0) rfl (get_map hx1) Try.isAgg32 rfl) (od_step rfl rfl (ef_call [] _ [] rfl rfl (.cons ArgC.id .nil) lend_nil Try.call109 (copyLabels_c x1.ls (hll x1 (mem_get hx1))) (.inl rfl)) ?_)))
    rintro _ _ ⟨_, ⟨v3, rfl, rfl⟩, rfl⟩
    refine OpsD.norm [.sl v3 2 74 (x1.ls.map Lbl.d), .sl v1 2 34 (l.map RowD.d)] rfl (od_pu rfl rfl (p_indexAddr_sl (k := i) (j := 1) rfl rfl rfl Try.runUnderlying27 Try.sizeOf34 (by first | rfl | omega) (get_map hx1)) (od_pu rfl rfl (p_fieldAddr rfl fa_34_0 rfl) (OpsD.mv (Mv.freeze (K' := [(0, .ov v1), (2, .v (.slice none 0 0)), (3, dN i), (6, dN i), (7, .ov v1), (8, dN l.length), (9, dB (decide (((i : Nat) : Int) < ((l.length : Nat) : Int)))), (12, .ov v1), (13, dN i), (14, .ov v1), (15, dN i), (16, .v (.pointer (some ⟨bl v1, i * 2 + 0, none⟩))), (17, .v (.pointer (some ⟨bl v1, i * 2 + 0, none⟩))), (18, .sh 2 (x1.ls.map Lbl.d)), (19, .sh 2 (x1.ls.map Lbl.d)), (20, .v (.pointer (some ⟨bl v1, i * 2 + 0, none⟩))), (21, .v (.pointer (some ⟨bl v1, i * 2 + 0, none⟩)))]) [.sl v3 2 74 (x1.ls.map Lbl.d)] (H1 := [.sl v1 2 34 (l.map RowD.d)]) (H1' := [.sl v1 2 34 (l.map RowD.d)]) ⟨⟨_, rfl, ArgC.id⟩, ⟨_, rfl, ArgC.id⟩, ⟨_, rfl, ArgC.id⟩, ⟨_, rfl, ArgC.id⟩, ⟨_, rfl, ArgC.id⟩, ⟨_, rfl, ArgC.id⟩, ⟨_, rfl, ArgC.id⟩, ⟨_, rfl, ArgC.id⟩, ⟨_, rfl, ArgC.id⟩, ⟨_, rfl, ArgC.id⟩, ⟨_, rfl, ArgC.id⟩, ⟨_, rfl, ArgC.id⟩, ⟨_, rfl, ArgC.id⟩, ⟨_, rfl, ArgC.id⟩, ⟨_, rfl, ArgC.own (j := 0) rfl rfl⟩, ⟨_, rfl, ArgC.id⟩, ⟨_, rfl, ArgC.id⟩, trivial⟩ (.same .nil)) ?_)))
    refine od_step rfl rfl (ef_store_m (f := RowD.d) (k := i) (z := 2) (o := 0) (i := 0) (a' := x1) rfl rfl hx1 rfl (CellD.sh) Try.sizeOf32 rfl rfl rfl) ?_
    rintro _ _ ⟨rfl, rfl⟩
    refine OpsD.norm [.sl v1 2 34 ((l.set i x1).map RowD.d)] rfl (od_nil rfl (pd_block (pd_seq (jd_region rfl (od_pu rfl rfl (p_move rfl) (od_pu rfl rfl (p_add (c := ((i + 1 : Nat) : Int)) rfl rfl (w64eq (by omega) (by omega))) (od_pu rfl rfl (p_assign rfl) (od_nil rfl (PD.norm [.sl v1 2 34 ((l.set i x1).map RowD.d)] rfl (PD.norm [.sl v1 2 34 (l.map RowD.d)] (by rw [set_same hx1]) ?_))))))))))
    exact pd_loop (i + 1) ⟨sk rfl, sk rfl, sk rfl, trivial⟩ HSub.rfl' trivial (by omega)
  · replace hc2 := of_decide_eq_false hc2
    refine jd_exit rfl (pd_seq_exit (pd_loop_exit (pd_block_exit (pd_seq (jd_seq [T', T', T', F'] [T', T', T', T'] rfl rfl rfl (jd_region rfl (od_pu rfl rfl (p_move rfl) (od_pu rfl rfl (p_assign rfl) (od_nil rfl (pd_seq (jd_ret rfl (PD.subH (HSub.less (sub_one (i := 0) rfl)) ?_))))))))))))
    exact pd_ret Try.results47 (.cons (ro_tmp rfl) .nil) rfl ⟨_, rfl, rfl⟩

set_option maxHeartbeats 4000000 in
set_option maxRecDepth 100000 in
theorem lentRows_c (l : List RowD) (hl : l.length ≤ 1000000) (hll : ∀ r ∈ l, r.ls.length ≤ 1000000) :
    CD Try.prog 19 [] [.sh 2 (l.map RowD.d)] (isR (dLent l)) := by
  refine cd_of_JD Try.func19 rfl (N := 11) rfl rfl (fun C => ?_)
  refine JD.keep [0] [(0, .sh 2 (l.map RowD.d))] rfl ?_
  refine JD.bd 0 rfl (fun bd0 => ?_)
  have nl0 := bd_len bd0
  refine jd_seq [F'] [T'] rfl rfl rfl (jd_region rfl (od_pu rfl rfl (p_assign rfl) (od_nil rfl (pd_seq (jd_seq [T', F'] [T', T'] rfl rfl rfl (jd_region rfl (od_pu rfl rfl (p_move rfl) (od_step rfl rfl (ef_call [] _ [] rfl rfl (.cons ArgC.id .nil) lend_nil Try.call47 (copyRows_c l (by omega) hll) (.inl rfl)) ?_))))))))
  rintro _ _ ⟨_, ⟨v1, rfl, rfl⟩, rfl⟩
  refine OpsD.norm [.sl v1 2 34 (l.map RowD.d)] rfl (od_pu rfl rfl (p_build [1] [.const (.int .i64 (-77))] (zv := (.agg #[(.slice none 0 0), (.int .i64 0)])) rfl rfl (.cons (CellD.v rfl) .nil) (Try.runUnderlying34) Try.zeroValue34 bd_34 ⟨rfl, rfl, trivial⟩ rfl) (od_step rfl rfl (ef_buildSlice [.tmp 5] rfl rfl (.cons CellD.agg .nil) rfl Try.runUnderlying27 Try.sizeOf34 Try.zeroValue34 rfl rfl rfl rfl) ?_))
  rintro _ _ ⟨g2, rfl, rfl⟩
  refine OpsD.subH (HSub.turn (h' := .sl (.slice (some ⟨g2, 0, none⟩) 1 1) 2 34 ([(RowD.mk [] (-77))].map RowD.d)) rfl (Hp.cvs_sl (.cons (Cv.agg (.cons (Cv.nil) (.cons Cv.rfl' .nil))) .nil))) (od_step rfl rfl (ef_append_m (f := RowD.d) (l := l) (l' := [(RowD.mk [] (-77))]) (i := 1) rfl rfl rfl (SrcD.own (j := 0) rfl rfl) und_27 infz_34 rfl rfl (by unfold maxLen; (try simp only [List.length_append, List.length_cons, List.length_nil, List.length_map, List.length_take, List.length_drop, List.length_set, List.length_replicate]); omega) (by (try simp only [List.length_append, List.length_cons, List.length_nil, List.length_map, List.length_take, List.length_drop, List.length_set, List.length_replicate]); omega)) ?_)
  rintro _ _ ⟨v3, rfl, rfl⟩
  refine OpsD.norm [.sl (.slice (some ⟨g2, 0, none⟩) 1 1) 2 34 ([(RowD.mk [] (-77))].map RowD.d), .sl v3 2 34 ((l ++ [(RowD.mk [] (-77))]).map RowD.d)] rfl (od_pu rfl rfl (p_move rfl) (od_pu rfl rfl (p_len (n := l.length) rfl Try.runUnderlying27 (by simp only [List.length_map, List.length_cons, List.length_nil])) (od_pu rfl rfl (p_slice_own (a := 0) (b := l.length) (j := 1) rfl rfl rfl rfl (by first | rfl | (show _ = _; (try simp only [List.length_map]); omega) | exact List.length_map _) (by first | rfl | (show _ = _; (try simp only [List.length_map]); omega) | exact List.length_map _) Try.runUnderlying27 Try.sizeOf34 (by omega) (by (try simp only [List.length_map, List.length_append, List.length_cons, List.length_nil]); first | omega | decide)) (od_pu rfl rfl (p_assign rfl) (od_nil rfl (pd_seq (JD.keep [2] [(2, .v (cut 2 v3 0 l.length))] rfl (jd_ret rfl (PD.subH (HSub.perm (perm_front (i := 1) rfl)) (PD.norm [.sl v3 2 34 ((l ++ [(RowD.mk [] (-77))]).map RowD.d), .sl (.slice (some ⟨g2, 0, none⟩) 1 1) 2 34 ([(RowD.mk [] (-77))].map RowD.d)] rfl (PD.subH (HSub.fst 1 rfl) (PD.norm [.sl v3 2 34 ((l ++ [(RowD.mk [] (-77))]).map RowD.d)] rfl (pd_mv_ret (Mv.freeze (K' := [(2, dLent l)]) [.sl v3 2 34 ((l ++ [(RowD.mk [] (-77))]).map RowD.d)] (H1 := []) (H1' := []) ⟨⟨_, rfl, ArgC.cutr (j := 0) rfl (by simp) (by simp)⟩, trivial⟩ .nil) ?_)))))))))))))
  exact pd_retH Try.results19 (.cons (ro_tmp rfl) .nil) rfl HSub.none ⟨rfl, rfl⟩

set_option maxHeartbeats 4000000 in
set_option maxRecDepth 100000 in
theorem staysRows_c (m was : List RowD) (hm : m.length ≤ 1000000) :
    CD Try.prog 26 [] [.shr 2 m.length ((m ++ [(RowD.mk [] (-77))]).map RowD.d), .sh 2 (was.map RowD.d)] (isR (dB (decide (m = was)))) := by
  refine cd_of_JD Try.func26 rfl (N := 21) rfl rfl (fun C => ?_)
  refine JD.keep [0, 1] [(0, .shr 2 m.length ((m ++ [(RowD.mk [] (-77))]).map RowD.d)), (1, .sh 2 (was.map RowD.d))] rfl ?_
  refine JD.bd 1 rfl (fun bd1 => ?_)
  have nl1 := bd_len bd1
  obtain ⟨y, hy, ey⟩ : ∃ y, (m ++ [(RowD.mk [] (-77))])[m.length]? = some y ∧ y = (RowD.mk [] (-77)) := ⟨_, by simp, rfl⟩
  refine jd_seq [F'] [T'] rfl rfl rfl (jd_region rfl (od_pu rfl rfl (p_assign rfl) (od_nil rfl (pd_seq (jd_seq [T', F'] [T', T'] rfl rfl rfl (JD.keep [0, 1] [(0, .shr 2 m.length ((m ++ [(RowD.mk [] (-77))]).map RowD.d)), (1, .sh 2 (was.map RowD.d))] rfl ?_))))))
  refine jd_sum 4 ((decide (m = was) && decide (y.v = ((-77) : Int)))) [] (fun _ hQ1 => ?_) ?_
  · skip
    rcases Bool.eq_false_or_eq_true (decide (m = was)) with hg2 | hg2
    · skip
      refine jd_region rfl (od_pu rfl rfl (p_move rfl) (od_pu rfl rfl (p_move rfl) (od_step rfl rfl (ef_call [] _ [] rfl rfl (.cons ArgC.lent (.cons ArgC.id .nil)) lend_nil Try.call15 (SameRows_c m was) (.inl rfl)) ?_)))
      rintro _ _ ⟨_, ⟨rfl, rfl⟩, rfl⟩
      refine OpsD.norm [] rfl (OpsD.sub ((7, dB true) :: [(0, .shr 2 m.length ((m ++ [(RowD.mk [] (-77))]).map RowD.d)), (1, .sh 2 (was.map RowD.d)), (5, .shr 2 m.length ((m ++ [(RowD.mk [] (-77))]).map RowD.d)), (6, .sh 2 (was.map RowD.d))]) ⟨se rfl (congrArg (fun b => D.v (.bool b)) hg2), sk rfl, sk rfl, sk rfl, sk rfl, trivial⟩ (od_pu rfl rfl (p_move rfl) (od_runp rfl rfl rfl rfl rfl (p_move rfl) (od_runp rfl rfl rfl rfl rfl (p_move rfl) (od_runp rfl rfl rfl rfl rfl (p_len_shr rfl Try.runUnderlying27) (od_runp rfl rfl rfl rfl rfl (p_add (c := ((m.length + 1 : Nat) : Int)) rfl rfl (w64eq (by omega) (by omega))) (od_runp rfl rfl rfl rfl rfl ((p_slice_shr (b := m.length + 1) rfl rfl (by first | rfl | (show _ = _; omega)) Try.runUnderlying27 Try.sizeOf34 (by simp) (by simp)).cv (Cv.eq lent_all)) (od_runp rfl rfl rfl rfl rfl (p_move rfl) (od_runp rfl rfl rfl rfl rfl (p_len_shr rfl Try.runUnderlying27) (od_runp rfl rfl rfl rfl rfl (p_indexAddr (k := m.length) rfl rfl Try.runUnderlying27 Try.sizeOf34 (by first | rfl | omega) (get_map hy)) (od_runp rfl rfl rfl rfl rfl (p_fieldAddr_el rfl fa_34_1 rfl) (od_runp rfl rfl rfl rfl rfl (p_load_el1 rfl Try.isAgg3 rfl) (od_runp rfl rfl rfl rfl rfl (p_eql rfl rfl rfl) (od_pu rfl rfl (p_pick_t rfl rfl) (od_pu rfl rfl (p_assign rfl) (od_nil rfl ?_))))))))))))))))
      exact PD.sub ((4, dB (decide (m = was) && decide (y.v = ((-77) : Int)))) :: [(0, .shr 2 m.length ((m ++ [(RowD.mk [] (-77))]).map RowD.d)), (1, .sh 2 (was.map RowD.d))]) ⟨sc rfl (Cv.eq (congrArg (fun b => D.v (.bool b)) (by first | (simp [hg2]; done) | (simp_all; done)))), sk rfl, sk rfl, trivial⟩ hQ1
    · skip
      refine jd_region rfl (od_pu rfl rfl (p_move rfl) (od_pu rfl rfl (p_move rfl) (od_step rfl rfl (ef_call [] _ [] rfl rfl (.cons ArgC.lent (.cons ArgC.id .nil)) lend_nil Try.call15 (SameRows_c m was) (.inl rfl)) ?_)))
      rintro _ _ ⟨_, ⟨rfl, rfl⟩, rfl⟩
      refine OpsD.norm [] rfl (OpsD.sub ((7, dB false) :: [(0, .shr 2 m.length ((m ++ [(RowD.mk [] (-77))]).map RowD.d)), (1, .sh 2 (was.map RowD.d)), (5, .shr 2 m.length ((m ++ [(RowD.mk [] (-77))]).map RowD.d)), (6, .sh 2 (was.map RowD.d))]) ⟨se rfl (congrArg (fun b => D.v (.bool b)) hg2), sk rfl, sk rfl, sk rfl, sk rfl, trivial⟩ (od_pu rfl rfl (p_move rfl) (od_skip rfl rfl rfl rfl rfl (by decide) (od_skip rfl rfl rfl rfl rfl (by decide) (od_skip rfl rfl rfl rfl rfl (by decide) (od_skip rfl rfl rfl rfl rfl (by decide) (od_skip rfl rfl rfl rfl rfl (by decide) (od_skip rfl rfl rfl rfl rfl (by decide) (od_skip rfl rfl rfl rfl rfl (by decide) (od_skip rfl rfl rfl rfl rfl (by decide) (od_skip rfl rfl rfl rfl rfl (by decide) (od_skip rfl rfl rfl rfl rfl (by decide) (od_skip rfl rfl rfl rfl rfl (by decide) (od_pu rfl rfl (p_pick_f rfl rfl) (od_pu rfl rfl (p_assign rfl) (od_nil rfl ?_))))))))))))))))
      exact PD.sub ((4, dB (decide (m = was) && decide (y.v = ((-77) : Int)))) :: [(0, .shr 2 m.length ((m ++ [(RowD.mk [] (-77))]).map RowD.d)), (1, .sh 2 (was.map RowD.d))]) ⟨sc rfl (Cv.eq (congrArg (fun b => D.v (.bool b)) (by first | (simp [hg2]; done) | (simp_all; done)))), sk rfl, sk rfl, trivial⟩ hQ1
  · skip
    refine pd_seq (jd_ret rfl ?_)
    exact pd_retH Try.results26 (.cons (ro_cv (ro_tmp rfl) (Cv.eq (congrArg (fun b => D.v (.bool b)) (by subst ey; simp)))) .nil) rfl HSub.none ⟨rfl, rfl⟩
end Lp
