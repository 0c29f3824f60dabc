/- Walks, printed by a program of mine (wip/tools/dw.py): each theorem says what a function of the translation hands back. -/
import Derived.Test.YtjhkajkickngmaaDL
set_option linter.unusedSimpArgs false
set_option linter.unusedVariables false
namespace Lp
open Go Go.RowKit Go.Proofs

namespace HdV16
theorem bd_163 : ∀ w, ((#[⟨"room", 3, 0, false, "", "leporello/purse", 0⟩, ⟨"now", 3, 1, false, "", "leporello/purse", 8⟩, ⟨"high", 3, 2, false, "", "leporello/purse", 16⟩] : Array Field).mapM fun f => do pure (f.offset, ← Go.sizeOf f.type) : Sem (Array (Nat × Nat))).run Try.prog w = .ok ([(0, 1), (1, 1), (2, 1)] : List (Nat × Nat)).toArray w := fun _ => by kernel_rfl
theorem eqp_108_eql (x y : Operand) (a : Addr) (w : World) : (do eqGuard .eql 108 x y (.pointer (some a)) (.pointer none); binOp .eql 108 (.pointer (some a)) (.pointer none) : Sem Value).run Try.prog w = .ok (.bool false) w := by kernel_rfl
theorem fa_163_0 (b o : Nat) : ∀ w, (Instr.fieldAt 163 (.pointer (some ⟨b, o, none⟩)) 0).run Try.prog w = .ok (.pointer (some ⟨b, o + 0, none⟩)) w := fun _ => by kernel_rfl
theorem fa_163_1 (b o : Nat) : ∀ w, (Instr.fieldAt 163 (.pointer (some ⟨b, o, none⟩)) 1).run Try.prog w = .ok (.pointer (some ⟨b, o + 1, none⟩)) w := fun _ => by kernel_rfl
theorem fa_163_2 (b o : Nat) : ∀ w, (Instr.fieldAt 163 (.pointer (some ⟨b, o, none⟩)) 2).run Try.prog w = .ok (.pointer (some ⟨b, o + 2, none⟩)) w := fun _ => by kernel_rfl
theorem fa_34_0 (b o : Nat) : ∀ w, (Instr.fieldAt 34 (.pointer (some ⟨b, o, none⟩)) 0).run Try.prog w = .ok (.pointer (some ⟨b, o + 0, none⟩)) w := fun _ => by kernel_rfl
theorem fa_74_0 (b o : Nat) : ∀ w, (Instr.fieldAt 74 (.pointer (some ⟨b, o, none⟩)) 0).run Try.prog w = .ok (.pointer (some ⟨b, o + 0, none⟩)) w := fun _ => by kernel_rfl
theorem fa_74_1 (b o : Nat) : ∀ w, (Instr.fieldAt 74 (.pointer (some ⟨b, o, none⟩)) 1).run Try.prog w = .ok (.pointer (some ⟨b, o + 1, none⟩)) w := fun _ => by kernel_rfl
end HdV16
open HdV16

set_option maxHeartbeats 4000000 in
set_option maxRecDepth 100000 in
theorem cost_c (r : RowD) (hr : lightL r.ls = true) :
    CD Try.prog 33 [] [RowD.d r] (isR (dI (costR r))) := by
  refine cd_of_JD Try.func33 rfl (N := 25) rfl rfl (fun C => ?_)
  refine JD.keep [0] [(0, RowD.d r)] rfl ?_
  refine JD.bd 0 rfl (fun bd0 => ?_)
  have hb0 := light_cost hr
  have hb9 := lightL_len hr
  refine jd_seq [F'] [T'] rfl rfl rfl (jd_region rfl (od_step rfl rfl (ef_box rfl (CellD.agg)) ?_))
  rintro _ _ ⟨g1, rfl, rfl⟩
  refine od_pu rfl rfl (p_assign rfl) (od_nil rfl (pd_seq (jd_seq [T', F'] [T', T'] rfl rfl rfl (jd_region rfl (od_pu rfl rfl (p_assign rfl) (od_nil rfl (pd_seq (jd_seq [T', T', F'] [T', T', T'] rfl rfl rfl (jd_seq [T', T', F', F'] [T', T', F', T'] rfl rfl rfl (jd_region rfl (od_pu rfl rfl (p_fieldAddr rfl fa_34_0 rfl) (od_pu rfl rfl (p_load_bx1 rfl (i := 0) rfl Try.isAgg32 rfl) (od_pu rfl rfl (p_len (n := r.ls.length) rfl Try.runUnderlying32 (by simp only [List.length_map, List.length_cons, List.length_nil])) (od_pu rfl rfl (p_move rfl) (od_nil rfl (pd_seq (jd_block [T', T', F', T', F'] rfl rfl (jd_loop (fun (g : Nat) => [(2, dI 0), (7, .sh 2 (r.ls.map Lbl.d)), (8, dN r.ls.length), (3, dI (16 + costL (r.ls.take g))), (9, dN g)]) (fun (g : Nat) => [.bx g1 34 (RowD.d r)]) (fun (g : Nat) => True) (fun (g : Nat) => r.ls.length - g) [T', T', F', T', F', F'] 0 rfl rfl ⟨sk rfl, sk rfl, sk rfl, sc rfl (Cv.eq (congrArg dI (by simp [costL]))), sk rfl, trivial⟩ HSub.rfl' trivial ?_))))))))))))))))))
  rintro k _
  refine JD.keep [2, 7, 8, 3, 9] [(2, dI 0), (7, .sh 2 (r.ls.map Lbl.d)), (8, dN r.ls.length), (3, dI (16 + costL (r.ls.take k))), (9, dN k)] rfl (JD.norm [.bx g1 34 (RowD.d r)] rfl ?_)
  have hb1 := costL_take_le r.ls k
  have hb3 := costL_nonneg (r.ls.take k)
  refine jd_seq [T', T', F', T', F', F', F'] [T', T', F', T', F', F', T'] rfl rfl rfl (jd_region rfl (od_pu rfl rfl (p_lss rfl rfl rfl) (od_nil rfl (pd_seq (jd_seq [T', T', F', T', F', F', T', F'] [T', T', F', T', F', F', T', T'] rfl rfl rfl ?_)))))
  refine jd_cond [T', T', F', T', F', F', T', F', F'] [T', T', F', T', F', F', T', F', T'] rfl rfl rfl rfl (fun hc2 => ?_) (fun hc2 => ?_)
  · replace hc2 := of_decide_eq_true hc2
    refine jd_skip rfl (pd_seq (jd_seq [T', T', F', T', F', F', T', T', F'] [T', T', F', T', F', F', T', T', T'] rfl rfl rfl (jd_block [T', T', F', T', F', F', T', T', F', F'] rfl rfl (jd_seq [T', T', F', T', F', F', T', T', F', F', F'] [T', T', F', T', F', F', T', T', F', F', T'] rfl rfl rfl (jd_region rfl ?_)))))
    obtain ⟨x1, hx1⟩ := get_some r.ls k (by omega)
    have hs1 := costL_snoc hx1
    have hb2 := costL_take_le r.ls (k + 1)
    refine od_pu rfl rfl (p_indexAddr (k := k) rfl rfl Try.runUnderlying32 Try.sizeOf74 (by first | rfl | omega) (get_map hx1)) (od_pu rfl rfl (p_load_el (d := Lbl.d x1) rfl Try.isAgg74 Try.sizeOf74 rfl rfl) (od_step rfl rfl (ef_alloc (zv := (.agg #[(.string ByteArray.empty), (.string ByteArray.empty)])) Try.zeroValue74 ⟨rfl, rfl, trivial⟩ (Cv.vagg (by decide))) ?_))
    rintro _ _ ⟨g3, rfl, rfl⟩
    refine od_step rfl rfl (ef_store_bx (i := 0) (X' := Lbl.d x1) rfl rfl rfl (CellD.agg) Try.sizeOf74 rfl rfl rfl) ?_
    rintro _ _ ⟨rfl, rfl⟩
    refine OpsD.norm [.bx g3 74 (Lbl.d x1), .bx g1 34 (RowD.d r)] rfl (od_nil rfl (pd_seq (jd_region rfl (od_pu rfl rfl (p_move rfl) (od_pu rfl rfl (p_fieldAddr rfl fa_74_0 rfl) (od_pu rfl rfl (p_load_bx1 rfl (i := 0) rfl Try.isAgg9 rfl) (od_pu rfl rfl (p_len_str rfl Try.runUnderlying9) (od_pu rfl rfl (p_add (c := ((8 + x1.n.size : Nat) : Int)) rfl rfl (w64eq (by omega) (by omega))) (od_pu rfl rfl (p_fieldAddr rfl fa_74_1 rfl) (od_pu rfl rfl (p_load_bx1 rfl (i := 0) rfl Try.isAgg9 rfl) (od_pu rfl rfl (p_len_str rfl Try.runUnderlying9) (od_pu rfl rfl (p_add (c := (((8 + x1.n.size) + x1.v.size : Nat) : Int)) rfl rfl (w64eq (by omega) (by omega))) (od_pu rfl rfl (p_add (c := ((16 + costL (r.ls.take k)) + (((8 + x1.n.size) + x1.v.size : Nat) : Int))) rfl rfl (w64eq (by omega) (by omega))) (od_pu rfl rfl (p_assign rfl) (od_nil rfl (pd_block (pd_seq (jd_region rfl (od_pu rfl rfl (p_add (c := ((k + 1 : Nat) : Int)) rfl rfl (w64eq (by omega) (by omega))) (od_pu rfl rfl (p_move rfl) (od_nil rfl ?_)))))))))))))))))))))
    exact pd_loop (k + 1) ⟨sk rfl, sk rfl, sk rfl, sc rfl (Cv.eq (congrArg dI (by rw [costL_snoc hx1]; omega))), sk rfl, trivial⟩ (HSub.lst 1 rfl) trivial (by omega)
  · replace hc2 := of_decide_eq_false hc2
    refine jd_exit rfl (pd_seq_exit (pd_loop_exit (pd_block_exit (pd_seq (jd_seq [T', T', T', F'] [T', T', T', T'] rfl rfl rfl (jd_region rfl (od_pu rfl rfl (p_move rfl) (od_pu rfl rfl (p_assign rfl) (od_nil rfl (pd_seq (jd_ret rfl ?_)))))))))))
    exact pd_retH Try.results33 (.cons (ro_cv (ro_tmp rfl) (Cv.eq (congrArg (fun n => D.v (.int .i64 n)) (by unfold costR; rw [List.take_of_length_le (by omega)])))) .nil) rfl HSub.none ⟨rfl, rfl⟩

set_option maxHeartbeats 4000000 in
set_option maxRecDepth 100000 in
theorem Least_c (fan : Int) (l : List RowD) (h0 : 0 ≤ fan) (h1 : fan ≤ 20) (hl : LightRs l) :
    CD Try.prog 31 [] [dI fan, .sh 2 (l.map RowD.d)] (isR (dI (fan * maxC l))) := by
  refine cd_of_JD Try.func31 rfl (N := 22) rfl rfl (fun C => ?_)
  refine JD.keep [0, 1] [(0, dI fan), (1, .sh 2 (l.map RowD.d))] rfl ?_
  refine JD.bd 1 rfl (fun bd1 => ?_)
  have nl1 := bd_len bd1
  refine jd_seq [F'] [T'] rfl rfl rfl (jd_region rfl (od_pu rfl rfl (p_assign rfl) (od_nil rfl (pd_seq (jd_seq [T', F'] [T', T'] rfl rfl rfl (jd_region rfl (od_pu rfl rfl (p_assign rfl) (od_nil rfl (pd_seq (jd_seq [T', T', F'] [T', T', T'] rfl rfl rfl (jd_seq [T', T', F', F'] [T', T', F', T'] rfl rfl rfl (jd_region rfl (od_pu rfl rfl (p_move rfl) (od_pu rfl rfl (p_len (n := l.length) rfl Try.runUnderlying27 (by simp only [List.length_map, List.length_cons, List.length_nil])) (od_pu rfl rfl (p_move rfl) (od_nil rfl (pd_seq (jd_block [T', T', F', T', F'] rfl rfl (jd_loop (fun (g : Nat) => [(0, dI fan), (4, dI 0), (8, .sh 2 (l.map RowD.d)), (9, dN l.length), (5, dI (maxC (l.take g))), (10, dN g)]) (fun (g : Nat) => []) (fun (g : Nat) => (0 ≤ fan * maxC (l.take g) ∧ fan * maxC (l.take g) ≤ 163520)) (fun (g : Nat) => l.length - g) [T', T', F', T', F', F'] 0 rfl rfl ⟨sk rfl, sk rfl, sk rfl, sk rfl, sc rfl (Cv.eq (congrArg dI (by simp [maxC]))), sk rfl, trivial⟩ HSub.rfl' (mulbd h0 h1 (maxC_bd hl _).1 (maxC_bd hl _).2) ?_)))))))))))))))))))
  rintro k hmb
  refine JD.keep [0, 4, 8, 9, 5, 10] [(0, dI fan), (4, dI 0), (8, .sh 2 (l.map RowD.d)), (9, dN l.length), (5, dI (maxC (l.take k))), (10, dN k)] rfl (JD.norm [] rfl (jd_seq [T', T', F', T', F', F', F'] [T', T', F', T', F', F', T'] rfl rfl rfl (jd_region rfl (od_pu rfl rfl (p_lss rfl rfl rfl) (od_nil rfl (pd_seq (jd_seq [T', T', F', T', F', F', T', F'] [T', T', F', T', F', F', T', T'] rfl rfl rfl ?_)))))))
  refine jd_cond [T', T', F', T', F', F', T', F', F'] [T', T', F', T', F', F', T', F', T'] rfl rfl rfl rfl (fun hc1 => ?_) (fun hc1 => ?_)
  · replace hc1 := of_decide_eq_true hc1
    refine jd_skip rfl (pd_seq (jd_seq [T', T', F', T', F', F', T', T', F'] [T', T', F', T', F', F', T', T', T'] rfl rfl rfl (jd_block [T', T', F', T', F', F', T', T', F', F'] rfl rfl (jd_seq [T', T', F', T', F', F', T', T', F', F', F'] [T', T', F', T', F', F', T', T', F', F', T'] rfl rfl rfl (jd_region rfl ?_)))))
    obtain ⟨x1, hx1⟩ := get_some l k (by omega)
    refine od_pu rfl rfl (p_indexAddr (k := k) rfl rfl Try.runUnderlying27 Try.sizeOf34 (by first | rfl | omega) (get_map hx1)) (od_pu rfl rfl (p_load_el (d := RowD.d x1) rfl Try.isAgg34 Try.sizeOf34 rfl rfl) (od_step rfl rfl (ef_alloc (zv := (.agg #[(.slice none 0 0), (.int .i64 0)])) Try.zeroValue34 ⟨rfl, rfl, trivial⟩ (Cv.vagg (by decide))) ?_))
    rintro _ _ ⟨g2, rfl, rfl⟩
    refine od_step rfl rfl (ef_store_bx (i := 0) (X' := RowD.d x1) rfl rfl rfl (CellD.agg) Try.sizeOf34 rfl rfl rfl) ?_
    rintro _ _ ⟨rfl, rfl⟩
    refine OpsD.norm [.bx g2 34 (RowD.d x1)] rfl (od_nil rfl (pd_seq (jd_region rfl (od_pu rfl rfl (p_move rfl) (od_pu rfl rfl (p_load_bx (d := RowD.d x1) rfl (i := 0) rfl Try.isAgg34 Try.sizeOf34 rfl rfl) (od_step rfl rfl (ef_call [] _ [] rfl rfl (.cons ArgC.id .nil) lend_nil Try.call33 (cost_c x1 (hl x1 (mem_get hx1))) (.inl rfl)) ?_))))))
    rintro _ _ ⟨_, ⟨rfl, rfl⟩, rfl⟩
    refine OpsD.norm [.bx g2 34 (RowD.d x1)] rfl (od_pu rfl rfl (p_max rfl rfl rfl) (od_pu rfl rfl (p_assign rfl) (od_nil rfl (pd_block (pd_seq (jd_region rfl (od_pu rfl rfl (p_add (c := ((k + 1 : Nat) : Int)) rfl rfl (w64eq (by omega) (by omega))) (od_pu rfl rfl (p_move rfl) (od_nil rfl ?_)))))))))
    exact pd_loop (k + 1) ⟨sk rfl, sk rfl, sk rfl, sk rfl, sc rfl (Cv.eq (congrArg dI (by rw [maxC_snoc hx1]))), sk rfl, trivial⟩ HSub.none (mulbd h0 h1 (maxC_bd hl _).1 (maxC_bd hl _).2) (by omega)
  · replace hc1 := of_decide_eq_false hc1
    refine jd_exit rfl (pd_seq_exit (pd_loop_exit (pd_block_exit (pd_seq (jd_seq [T', T', T', F'] [T', T', T', T'] rfl rfl rfl (jd_region rfl (od_pu rfl rfl (p_move rfl) (od_pu rfl rfl (p_move rfl) (od_pu rfl rfl (p_mul (c := (fan * (maxC (l.take k)))) rfl rfl (w64eq (by omega) (by omega))) (od_pu rfl rfl (p_assign rfl) (od_nil rfl (pd_seq (JD.keep [4] [(4, dI (fan * (maxC (l.take k))))] rfl (jd_ret rfl ?_))))))))))))))
    exact pd_retH Try.results31 (.cons (ro_cv (ro_tmp rfl) (Cv.eq (congrArg (fun n => D.v (.int .i64 n)) (by rw [List.take_of_length_le (by omega)])))) .nil) rfl HSub.none ⟨rfl, rfl⟩

set_option maxHeartbeats 4000000 in
set_option maxRecDepth 100000 in
theorem New_c (room : Int) (h0 : 0 ≤ room) (h1 : room ≤ 1000000) :
    CD Try.prog 93 [] [dI room] (fun r H' => ∃ g, r = .v (.pointer (some ⟨g, 0, none⟩)) ∧ H' = [.bx g 163 (.agg [dI ((PurseD.mk room 0 0).room), dI ((PurseD.mk room 0 0).now), dI ((PurseD.mk room 0 0).high)])]) := by
  refine cd_of_JD Try.func93 rfl (N := 8) rfl rfl (fun C => ?_)
  refine JD.keep [0] [(0, dI room)] rfl (jd_seq [F'] [T'] rfl rfl rfl (jd_region rfl (od_pu rfl rfl (p_assign rfl) (od_nil rfl (pd_seq (jd_seq [T', F'] [T', T'] rfl rfl rfl (jd_region rfl (od_pu rfl rfl (p_move rfl) (od_pu rfl rfl (p_max rfl rfl rfl) (od_pu rfl rfl (p_min rfl rfl rfl) (od_pu rfl rfl (p_build [0] [.tmp 5] (zv := (.agg #[(.int .i64 0), (.int .i64 0), (.int .i64 0)])) rfl rfl (.cons (CellD.v rfl) .nil) (Try.runUnderlying163) Try.zeroValue163 bd_163 ⟨rfl, rfl, rfl, trivial⟩ rfl) (od_step rfl rfl (ef_box rfl (CellD.agg)) ?_))))))))))))
  rintro _ _ ⟨g1, rfl, rfl⟩
  refine od_pu rfl rfl (p_assign rfl) (od_nil rfl (pd_seq (jd_ret rfl (PD.norm [.bx g1 163 (.agg [dI (min (max room (0 : Int)) (1000000 : Int)), dI 0, dI 0])] rfl (PD.norm [.bx g1 163 (.agg [dI ((PurseD.mk room 0 0).room), dI ((PurseD.mk room 0 0).now), dI ((PurseD.mk room 0 0).high)])] (by rw [show min (max room 0) 1000000 = room by omega]) ?_)))))
  exact pd_retH Try.results93 (.cons (ro_tmp rfl) .nil) rfl (HSub.fst 1 rfl) ⟨_, rfl, rfl⟩

set_option maxHeartbeats 4000000 in
set_option maxRecDepth 100000 in
theorem Take_c (gp : Nat) (p : PurseD) (n : Int) (hp : p.Ok) (hn : -1000000 ≤ n ∧ n ≤ 1000000) :
    CD Try.prog 131 [.bx gp 163 (.agg [dI p.room, dI p.now, dI p.high])] [.v (.pointer (some ⟨gp, 0, none⟩)), dI n] (fun r H' => r = dB (p.takes n) ∧ H' = [.bx gp 163 (.agg [dI ((p.take n).room), dI ((p.take n).now), dI ((p.take n).high)])]) := by
  refine cd_of_JD Try.func131 rfl (N := 44) rfl rfl (fun C => ?_)
  refine JD.keep [0, 1] [(0, .v (.pointer (some ⟨gp, 0, none⟩))), (1, dI n)] rfl ?_
  have hn0 := hp.n0
  have hnh := hp.nh
  have hhr := hp.hr
  have hrm := hp.rm
  refine jd_seq [F'] [T'] rfl rfl rfl (jd_region rfl (od_pu rfl rfl (p_assign rfl) (od_nil rfl (pd_seq (jd_seq [T', F'] [T', T'] rfl rfl rfl (jd_seq [T', F', F'] [T', F', T'] rfl rfl rfl (JD.keep [0, 1, 4] [(0, .v (.pointer (some ⟨gp, 0, none⟩))), (1, dI n), (4, dB false)] rfl ?_)))))))
  refine jd_sum 23 ((decide (n < (0 : Int)) || decide ((p.room - p.now) < n))) [.bx gp 163 (.agg [dI p.room, dI p.now, dI p.high])] (fun _ hQ1 => ?_) ?_
  · skip
    by_cases hg2 : n < (0 : Int)
    · skip
      refine JD.keep [0, 1, 4] [(0, .v (.pointer (some ⟨gp, 0, none⟩))), (1, dI n), (4, dB false)] rfl (JD.norm [.bx gp 163 (.agg [dI p.room, dI p.now, dI p.high])] rfl ?_)
      refine jd_draw 17 [(5, .v (.pointer (some ⟨gp, 0, none⟩)), none), (6, dB false, none), (7, dB false, none), (8, dI n, none), (9, dB true, none), (10, dB true, none), (11, dB true, none), (12, .v undef, none), (13, .v undef, none), (14, .v undef, none), (15, .v undef, none), (16, .v undef, none), (17, .v undef, none), (18, .v undef, none), (19, .v undef, none), (20, .v undef, none), (21, .v undef, none)] [.bx gp 163 (.agg [dI p.room, dI p.now, dI p.high])] (Hn := [.bx gp 163 (.agg [dI p.room, dI p.now, dI p.high])]) mixed rfl rfl rfl rfl HSub.rfl' rfl ⟨sa_p rfl rfl rfl (p_move rfl), sa_p rfl rfl rfl (p_bin (r := .bool false) rfl rfl (eqp_108_eql _ _ _)), sa_p rfl rfl rfl (p_move rfl), sa_qr rfl rfl rfl rfl rfl rfl (p_move rfl).qu, sa_qr rfl rfl rfl rfl rfl rfl (p_lss rfl rfl (decide_eq_true hg2)).qu, sa_p rfl rfl rfl (p_pick_f rfl rfl), sa_p rfl rfl rfl (p_move rfl), sa_s rfl rfl rfl rfl rfl rfl (by decide), sa_s rfl rfl rfl rfl rfl rfl (by decide), sa_s rfl rfl rfl rfl rfl rfl (by decide), sa_s rfl rfl rfl rfl rfl rfl (by decide), sa_s rfl rfl rfl rfl rfl rfl (by decide), sa_s rfl rfl rfl rfl rfl rfl (by decide), sa_s rfl rfl rfl rfl rfl rfl (by decide), sa_s rfl rfl rfl rfl rfl rfl (by decide), sa_s rfl rfl rfl rfl rfl rfl (by decide), sa_s rfl rfl rfl rfl rfl rfl (by decide), trivial⟩ ?_
      refine OpsD.keep [0, 1, 4, 5, 6, 7, 8, 9, 10, 11, 12, 13, 14, 15, 16, 17, 18, 19, 20, 21] [(0, .v (.pointer (some ⟨gp, 0, none⟩))), (1, dI n), (4, dB false), (5, .v (.pointer (some ⟨gp, 0, none⟩))), (6, dB false), (7, dB false), (8, dI n), (9, dB true), (10, dB true), (11, dB true), (12, .v undef), (13, .v undef), (14, .v undef), (15, .v undef), (16, .v undef), (17, .v undef), (18, .v undef), (19, .v undef), (20, .v undef), (21, .v undef)] rfl (od_skip rfl rfl rfl rfl rfl (by decide) (od_pu rfl rfl (p_pick_t rfl rfl) (od_nil rfl ?_)))
      exact PD.sub ((23, dB (decide (n < (0 : Int)) || decide ((p.room - p.now) < n))) :: [(0, .v (.pointer (some ⟨gp, 0, none⟩))), (1, dI n), (4, dB false)]) ⟨sc rfl (Cv.eq (congrArg (fun b => D.v (.bool b)) (by first | (simp [hg2]; done) | (simp_all; done)))), sk rfl, sk rfl, sk rfl, trivial⟩ hQ1
    · skip
      refine JD.keep [0, 1, 4] [(0, .v (.pointer (some ⟨gp, 0, none⟩))), (1, dI n), (4, dB false)] rfl (JD.norm [.bx gp 163 (.agg [dI p.room, dI p.now, dI p.high])] rfl ?_)
      refine jd_draw 17 [(5, .v (.pointer (some ⟨gp, 0, none⟩)), none), (6, dB false, none), (7, dB false, none), (8, dI n, none), (9, dB false, none), (10, dB false, none), (11, dB false, none), (12, dI n, none), (13, .v (.pointer (some ⟨gp, 0, none⟩)), none), (14, .v (.pointer (some ⟨gp, 0, none⟩)), none), (15, .v (.pointer (some ⟨gp, 0, none⟩)), none), (16, dI p.room, none), (17, .v (.pointer (some ⟨gp, 0, none⟩)), none), (18, .v (.pointer (some ⟨gp, 0, none⟩)), none), (19, .v (.pointer (some ⟨gp, 1, none⟩)), none), (20, dI p.now, none), (21, dI (p.room - p.now), none)] [.bx gp 163 (.agg [dI p.room, dI p.now, dI p.high])] (Hn := [.bx gp 163 (.agg [dI p.room, dI p.now, dI p.high])]) mixed rfl rfl rfl rfl HSub.rfl' rfl ⟨sa_p rfl rfl rfl (p_move rfl), sa_p rfl rfl rfl (p_bin (r := .bool false) rfl rfl (eqp_108_eql _ _ _)), sa_p rfl rfl rfl (p_move rfl), sa_qr rfl rfl rfl rfl rfl rfl (p_move rfl).qu, sa_qr rfl rfl rfl rfl rfl rfl (p_lss rfl rfl (decide_eq_false hg2)).qu, sa_p rfl rfl rfl (p_pick_f rfl rfl), sa_p rfl rfl rfl (p_move rfl), sa_qr rfl rfl rfl rfl rfl rfl (p_move rfl).qu, sa_qr rfl rfl rfl rfl rfl rfl (p_move rfl).qu, sa_qr rfl rfl rfl rfl rfl rfl (p_nilCheck rfl).qu, sa_qr rfl rfl rfl rfl rfl rfl (p_fieldAddr rfl fa_163_0 rfl).qu, sa_qr rfl rfl rfl rfl rfl rfl (p_load_bx1 rfl (i := 0) rfl Try.isAgg3 rfl).qu, sa_qr rfl rfl rfl rfl rfl rfl (p_move rfl).qu, sa_qr rfl rfl rfl rfl rfl rfl (p_nilCheck rfl).qu, sa_qr rfl rfl rfl rfl rfl rfl (p_fieldAddr rfl fa_163_1 rfl).qu, sa_qr rfl rfl rfl rfl rfl rfl (p_load_bx1 rfl (i := 0) rfl Try.isAgg3 rfl).qu, sa_qr rfl rfl rfl rfl rfl rfl (p_sub (c := (p.room - p.now)) rfl rfl (w64eq (by omega) (by omega))).qu, trivial⟩ ?_
      refine OpsD.keep [0, 1, 4, 5, 6, 7, 8, 9, 10, 11, 12, 13, 14, 15, 16, 17, 18, 19, 20, 21] [(0, .v (.pointer (some ⟨gp, 0, none⟩))), (1, dI n), (4, dB false), (5, .v (.pointer (some ⟨gp, 0, none⟩))), (6, dB false), (7, dB false), (8, dI n), (9, dB false), (10, dB false), (11, dB false), (12, dI n), (13, .v (.pointer (some ⟨gp, 0, none⟩))), (14, .v (.pointer (some ⟨gp, 0, none⟩))), (15, .v (.pointer (some ⟨gp, 0, none⟩))), (16, dI p.room), (17, .v (.pointer (some ⟨gp, 0, none⟩))), (18, .v (.pointer (some ⟨gp, 0, none⟩))), (19, .v (.pointer (some ⟨gp, 1, none⟩))), (20, dI p.now), (21, dI (p.room - p.now))] rfl (od_runp rfl rfl rfl rfl rfl (p_gtr rfl rfl rfl) (od_pu rfl rfl (p_pick_f rfl rfl) (od_nil rfl ?_)))
      exact PD.sub ((23, dB (decide (n < (0 : Int)) || decide ((p.room - p.now) < n))) :: [(0, .v (.pointer (some ⟨gp, 0, none⟩))), (1, dI n), (4, dB false)]) ⟨sc rfl (Cv.eq (congrArg (fun b => D.v (.bool b)) (by first | (simp [hg2]; done) | (simp_all; done)))), sk rfl, sk rfl, sk rfl, trivial⟩ hQ1
  · skip
    refine pd_seq ?_
    refine jd_cond [T', F', T', F'] [T', F', T', T'] rfl rfl rfl rfl (fun hc3 => ?_) (fun hc3 => ?_)
    · simp only [Bool.and_eq_true, Bool.or_eq_true, Bool.not_eq_true', Bool.not_eq_false', Bool.and_eq_false_iff, Bool.or_eq_false_iff, decide_eq_true_eq, decide_eq_false_iff_not, Decidable.not_not, ne_eq] at hc3
      refine jd_seq [T', F', T', F', F'] [T', F', T', F', T'] rfl rfl rfl (jd_region rfl (od_pu rfl rfl (p_assign rfl) (od_nil rfl (pd_seq (jd_ret rfl (pd_seq_ret (PD.norm [.bx gp 163 (.agg [dI p.room, dI p.now, dI p.high])] rfl (PD.norm [.bx gp 163 (.agg [dI ((p.take n).room), dI ((p.take n).now), dI ((p.take n).high)])] (by rw [(take_f (p := p) (n := n) (by omega)).2]) ?_))))))))
      exact pd_retH Try.results131 (.cons (ro_cv (ro_tmp rfl) (Cv.eq (congrArg (fun b => D.v (.bool b)) (take_f (p := p) (n := n) (by omega)).1.symm))) .nil) rfl HSub.rfl' ⟨rfl, rfl⟩
    · simp only [Bool.and_eq_true, Bool.or_eq_true, Bool.not_eq_true', Bool.not_eq_false', Bool.and_eq_false_iff, Bool.or_eq_false_iff, decide_eq_true_eq, decide_eq_false_iff_not, Decidable.not_not, ne_eq] at hc3
      refine jd_skip rfl (pd_seq (jd_seq [T', T', F'] [T', T', T'] rfl rfl rfl (jd_region rfl (od_pu rfl rfl (p_move rfl) (od_pu rfl rfl (p_nilCheck rfl) (od_pu rfl rfl (p_fieldAddr rfl fa_163_1 rfl) (od_pu rfl rfl (p_load_bx1 rfl (i := 0) rfl Try.isAgg3 rfl) (od_pu rfl rfl (p_move rfl) (od_pu rfl rfl (p_add (c := (p.now + n)) rfl rfl (w64eq (by omega) (by omega))) (od_pu rfl rfl (p_nilCheck rfl) (od_pu rfl rfl (p_fieldAddr rfl fa_163_1 rfl) (od_step rfl rfl (ef_store_bx (i := 0) (X' := .agg [dI p.room, dI (p.now + n), dI p.high]) rfl rfl rfl (CellD.v rfl) Try.sizeOf3 rfl rfl rfl) ?_))))))))))))
      rintro _ _ ⟨rfl, rfl⟩
      refine OpsD.norm [.bx gp 163 (.agg [dI p.room, dI (p.now + n), dI p.high])] rfl (od_nil rfl (pd_seq (JD.keep [0, 4] [(0, .v (.pointer (some ⟨gp, 0, none⟩))), (4, dB false)] rfl (jd_seq [T', T', T', F'] [T', T', T', T'] rfl rfl rfl (JD.keep [0, 4] [(0, .v (.pointer (some ⟨gp, 0, none⟩))), (4, dB false)] rfl (JD.norm [.bx gp 163 (.agg [dI p.room, dI (p.now + n), dI p.high])] rfl ?_))))))
      refine jd_draw 10 [(32, .v (.pointer (some ⟨gp, 0, none⟩)), none), (33, .v (.pointer (some ⟨gp, 0, none⟩)), none), (34, .v (.pointer (some ⟨gp, 0, none⟩)), none), (35, .v (.pointer (some ⟨gp, 2, none⟩)), none), (36, dI p.high, none), (37, .v (.pointer (some ⟨gp, 0, none⟩)), none), (38, .v (.pointer (some ⟨gp, 0, none⟩)), none), (39, .v (.pointer (some ⟨gp, 1, none⟩)), none), (40, dI (p.now + n), none), (41, dI (max p.high (p.now + n)), none)] [.bx gp 163 (.agg [dI p.room, dI (p.now + n), dI p.high])] (Hn := [.bx gp 163 (.agg [dI p.room, dI (p.now + n), dI p.high])]) mixed rfl rfl rfl rfl HSub.rfl' rfl ⟨sa_p rfl rfl rfl (p_move rfl), sa_p rfl rfl rfl (p_move rfl), sa_p rfl rfl rfl (p_nilCheck rfl), sa_p rfl rfl rfl (p_fieldAddr rfl fa_163_2 rfl), sa_p rfl rfl rfl (p_load_bx1 rfl (i := 0) rfl Try.isAgg3 rfl), sa_p rfl rfl rfl (p_move rfl), sa_p rfl rfl rfl (p_nilCheck rfl), sa_p rfl rfl rfl (p_fieldAddr rfl fa_163_1 rfl), sa_p rfl rfl rfl (p_load_bx1 rfl (i := 0) rfl Try.isAgg3 rfl), sa_p rfl rfl rfl (p_max rfl rfl rfl), trivial⟩ ?_
      refine OpsD.keep [0, 4, 32, 33, 34, 35, 36, 37, 38, 39, 40, 41] [(0, .v (.pointer (some ⟨gp, 0, none⟩))), (4, dB false), (32, .v (.pointer (some ⟨gp, 0, none⟩))), (33, .v (.pointer (some ⟨gp, 0, none⟩))), (34, .v (.pointer (some ⟨gp, 0, none⟩))), (35, .v (.pointer (some ⟨gp, 2, none⟩))), (36, dI p.high), (37, .v (.pointer (some ⟨gp, 0, none⟩))), (38, .v (.pointer (some ⟨gp, 0, none⟩))), (39, .v (.pointer (some ⟨gp, 1, none⟩))), (40, dI (p.now + n)), (41, dI (max p.high (p.now + n)))] rfl (od_pu rfl rfl (p_nilCheck rfl) (od_pu rfl rfl (p_fieldAddr rfl fa_163_2 rfl) (od_step rfl rfl (ef_store_bx (i := 0) (X' := .agg [dI p.room, dI (p.now + n), dI (max p.high (p.now + n))]) rfl rfl rfl (CellD.v rfl) Try.sizeOf3 rfl rfl rfl) ?_)))
      rintro _ _ ⟨rfl, rfl⟩
      refine OpsD.norm [.bx gp 163 (.agg [dI p.room, dI (p.now + n), dI (max p.high (p.now + n))])] rfl (od_nil rfl (pd_seq (JD.keep [4] [(4, dB false)] rfl (jd_seq [T', T', T', T', F'] [T', T', T', T', T'] rfl rfl rfl (jd_region rfl (od_pu rfl rfl (p_assign rfl) (od_nil rfl (pd_seq (jd_ret rfl (PD.norm [.bx gp 163 (.agg [dI p.room, dI (p.now + n), dI (max p.high (p.now + n))])] rfl (PD.norm [.bx gp 163 (.agg [dI ((p.take n).room), dI ((p.take n).now), dI ((p.take n).high)])] (by rw [(take_t (p := p) (n := n) (by omega) (by omega)).2]) ?_)))))))))))
      exact pd_retH Try.results131 (.cons (ro_cv (ro_tmp rfl) (Cv.eq (congrArg (fun b => D.v (.bool b)) (take_t (p := p) (n := n) (by omega) (by omega)).1.symm))) .nil) rfl HSub.rfl' ⟨rfl, rfl⟩

set_option maxHeartbeats 4000000 in
set_option maxRecDepth 100000 in
theorem Give_c (gp : Nat) (p : PurseD) (n : Int) (hp : p.Ok) (hn : -1000000 ≤ n ∧ n ≤ 1000000) :
    CD Try.prog 155 [.bx gp 163 (.agg [dI p.room, dI p.now, dI p.high])] [.v (.pointer (some ⟨gp, 0, none⟩)), dI n] (fun r H' => r = dB (p.gives n) ∧ H' = [.bx gp 163 (.agg [dI ((p.give n).room), dI ((p.give n).now), dI ((p.give n).high)])]) := by
  refine cd_of_JD Try.func155 rfl (N := 27) rfl rfl (fun C => ?_)
  refine JD.keep [0, 1] [(0, .v (.pointer (some ⟨gp, 0, none⟩))), (1, dI n)] rfl ?_
  have hn0 := hp.n0
  have hnh := hp.nh
  have hhr := hp.hr
  have hrm := hp.rm
  refine jd_seq [F'] [T'] rfl rfl rfl (jd_region rfl (od_pu rfl rfl (p_assign rfl) (od_nil rfl (pd_seq (jd_seq [T', F'] [T', T'] rfl rfl rfl (jd_seq [T', F', F'] [T', F', T'] rfl rfl rfl (JD.keep [0, 1, 4] [(0, .v (.pointer (some ⟨gp, 0, none⟩))), (1, dI n), (4, dB false)] rfl ?_)))))))
  refine jd_sum 18 ((decide (n < (0 : Int)) || decide (p.now < n))) [.bx gp 163 (.agg [dI p.room, dI p.now, dI p.high])] (fun _ hQ1 => ?_) ?_
  · skip
    by_cases hg2 : n < (0 : Int)
    · skip
      refine jd_region rfl (od_pu rfl rfl (p_move rfl) (od_pu rfl rfl (p_bin (r := .bool false) rfl rfl (eqp_108_eql _ _ _)) (od_pu rfl rfl (p_move rfl) (od_runp rfl rfl rfl rfl rfl (p_move rfl) (od_runp rfl rfl rfl rfl rfl (p_lss rfl rfl (decide_eq_true hg2)) (od_pu rfl rfl (p_pick_f rfl rfl) (od_pu rfl rfl (p_move rfl) (od_skip rfl rfl rfl rfl rfl (by decide) (od_skip rfl rfl rfl rfl rfl (by decide) (od_skip rfl rfl rfl rfl rfl (by decide) (od_skip rfl rfl rfl rfl rfl (by decide) (od_skip rfl rfl rfl rfl rfl (by decide) (od_skip rfl rfl rfl rfl rfl (by decide) (od_pu rfl rfl (p_pick_t rfl rfl) (od_nil rfl ?_)))))))))))))))
      exact PD.sub ((18, dB (decide (n < (0 : Int)) || decide (p.now < n))) :: [(0, .v (.pointer (some ⟨gp, 0, none⟩))), (1, dI n), (4, dB false)]) ⟨sc rfl (Cv.eq (congrArg (fun b => D.v (.bool b)) (by first | (simp [hg2]; done) | (simp_all; done)))), sk rfl, sk rfl, sk rfl, trivial⟩ hQ1
    · skip
      refine jd_region rfl (od_pu rfl rfl (p_move rfl) (od_pu rfl rfl (p_bin (r := .bool false) rfl rfl (eqp_108_eql _ _ _)) (od_pu rfl rfl (p_move rfl) (od_runp rfl rfl rfl rfl rfl (p_move rfl) (od_runp rfl rfl rfl rfl rfl (p_lss rfl rfl (decide_eq_false hg2)) (od_pu rfl rfl (p_pick_f rfl rfl) (od_pu rfl rfl (p_move rfl) (od_runp rfl rfl rfl rfl rfl (p_move rfl) (od_runp rfl rfl rfl rfl rfl (p_move rfl) (od_runp rfl rfl rfl rfl rfl (p_nilCheck rfl) (od_runp rfl rfl rfl rfl rfl (p_fieldAddr rfl fa_163_1 rfl) (od_runp rfl rfl rfl rfl rfl (p_load_bx1 rfl (i := 0) rfl Try.isAgg3 rfl) (od_runp rfl rfl rfl rfl rfl (p_gtr rfl rfl rfl) (od_pu rfl rfl (p_pick_f rfl rfl) (od_nil rfl ?_)))))))))))))))
      exact PD.sub ((18, dB (decide (n < (0 : Int)) || decide (p.now < n))) :: [(0, .v (.pointer (some ⟨gp, 0, none⟩))), (1, dI n), (4, dB false)]) ⟨sc rfl (Cv.eq (congrArg (fun b => D.v (.bool b)) (by first | (simp [hg2]; done) | (simp_all; done)))), sk rfl, sk rfl, sk rfl, trivial⟩ hQ1
  · skip
    refine pd_seq ?_
    refine jd_cond [T', F', T', F'] [T', F', T', T'] rfl rfl rfl rfl (fun hc3 => ?_) (fun hc3 => ?_)
    · simp only [Bool.and_eq_true, Bool.or_eq_true, Bool.not_eq_true', Bool.not_eq_false', Bool.and_eq_false_iff, Bool.or_eq_false_iff, decide_eq_true_eq, decide_eq_false_iff_not, Decidable.not_not, ne_eq] at hc3
      refine jd_seq [T', F', T', F', F'] [T', F', T', F', T'] rfl rfl rfl (jd_region rfl (od_pu rfl rfl (p_assign rfl) (od_nil rfl (pd_seq (jd_ret rfl (pd_seq_ret (PD.norm [.bx gp 163 (.agg [dI p.room, dI p.now, dI p.high])] rfl (PD.norm [.bx gp 163 (.agg [dI ((p.give n).room), dI ((p.give n).now), dI ((p.give n).high)])] (by rw [give_f (p := p) (n := n) (by omega)]) ?_))))))))
      exact pd_retH Try.results155 (.cons (ro_cv (ro_tmp rfl) (Cv.eq (congrArg (fun b => D.v (.bool b)) (gives_f (p := p) (n := n) (by omega)).symm))) .nil) rfl HSub.rfl' ⟨rfl, rfl⟩
    · simp only [Bool.and_eq_true, Bool.or_eq_true, Bool.not_eq_true', Bool.not_eq_false', Bool.and_eq_false_iff, Bool.or_eq_false_iff, decide_eq_true_eq, decide_eq_false_iff_not, Decidable.not_not, ne_eq] at hc3
      refine jd_skip rfl (pd_seq (jd_seq [T', T', F'] [T', T', T'] rfl rfl rfl (jd_region rfl (od_pu rfl rfl (p_move rfl) (od_pu rfl rfl (p_nilCheck rfl) (od_pu rfl rfl (p_fieldAddr rfl fa_163_1 rfl) (od_pu rfl rfl (p_load_bx1 rfl (i := 0) rfl Try.isAgg3 rfl) (od_pu rfl rfl (p_move rfl) (od_pu rfl rfl (p_sub (c := (p.now - n)) rfl rfl (w64eq (by omega) (by omega))) (od_pu rfl rfl (p_nilCheck rfl) (od_pu rfl rfl (p_fieldAddr rfl fa_163_1 rfl) (od_step rfl rfl (ef_store_bx (i := 0) (X' := .agg [dI p.room, dI (p.now - n), dI p.high]) rfl rfl rfl (CellD.v rfl) Try.sizeOf3 rfl rfl rfl) ?_))))))))))))
      rintro _ _ ⟨rfl, rfl⟩
      refine OpsD.norm [.bx gp 163 (.agg [dI p.room, dI (p.now - n), dI p.high])] rfl (od_nil rfl (pd_seq (JD.keep [4] [(4, dB false)] rfl (jd_seq [T', T', T', F'] [T', T', T', T'] rfl rfl rfl (jd_region rfl (od_pu rfl rfl (p_assign rfl) (od_nil rfl (pd_seq (jd_ret rfl (PD.norm [.bx gp 163 (.agg [dI p.room, dI (p.now - n), dI p.high])] rfl (PD.norm [.bx gp 163 (.agg [dI ((p.give n).room), dI ((p.give n).now), dI ((p.give n).high)])] (by rw [give_t (p := p) (n := n) (by omega) (by omega)]) ?_)))))))))))
      exact pd_retH Try.results155 (.cons (ro_cv (ro_tmp rfl) (Cv.eq (congrArg (fun b => D.v (.bool b)) (gives_t (p := p) (n := n) (by omega) (by omega)).symm))) .nil) rfl HSub.rfl' ⟨rfl, rfl⟩

set_option maxHeartbeats 4000000 in
set_option maxRecDepth 100000 in
theorem High_c (gp : Nat) (p : PurseD)  :
    CD Try.prog 96 [.bx gp 163 (.agg [dI p.room, dI p.now, dI p.high])] [.v (.pointer (some ⟨gp, 0, none⟩))] (fun r H' => r = dI p.high ∧ H' = [.bx gp 163 (.agg [dI p.room, dI p.now, dI p.high])]) := by
  refine cd_of_JD Try.func96 rfl (N := 9) rfl rfl (fun C => ?_)
  refine JD.keep [0] [(0, .v (.pointer (some ⟨gp, 0, none⟩)))] rfl (jd_seq [F'] [T'] rfl rfl rfl (jd_region rfl (od_pu rfl rfl (p_assign rfl) (od_nil rfl (pd_seq (jd_seq [T', F'] [T', T'] rfl rfl rfl (jd_seq [T', F', F'] [T', F', T'] rfl rfl rfl (jd_region rfl (od_pu rfl rfl (p_move rfl) (od_pu rfl rfl (p_bin (r := .bool false) rfl rfl (eqp_108_eql _ _ _)) (od_nil rfl (pd_seq (jd_cond_f [T', F', T', T'] rfl rfl rfl (jd_skip rfl (pd_seq (jd_seq [T', T', F'] [T', T', T'] rfl rfl rfl (jd_region rfl (od_pu rfl rfl (p_move rfl) (od_pu rfl rfl (p_nilCheck rfl) (od_pu rfl rfl (p_fieldAddr rfl fa_163_2 rfl) (od_pu rfl rfl (p_load_bx1 rfl (i := 0) rfl Try.isAgg3 rfl) (od_pu rfl rfl (p_assign rfl) (od_nil rfl (pd_seq (jd_ret rfl ?_)))))))))))))))))))))))))
  exact pd_retH Try.results96 (.cons (ro_tmp rfl) .nil) rfl (HSub.fst 1 rfl) ⟨rfl, rfl⟩
end Lp
