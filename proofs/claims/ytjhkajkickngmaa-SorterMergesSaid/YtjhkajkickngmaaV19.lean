/- Walks, printed by a program of mine (wip/tools/dw.py): each theorem says what a function of the translation hands back. -/
import Derived.Test.YtjhkajkickngmaaV18
import Derived.Test.YtjhkajkickngmaaPSort3
set_option linter.unusedSimpArgs false
set_option linter.unusedVariables false
namespace Lp
open Go Go.RowKit Go.Proofs

namespace HdV19
theorem bd_112 : ∀ w, ((#[⟨"order", 3, 0, false, "", "leporello/sorter", 0⟩, ⟨"fan", 3, 1, false, "", "leporello/sorter", 8⟩, ⟨"p", 108, 2, false, "", "leporello/sorter", 16⟩, ⟨"runs", 110, 3, false, "", "leporello/sorter", 24⟩, ⟨"report", 59, 4, false, "", "leporello/sorter", 48⟩] : Array Field).mapM fun f => do pure (f.offset, ← Go.sizeOf f.type) : Sem (Array (Nat × Nat))).run Try.prog w = .ok ([(0, 1), (1, 1), (2, 1), (3, 1), (4, 3)] : List (Nat × Nat)).toArray w := fun _ => by kernel_rfl
theorem bd_166 : ∀ w, ((#[⟨"l", 27, 0, false, "", "leporello/sorter", 0⟩] : Array Field).mapM fun f => do pure (f.offset, ← Go.sizeOf f.type) : Sem (Array (Nat × Nat))).run Try.prog w = .ok ([(0, 1)] : List (Nat × Nat)).toArray w := fun _ => by kernel_rfl
theorem bd_59 : ∀ w, ((#[⟨"Runs", 3, 0, false, "", "", 0⟩, ⟨"Merges", 3, 1, false, "", "", 8⟩, ⟨"High", 3, 2, false, "", "", 16⟩] : Array Field).mapM fun f => do pure (f.offset, ← Go.sizeOf f.type) : Sem (Array (Nat × Nat))).run Try.prog w = .ok ([(0, 1), (1, 1), (2, 1)] : List (Nat × Nat)).toArray w := fun _ => by kernel_rfl
theorem fa_112_0 (b o : Nat) : ∀ w, (Instr.fieldAt 112 (.pointer (some ⟨b, o, none⟩)) 0).run Try.prog w = .ok (.pointer (some ⟨b, o + 0, none⟩)) w := fun _ => by kernel_rfl
theorem fa_112_1 (b o : Nat) : ∀ w, (Instr.fieldAt 112 (.pointer (some ⟨b, o, none⟩)) 1).run Try.prog w = .ok (.pointer (some ⟨b, o + 1, none⟩)) w := fun _ => by kernel_rfl
theorem fa_112_2 (b o : Nat) : ∀ w, (Instr.fieldAt 112 (.pointer (some ⟨b, o, none⟩)) 2).run Try.prog w = .ok (.pointer (some ⟨b, o + 2, none⟩)) w := fun _ => by kernel_rfl
theorem fa_112_3 (b o : Nat) : ∀ w, (Instr.fieldAt 112 (.pointer (some ⟨b, o, none⟩)) 3).run Try.prog w = .ok (.pointer (some ⟨b, o + 3, none⟩)) w := fun _ => by kernel_rfl
theorem fa_112_4 (b o : Nat) : ∀ w, (Instr.fieldAt 112 (.pointer (some ⟨b, o, none⟩)) 4).run Try.prog w = .ok (.pointer (some ⟨b, o + 4, none⟩)) w := fun _ => by kernel_rfl
theorem fa_59_1 (b o : Nat) : ∀ w, (Instr.fieldAt 59 (.pointer (some ⟨b, o, none⟩)) 1).run Try.prog w = .ok (.pointer (some ⟨b, o + 1, none⟩)) w := fun _ => by kernel_rfl
theorem fa_59_2 (b o : Nat) : ∀ w, (Instr.fieldAt 59 (.pointer (some ⟨b, o, none⟩)) 2).run Try.prog w = .ok (.pointer (some ⟨b, o + 2, none⟩)) w := fun _ => by kernel_rfl
theorem infz_20 : ∃ i, Try.prog.info? 20 = some i ∧ i.zero = some .nilIface ∧ i.size = 1 ∧ i.bytes = 16 := infz_of (by kernel_rfl)
theorem infz_27 : ∃ i, Try.prog.info? 27 = some i ∧ i.zero = some (.slice none 0 0) ∧ i.size = 1 ∧ i.bytes = 24 := infz_of (by kernel_rfl)
theorem infz_34 : ∃ i, Try.prog.info? 34 = some i ∧ i.zero = some (.agg #[(.slice none 0 0), (.int .i64 0)]) ∧ i.size = 2 ∧ i.bytes = 32 := infz_of (by kernel_rfl)
theorem und_110 : Try.prog.underlying 110 = some (.slice 20) := by kernel_rfl
theorem und_22 : Try.prog.underlying 22 = some (.slice 27) := by kernel_rfl
theorem und_27 : Try.prog.underlying 27 = some (.slice 34) := by kernel_rfl
end HdV19
open HdV19

theorem perm_4 {a b c d : Hp} : [a, b, c, d].Perm [b, c, d, a] := List.perm_append_comm (l₁ := [a]) (l₂ := [b, c, d])

set_option maxHeartbeats 4000000 in
set_option maxRecDepth 100000 in
theorem merge_c (gs gp : Nat) (u : Value) (o fan : Int) (fn : Nat) (s : SortD) (hfan : fan = (fn : Int)) (hf2 : 2 ≤ fn) (hf3 : fn ≤ 20) (hp : s.p.Ok) (hro : RunsOk o s.runs) (hnm : 0 ≤ s.nm ∧ s.nm ≤ 100000) (h1 : 1 < s.runs.length) (hr2 : s.runs.length ≤ 100000) (htot : (flatR s.runs).length ≤ 1000000) :
    CD Try.prog 95 [.bx gs 112 (.agg [.v (.int .i64 o), .v (.int .i64 fan), .v (.pointer (some ⟨gp, 0, none⟩)), .ov u, .v (.int .i64 s.nr), .v (.int .i64 s.nm), .v (.int .i64 0)]), .bx gp 163 (.agg [.v (.int .i64 s.p.room), .v (.int .i64 s.p.now), .v (.int .i64 s.p.high)]), .slo u 1 20 (s.runs.map RunD.d)] [.v (.pointer (some ⟨gs, 0, none⟩))] (fun r H' => ∃ u', r = .tup [] ∧ H' = [.bx gs 112 (.agg [.v (.int .i64 o), .v (.int .i64 fan), .v (.pointer (some ⟨gp, 0, none⟩)), .ov u', .v (.int .i64 ((mergeS o (min fn s.runs.length) s).nr)), .v (.int .i64 ((mergeS o (min fn s.runs.length) s).nm)), .v (.int .i64 0)]), .bx gp 163 (.agg [.v (.int .i64 (((mergeS o (min fn s.runs.length) s).p).room)), .v (.int .i64 (((mergeS o (min fn s.runs.length) s).p).now)), .v (.int .i64 (((mergeS o (min fn s.runs.length) s).p).high))]), .slo u' 1 20 (((mergeS o (min fn s.runs.length) s).runs).map RunD.d)]) := by
  refine cd_of_JD Try.func95 rfl (N := 64) rfl rfl (fun C => ?_)
  refine JD.keep [0] [(0, .v (.pointer (some ⟨gs, 0, none⟩)))] rfl ?_
  refine jd_seq [false] [true] rfl rfl rfl ?_
  refine JD.keep [0] [(0, .v (.pointer (some ⟨gs, 0, none⟩)))] rfl ?_
  refine JD.norm [.bx gs 112 (.agg [.v (.int .i64 o), .v (.int .i64 fan), .v (.pointer (some ⟨gp, 0, none⟩)), .ov u, .v (.int .i64 s.nr), .v (.int .i64 s.nm), .v (.int .i64 0)]), .bx gp 163 (.agg [.v (.int .i64 s.p.room), .v (.int .i64 s.p.now), .v (.int .i64 s.p.high)]), .slo u 1 20 (s.runs.map RunD.d)] rfl ?_
  refine jd_draw 9 [(6, .v (.pointer (some ⟨gs, 0, none⟩)), none), (7, .v (.pointer (some ⟨gs, 0, none⟩)), none), (8, .v (.pointer (some ⟨gs, 1, none⟩)), none), (9, .v (.int .i64 fan), none), (10, .v (.pointer (some ⟨gs, 0, none⟩)), none), (11, .v (.pointer (some ⟨gs, 0, none⟩)), none), (12, .v (.pointer (some ⟨gs, 3, none⟩)), none), (13, .ov u, none), (14, .v (.int .i64 ((s.runs.length : Nat) : Int)), none)] [.bx gs 112 (.agg [.v (.int .i64 o), .v (.int .i64 fan), .v (.pointer (some ⟨gp, 0, none⟩)), .ov u, .v (.int .i64 s.nr), .v (.int .i64 s.nm), .v (.int .i64 0)]), .bx gp 163 (.agg [.v (.int .i64 s.p.room), .v (.int .i64 s.p.now), .v (.int .i64 s.p.high)]), .slo u 1 20 (s.runs.map RunD.d)] (Hn := [.bx gs 112 (.agg [.v (.int .i64 o), .v (.int .i64 fan), .v (.pointer (some ⟨gp, 0, none⟩)), .ov u, .v (.int .i64 s.nr), .v (.int .i64 s.nm), .v (.int .i64 0)]), .bx gp 163 (.agg [.v (.int .i64 s.p.room), .v (.int .i64 s.p.now), .v (.int .i64 s.p.high)]), .slo u 1 20 (s.runs.map RunD.d)]) mixed rfl rfl rfl rfl HSub.rfl' rfl ⟨sa_p rfl rfl rfl (p_move rfl), sa_p rfl rfl rfl (p_nilCheck rfl), sa_p rfl rfl rfl (p_fieldAddr rfl fa_112_1 rfl), sa_p rfl rfl rfl (p_load_bx1 rfl (i := 0) rfl Try.isAgg3 rfl), sa_p rfl rfl rfl (p_move rfl), sa_p rfl rfl rfl (p_nilCheck rfl), sa_p rfl rfl rfl (p_fieldAddr rfl fa_112_3 rfl), sa_p rfl rfl rfl (p_load_bx1 rfl (i := 0) rfl Try.isAgg110 rfl), sa_p rfl rfl rfl (p_len_slo (n := s.runs.length) (j := 2) rfl rfl Try.runUnderlying110 (List.length_map _)), trivial⟩ ?_
  refine OpsD.keep [0, 6, 7, 8, 9, 10, 11, 12, 13, 14] [(0, .v (.pointer (some ⟨gs, 0, none⟩))), (6, .v (.pointer (some ⟨gs, 0, none⟩))), (7, .v (.pointer (some ⟨gs, 0, none⟩))), (8, .v (.pointer (some ⟨gs, 1, none⟩))), (9, .v (.int .i64 fan)), (10, .v (.pointer (some ⟨gs, 0, none⟩))), (11, .v (.pointer (some ⟨gs, 0, none⟩))), (12, .v (.pointer (some ⟨gs, 3, none⟩))), (13, .ov u), (14, .v (.int .i64 ((s.runs.length : Nat) : Int)))] rfl ?_
  obtain ⟨n, hn⟩ : ∃ n, n = min fn s.runs.length := ⟨_, rfl⟩
  refine od_pu rfl rfl ((p_min rfl rfl rfl).cv (Cv.eq (congrArg dI (show min fan ((s.runs.length : Nat) : Int) = ((n : Nat) : Int) by omega)))) ?_
  refine od_pu rfl rfl (p_assign rfl) ?_
  refine od_nil rfl ?_
  refine pd_seq ?_
  refine JD.keep [0, 2] [(0, .v (.pointer (some ⟨gs, 0, none⟩))), (2, .v (.int .i64 ((n : Nat) : Int)))] rfl ?_
  refine jd_seq [true, false] [true, true] rfl rfl rfl ?_
  refine jd_region rfl ?_
  refine od_pu rfl rfl (p_assign rfl) ?_
  refine od_nil rfl ?_
  refine pd_seq ?_
  refine jd_seq [true, true, false] [true, true, true] rfl rfl rfl ?_
  refine jd_seq [true, true, false, false] [true, true, false, true] rfl rfl rfl ?_
  refine jd_region rfl ?_
  refine od_pu rfl rfl (p_move rfl) ?_
  refine od_pu rfl rfl (p_nilCheck rfl) ?_
  refine od_pu rfl rfl (p_fieldAddr rfl fa_112_3 rfl) ?_
  refine od_pu rfl rfl (p_load_bx1 rfl (i := 0) rfl Try.isAgg110 rfl) ?_
  refine od_pu rfl rfl (p_move rfl) ?_
  refine od_pu rfl rfl (p_slice_slo (b := n) (j := 2) rfl rfl rfl (by first | rfl | (show _ = _; (try simp only [List.length_map]); omega) | exact List.length_map _) Try.runUnderlying110 Try.sizeOf20 (by (try simp only [List.length_map]); omega)) ?_
  refine od_pu rfl rfl (p_len_slo_cut (j := 2) rfl rfl Try.runUnderlying110) ?_
  refine od_pu rfl rfl (p_move rfl) ?_
  refine od_nil rfl ?_
  refine pd_seq ?_
  refine jd_block [true, true, false, true, false] rfl rfl ?_
  refine JD.subH (HSub.nil 1 27) ?_
  refine JD.subH (HSub.perm (perm_4)) ?_
  refine JD.norm [.bx gs 112 (.agg [.v (.int .i64 o), .v (.int .i64 fan), .v (.pointer (some ⟨gp, 0, none⟩)), .ov u, .v (.int .i64 s.nr), .v (.int .i64 s.nm), .v (.int .i64 0)]), .bx gp 163 (.agg [.v (.int .i64 s.p.room), .v (.int .i64 s.p.now), .v (.int .i64 s.p.high)]), .slo u 1 20 (s.runs.map RunD.d), .sl (.slice none 0 0) 1 27 ([].map (D.ls 2 RowD.d))] rfl ?_
  refine jd_loop (fun (g : Nat × Value) => [(0, .v (.pointer (some ⟨gs, 0, none⟩))), (2, .v (.int .i64 ((n : Nat) : Int))), (21, .v (cut 1 u 0 n)), (22, .v (.int .i64 ((n : Nat) : Int))), (23, .v (.int .i64 ((g.1 : Nat) : Int))), (3, .ov g.2)]) (fun (g : Nat × Value) => [.bx gs 112 (.agg [.v (.int .i64 o), .v (.int .i64 fan), .v (.pointer (some ⟨gp, 0, none⟩)), .ov u, .v (.int .i64 s.nr), .v (.int .i64 s.nm), .v (.int .i64 0)]), .bx gp 163 (.agg [.v (.int .i64 s.p.room), .v (.int .i64 s.p.now), .v (.int .i64 s.p.high)]), .slo u 1 20 (s.runs.map RunD.d), .sl g.2 1 27 ((lls (s.runs.take g.1)).map (D.ls 2 RowD.d))]) (fun (g : Nat × Value) => (g.1 ≤ n)) (fun (g : Nat × Value) => n - g.1) [true, true, false, true, false, false] (0, .slice none 0 0) rfl rfl ⟨sk rfl, sk rfl, sk rfl, sk rfl, sk rfl, sc rfl (Cv.ov rfl), trivial⟩ HSub.rfl' (Nat.zero_le _) ?_
  rintro ⟨k, lv⟩ hkn
  replace hkn : k ≤ n := hkn
  refine JD.keep [0, 2, 21, 22, 23, 3] [(0, .v (.pointer (some ⟨gs, 0, none⟩))), (2, .v (.int .i64 ((n : Nat) : Int))), (21, .v (cut 1 u 0 n)), (22, .v (.int .i64 ((n : Nat) : Int))), (23, .v (.int .i64 ((k : Nat) : Int))), (3, .ov lv)] rfl ?_
  refine JD.norm [.bx gs 112 (.agg [.v (.int .i64 o), .v (.int .i64 fan), .v (.pointer (some ⟨gp, 0, none⟩)), .ov u, .v (.int .i64 s.nr), .v (.int .i64 s.nm), .v (.int .i64 0)]), .bx gp 163 (.agg [.v (.int .i64 s.p.room), .v (.int .i64 s.p.now), .v (.int .i64 s.p.high)]), .slo u 1 20 (s.runs.map RunD.d), .sl lv 1 27 ((lls (s.runs.take k)).map (D.ls 2 RowD.d))] rfl ?_
  have hlk : (lls (s.runs.take k)).length = k := by rw [lls_len, List.length_take]; omega
  refine jd_seq [true, true, false, true, false, false, false] [true, true, false, true, false, false, true] rfl rfl rfl ?_
  refine jd_region rfl ?_
  refine od_pu rfl rfl (p_lss rfl rfl rfl) ?_
  refine od_nil rfl ?_
  refine pd_seq ?_
  refine jd_seq [true, true, false, true, false, false, true, false] [true, true, false, true, false, false, true, true] rfl rfl rfl ?_
  refine jd_cond [true, true, false, true, false, false, true, false, false] [true, true, false, true, false, false, true, false, true] rfl rfl rfl rfl (fun hc1 => ?_) (fun hc1 => ?_)
  · replace hc1 := of_decide_eq_true hc1
    refine jd_skip rfl ?_
    refine pd_seq ?_
    refine jd_seq [true, true, false, true, false, false, true, true, false] [true, true, false, true, false, false, true, true, true] rfl rfl rfl ?_
    refine jd_block [true, true, false, true, false, false, true, true, false, false] rfl rfl ?_
    refine jd_seq [true, true, false, true, false, false, true, true, false, false, false] [true, true, false, true, false, false, true, true, false, false, true] rfl rfl rfl ?_
    refine jd_region rfl ?_
    refine od_pu rfl rfl (p_indexAddr_slo_cut (q := k) (j := 2) rfl rfl rfl Try.runUnderlying110 Try.sizeOf20 (by first | rfl | omega) (by omega) (by (try simp only [List.length_map]); omega)) ?_
    obtain ⟨x1, hx1⟩ := get_some s.runs k (by omega)
    refine od_pu rfl rfl (p_load_slo (j := 2) rfl rfl (get_map hx1) Try.isAgg20 rfl) ?_
    refine od_pu rfl rfl (p_assign rfl) ?_
    refine od_nil rfl ?_
    refine pd_seq ?_
    refine jd_region rfl ?_
    refine od_pu rfl rfl (p_move rfl) ?_
    refine od_pu rfl rfl (p_move rfl) ?_
    refine od_step rfl rfl (ef_call [] _ [] rfl rfl (.cons ArgC.id .nil) lend_nil Try.call97 (list_c x1) (.inl rfl)) ?_
    rintro _ _ ⟨_, ⟨rfl, rfl⟩, rfl⟩
    refine OpsD.norm [.bx gs 112 (.agg [.v (.int .i64 o), .v (.int .i64 fan), .v (.pointer (some ⟨gp, 0, none⟩)), .ov u, .v (.int .i64 s.nr), .v (.int .i64 s.nm), .v (.int .i64 0)]), .bx gp 163 (.agg [.v (.int .i64 s.p.room), .v (.int .i64 s.p.now), .v (.int .i64 s.p.high)]), .slo u 1 20 (s.runs.map RunD.d), .sl lv 1 27 ((lls (s.runs.take k)).map (D.ls 2 RowD.d))] rfl ?_
    refine od_step rfl rfl (ef_buildSlice [.tmp 29] rfl rfl (.cons CellD.sh .nil) rfl Try.runUnderlying22 Try.sizeOf27 Try.zeroValue27 rfl rfl rfl rfl) ?_
    rintro _ _ ⟨g2, rfl, rfl⟩
    refine od_step rfl rfl (ef_append_m (f := (D.ls 2 RowD.d)) (l := lls (s.runs.take k)) (l' := [x1.l]) (i := 4) rfl rfl rfl (SrcD.own (j := 0) rfl rfl) und_22 infz_27 rfl rfl (by unfold maxLen; (try simp only [List.length_append, List.length_cons, List.length_nil, List.length_map, List.length_take, List.length_drop, List.length_set, List.length_replicate]); omega) (by (try simp only [List.length_append, List.length_cons, List.length_nil, List.length_map, List.length_take, List.length_drop, List.length_set, List.length_replicate]); omega)) ?_
    rintro _ _ ⟨v3, rfl, rfl⟩
    refine OpsD.norm [.sl (.slice (some ⟨g2, 0, none⟩) 1 1) 1 27 ([.sh 2 (x1.l.map RowD.d)]), .bx gs 112 (.agg [.v (.int .i64 o), .v (.int .i64 fan), .v (.pointer (some ⟨gp, 0, none⟩)), .ov u, .v (.int .i64 s.nr), .v (.int .i64 s.nm), .v (.int .i64 0)]), .bx gp 163 (.agg [.v (.int .i64 s.p.room), .v (.int .i64 s.p.now), .v (.int .i64 s.p.high)]), .slo u 1 20 (s.runs.map RunD.d), .sl v3 1 27 (((lls (s.runs.take k)) ++ [x1.l]).map (D.ls 2 RowD.d))] rfl ?_
    refine od_pu rfl rfl (p_assign rfl) ?_
    refine od_nil rfl ?_
    refine pd_block ?_
    refine pd_seq ?_
    refine jd_region rfl ?_
    refine od_pu rfl rfl (p_add (c := ((k + 1 : Nat) : Int)) rfl rfl (w64eq (by omega) (by omega))) ?_
    refine od_pu rfl rfl (p_move rfl) ?_
    refine od_nil rfl ?_
    refine PD.subH (HSub.perm (perm_front (i := 4) rfl)) ?_
    refine PD.norm [.sl v3 1 27 (((lls (s.runs.take k)) ++ [x1.l]).map (D.ls 2 RowD.d)), .sl (.slice (some ⟨g2, 0, none⟩) 1 1) 1 27 ([.sh 2 (x1.l.map RowD.d)]), .bx gs 112 (.agg [.v (.int .i64 o), .v (.int .i64 fan), .v (.pointer (some ⟨gp, 0, none⟩)), .ov u, .v (.int .i64 s.nr), .v (.int .i64 s.nm), .v (.int .i64 0)]), .bx gp 163 (.agg [.v (.int .i64 s.p.room), .v (.int .i64 s.p.now), .v (.int .i64 s.p.high)]), .slo u 1 20 (s.runs.map RunD.d)] rfl ?_
    refine PD.subH (HSub.perm (perm_front (i := 4) rfl)) ?_
    refine PD.norm [.slo u 1 20 (s.runs.map RunD.d), .sl v3 1 27 (((lls (s.runs.take k)) ++ [x1.l]).map (D.ls 2 RowD.d)), .sl (.slice (some ⟨g2, 0, none⟩) 1 1) 1 27 ([.sh 2 (x1.l.map RowD.d)]), .bx gs 112 (.agg [.v (.int .i64 o), .v (.int .i64 fan), .v (.pointer (some ⟨gp, 0, none⟩)), .ov u, .v (.int .i64 s.nr), .v (.int .i64 s.nm), .v (.int .i64 0)]), .bx gp 163 (.agg [.v (.int .i64 s.p.room), .v (.int .i64 s.p.now), .v (.int .i64 s.p.high)])] rfl ?_
    refine PD.subH (HSub.perm (perm_front (i := 4) rfl)) ?_
    refine PD.norm [.bx gp 163 (.agg [.v (.int .i64 s.p.room), .v (.int .i64 s.p.now), .v (.int .i64 s.p.high)]), .slo u 1 20 (s.runs.map RunD.d), .sl v3 1 27 (((lls (s.runs.take k)) ++ [x1.l]).map (D.ls 2 RowD.d)), .sl (.slice (some ⟨g2, 0, none⟩) 1 1) 1 27 ([.sh 2 (x1.l.map RowD.d)]), .bx gs 112 (.agg [.v (.int .i64 o), .v (.int .i64 fan), .v (.pointer (some ⟨gp, 0, none⟩)), .ov u, .v (.int .i64 s.nr), .v (.int .i64 s.nm), .v (.int .i64 0)])] rfl ?_
    refine PD.subH (HSub.perm (perm_front (i := 4) rfl)) ?_
    refine PD.norm [.bx gs 112 (.agg [.v (.int .i64 o), .v (.int .i64 fan), .v (.pointer (some ⟨gp, 0, none⟩)), .ov u, .v (.int .i64 s.nr), .v (.int .i64 s.nm), .v (.int .i64 0)]), .bx gp 163 (.agg [.v (.int .i64 s.p.room), .v (.int .i64 s.p.now), .v (.int .i64 s.p.high)]), .slo u 1 20 (s.runs.map RunD.d), .sl v3 1 27 (((lls (s.runs.take k)) ++ [x1.l]).map (D.ls 2 RowD.d)), .sl (.slice (some ⟨g2, 0, none⟩) 1 1) 1 27 ([.sh 2 (x1.l.map RowD.d)])] rfl ?_
    refine PD.subH (HSub.fst 4 rfl) ?_
    refine PD.norm [.bx gs 112 (.agg [.v (.int .i64 o), .v (.int .i64 fan), .v (.pointer (some ⟨gp, 0, none⟩)), .ov u, .v (.int .i64 s.nr), .v (.int .i64 s.nm), .v (.int .i64 0)]), .bx gp 163 (.agg [.v (.int .i64 s.p.room), .v (.int .i64 s.p.now), .v (.int .i64 s.p.high)]), .slo u 1 20 (s.runs.map RunD.d), .sl v3 1 27 (((lls (s.runs.take k)) ++ [x1.l]).map (D.ls 2 RowD.d))] rfl ?_
    refine PD.norm [.bx gs 112 (.agg [.v (.int .i64 o), .v (.int .i64 fan), .v (.pointer (some ⟨gp, 0, none⟩)), .ov u, .v (.int .i64 s.nr), .v (.int .i64 s.nm), .v (.int .i64 0)]), .bx gp 163 (.agg [.v (.int .i64 s.p.room), .v (.int .i64 s.p.now), .v (.int .i64 s.p.high)]), .slo u 1 20 (s.runs.map RunD.d), .sl v3 1 27 ((lls (s.runs.take (k + 1))).map (D.ls 2 RowD.d))] (by rw [lls_snoc hx1]) ?_
    exact pd_loop (k + 1, v3) ⟨sk rfl, sk rfl, sk rfl, sk rfl, sk rfl, sk rfl, trivial⟩ HSub.rfl' (by show k + 1 ≤ n; omega) (by omega)
  · replace hc1 := of_decide_eq_false hc1
    obtain rfl : n = k := by omega
    have hll := lls_ok hro n
    have htt := total_lls (s.runs.take n)
    have hft := flatR_take_le s.runs n
    refine jd_exit rfl ?_
    refine pd_seq_exit ?_
    refine pd_loop_exit ?_
    refine pd_block_exit ?_
    refine pd_seq ?_
    refine jd_seq [true, true, true, false] [true, true, true, true] rfl rfl rfl ?_
    refine JD.mv (Mv.subH (HSub.perm (perm_front (i := 3) rfl))) ?_
    refine JD.norm [.sl lv 1 27 ((lls (s.runs.take n)).map (D.ls 2 RowD.d)), .bx gs 112 (.agg [.v (.int .i64 o), .v (.int .i64 fan), .v (.pointer (some ⟨gp, 0, none⟩)), .ov u, .v (.int .i64 s.nr), .v (.int .i64 s.nm), .v (.int .i64 0)]), .bx gp 163 (.agg [.v (.int .i64 s.p.room), .v (.int .i64 s.p.now), .v (.int .i64 s.p.high)]), .slo u 1 20 (s.runs.map RunD.d)] rfl ?_
    refine JD.mv (Mv.freeze (K' := [(0, .v (.pointer (some ⟨gs, 0, none⟩))), (2, .v (.int .i64 ((n : Nat) : Int))), (3, .sh 1 ((lls (s.runs.take n)).map (D.ls 2 RowD.d))), (21, .v (cut 1 u 0 n)), (22, .v (.int .i64 ((n : Nat) : Int))), (23, .v (.int .i64 ((n : Nat) : Int)))]) [.sl lv 1 27 ((lls (s.runs.take n)).map (D.ls 2 RowD.d))] (H1 := [.bx gs 112 (.agg [.v (.int .i64 o), .v (.int .i64 fan), .v (.pointer (some ⟨gp, 0, none⟩)), .ov u, .v (.int .i64 s.nr), .v (.int .i64 s.nm), .v (.int .i64 0)]), .bx gp 163 (.agg [.v (.int .i64 s.p.room), .v (.int .i64 s.p.now), .v (.int .i64 s.p.high)]), .slo u 1 20 (s.runs.map RunD.d)]) (H1' := [.bx gs 112 (.agg [.v (.int .i64 o), .v (.int .i64 fan), .v (.pointer (some ⟨gp, 0, none⟩)), .ov u, .v (.int .i64 s.nr), .v (.int .i64 s.nm), .v (.int .i64 0)]), .bx gp 163 (.agg [.v (.int .i64 s.p.room), .v (.int .i64 s.p.now), .v (.int .i64 s.p.high)]), .slo u 1 20 (s.runs.map RunD.d)]) ⟨⟨_, rfl, ArgC.id⟩, ⟨_, rfl, ArgC.id⟩, ⟨_, rfl, ArgC.own (j := 0) rfl rfl⟩, ⟨_, rfl, ArgC.id⟩, ⟨_, rfl, ArgC.id⟩, ⟨_, rfl, ArgC.id⟩, trivial⟩ (.same (.same (.same .nil)))) ?_
    refine jd_region rfl ?_
    refine od_pu rfl rfl (p_move rfl) ?_
    refine od_pu rfl rfl (p_move rfl) ?_
    refine od_step rfl rfl (ef_call [.bx gs 112 (.agg [.v (.int .i64 o), .v (.int .i64 fan), .v (.pointer (some ⟨gp, 0, none⟩)), .ov u, .v (.int .i64 s.nr), .v (.int .i64 s.nm), .v (.int .i64 0)]), .bx gp 163 (.agg [.v (.int .i64 s.p.room), .v (.int .i64 s.p.now), .v (.int .i64 s.p.high)])] [.slo u 1 20 (s.runs.map RunD.d)] [] rfl rfl (.cons ArgC.id (.cons ArgC.id .nil)) lend_nil Try.call133 (count_c gs gp u o fan s (lls (s.runs.take n)) hp (by omega) (by omega) hll) (.inl rfl)) ?_
    rintro _ _ ⟨_, ⟨rfl, rfl⟩, rfl⟩
    refine OpsD.norm [.bx gs 112 (.agg [.v (.int .i64 o), .v (.int .i64 fan), .v (.pointer (some ⟨gp, 0, none⟩)), .ov u, .v (.int .i64 s.nr), .v (.int .i64 s.nm), .v (.int .i64 0)]), .bx gp 163 (.agg [.v (.int .i64 ((countS o (lls (s.runs.take n)) s.p).room)), .v (.int .i64 ((countS o (lls (s.runs.take n)) s.p).now)), .v (.int .i64 ((countS o (lls (s.runs.take n)) s.p).high))]), .slo u 1 20 (s.runs.map RunD.d)] rfl ?_
    refine od_nil rfl ?_
    refine pd_seq ?_
    refine jd_seq [true, true, true, true, false] [true, true, true, true, true] rfl rfl rfl ?_
    refine JD.subH (HSub.perm (perm_front (i := 2) rfl)) ?_
    refine JD.norm [.slo u 1 20 (s.runs.map RunD.d), .bx gs 112 (.agg [.v (.int .i64 o), .v (.int .i64 fan), .v (.pointer (some ⟨gp, 0, none⟩)), .ov u, .v (.int .i64 s.nr), .v (.int .i64 s.nm), .v (.int .i64 0)]), .bx gp 163 (.agg [.v (.int .i64 ((countS o (lls (s.runs.take n)) s.p).room)), .v (.int .i64 ((countS o (lls (s.runs.take n)) s.p).now)), .v (.int .i64 ((countS o (lls (s.runs.take n)) s.p).high))])] rfl ?_
    refine JD.keep [0, 2, 3, 21, 22, 23, 33, 34, 35] [(0, .v (.pointer (some ⟨gs, 0, none⟩))), (2, .v (.int .i64 ((n : Nat) : Int))), (3, .sh 1 ((lls (s.runs.take n)).map (D.ls 2 RowD.d))), (21, .v (cut 1 u 0 n)), (22, .v (.int .i64 ((n : Nat) : Int))), (23, .v (.int .i64 ((n : Nat) : Int))), (33, .v (.pointer (some ⟨gs, 0, none⟩))), (34, .sh 1 ((lls (s.runs.take n)).map (D.ls 2 RowD.d))), (35, .tup [])] rfl ?_
    refine JD.norm [.slo u 1 20 (s.runs.map RunD.d), .bx gs 112 (.agg [.v (.int .i64 o), .v (.int .i64 fan), .v (.pointer (some ⟨gp, 0, none⟩)), .ov u, .v (.int .i64 s.nr), .v (.int .i64 s.nm), .v (.int .i64 0)]), .bx gp 163 (.agg [.v (.int .i64 ((countS o (lls (s.runs.take n)) s.p).room)), .v (.int .i64 ((countS o (lls (s.runs.take n)) s.p).now)), .v (.int .i64 ((countS o (lls (s.runs.take n)) s.p).high))])] rfl ?_
    refine jd_drawo 17 [(36, .q (.v (.pointer (some ⟨gs, 0, none⟩)))), (37, .q (.v (.pointer (some ⟨gs, 0, none⟩)))), (38, .q (.v (.pointer (some ⟨gs, 0, none⟩)))), (39, .q (.v (.pointer (some ⟨gs, 3, none⟩)))), (40, .q (.ov u)), (41, .q (.v (.int .i64 ((n : Nat) : Int)))), (42, .o (fun γ => [.slo (γ 6) 1 20 ((s.runs.drop n).map RunD.d), .bx gs 112 (.agg [.v (.int .i64 o), .v (.int .i64 fan), .v (.pointer (some ⟨gp, 0, none⟩)), .ov u, .v (.int .i64 s.nr), .v (.int .i64 s.nm), .v (.int .i64 0)]), .bx gp 163 (.agg [.v (.int .i64 ((countS o (lls (s.runs.take n)) s.p).room)), .v (.int .i64 ((countS o (lls (s.runs.take n)) s.p).now)), .v (.int .i64 ((countS o (lls (s.runs.take n)) s.p).high))])])), (43, .q (.v (.pointer (some ⟨gs, 0, none⟩)))), (44, .q (.v (.pointer (some ⟨gs, 0, none⟩)))), (45, .q (.v (.pointer (some ⟨gs, 0, none⟩)))), (46, .q (.v (.int .i64 o))), (47, .q (.sh 1 ((lls (s.runs.take n)).map (D.ls 2 RowD.d)))), (48, .q (.sh 2 (((runR o (lls (s.runs.take n))).1).map RowD.d))), (49, .q (.agg [.sh 2 (((runR o (lls (s.runs.take n))).1).map RowD.d)])), (50, .q (.ifc 166 (.agg [.sh 2 (((runR o (lls (s.runs.take n))).1).map RowD.d)]))), (51, .q (.sh 1 ([(RunD.mk false ((runR o (lls (s.runs.take n))).1))].map RunD.d))), (52, .o (fun γ => [.slo (γ 16) 1 20 (((s.runs.drop n) ++ [(RunD.mk false ((runR o (lls (s.runs.take n))).1))]).map RunD.d), .bx gs 112 (.agg [.v (.int .i64 o), .v (.int .i64 fan), .v (.pointer (some ⟨gp, 0, none⟩)), .ov u, .v (.int .i64 s.nr), .v (.int .i64 s.nm), .v (.int .i64 0)]), .bx gp 163 (.agg [.v (.int .i64 ((countS o (lls (s.runs.take n)) s.p).room)), .v (.int .i64 ((countS o (lls (s.runs.take n)) s.p).now)), .v (.int .i64 ((countS o (lls (s.runs.take n)) s.p).high))])]))] [.bx gs 112 (.agg [.v (.int .i64 o), .v (.int .i64 fan), .v (.pointer (some ⟨gp, 0, none⟩)), .ov u, .v (.int .i64 s.nr), .v (.int .i64 s.nm), .v (.int .i64 0)]), .bx gp 163 (.agg [.v (.int .i64 ((countS o (lls (s.runs.take n)) s.p).room)), .v (.int .i64 ((countS o (lls (s.runs.take n)) s.p).now)), .v (.int .i64 ((countS o (lls (s.runs.take n)) s.p).high))])] (Hn := fun γ => [.slo (γ 16) 1 20 (((s.runs.drop n) ++ [(RunD.mk false ((runR o (lls (s.runs.take n))).1))]).map RunD.d), .bx gs 112 (.agg [.v (.int .i64 o), .v (.int .i64 fan), .v (.pointer (some ⟨gp, 0, none⟩)), .ov u, .v (.int .i64 s.nr), .v (.int .i64 s.nm), .v (.int .i64 0)]), .bx gp 163 (.agg [.v (.int .i64 ((countS o (lls (s.runs.take n)) s.p).room)), .v (.int .i64 ((countS o (lls (s.runs.take n)) s.p).now)), .v (.int .i64 ((countS o (lls (s.runs.take n)) s.p).high))])]) mixed rfl rfl (by kernel_rfl) (by kernel_rfl) (by kernel_rfl) (HSub.lst 1 rfl) (fun _ => rfl) (fun γ => ⟨so_p rfl rfl rfl (p_move rfl), so_p rfl rfl rfl (p_move rfl), so_p rfl rfl rfl (p_nilCheck rfl), so_p rfl rfl rfl (p_fieldAddr rfl fa_112_3 rfl), so_p rfl rfl rfl (p_load_bx1 rfl (i := 0) rfl Try.isAgg110 rfl), so_p rfl rfl rfl (p_move rfl), so_o rfl rfl rfl rfl ((ef_slice_slo_m (f := RunD.d) (l := s.runs) (a := n) (j := 0) rfl rfl rfl (by first | rfl | (show _ = _; omega)) Try.runUnderlying110 Try.sizeOf20 (by omega)).mono (by rintro _ _ ⟨v, rfl, rfl⟩; exact ⟨v, rfl, rfl⟩)) (fun _ => HSub.lst 1 rfl), so_p rfl rfl rfl (p_move rfl), so_p rfl rfl rfl (p_nilCheck rfl), so_p rfl rfl rfl (p_fieldAddr rfl fa_112_0 rfl), so_p rfl rfl rfl (p_load_bx1 rfl (i := 0) rfl Try.isAgg3 rfl), so_p rfl rfl rfl (p_move rfl), so_q rfl rfl rfl (qu_call rfl (.cons Cv.rfl' (.cons Cv.rfl' .nil)) Try.call16 (rows_c o (lls (s.runs.take n)) (by omega) (by omega)) isOwn_share), so_p rfl rfl rfl (p_build [0] [.tmp 48] (zv := (.agg #[(.slice none 0 0)])) rfl rfl (.cons CellD.sh .nil) (Try.runUnderlying166) Try.zeroValue166 bd_166 ⟨rfl, trivial⟩ rfl), so_p rfl rfl rfl (p_mkIface rfl (fun _ _ => by kernel_rfl)), so_q rfl rfl rfl (qu_buildSlice [.tmp 50] rfl rfl (.cons CellD.ifc .nil) rfl Try.runUnderlying110 Try.sizeOf20 Try.zeroValue20 rfl rfl rfl rfl), so_o rfl rfl rfl rfl ((ef_append_slo (f := RunD.d) (l := (s.runs.drop n)) (l' := [(RunD.mk false ((runR o (lls (s.runs.take n))).1))]) (i := 0) rfl rfl rfl (SrcD.sh) (by simp) und_110 infz_20 rfl rfl (by unfold maxLen; (try simp only [List.length_append, List.length_cons, List.length_nil, List.length_map, List.length_take, List.length_drop, List.length_set, List.length_replicate]); omega) (by (try simp only [List.length_append, List.length_cons, List.length_nil, List.length_map, List.length_take, List.length_drop, List.length_set, List.length_replicate]); omega)).mono (by rintro _ _ ⟨v, rfl, rfl⟩; exact ⟨v, rfl, rfl⟩)) (fun _ => HSub.lst 1 rfl), trivial⟩) (fun γ => ?_)
    refine OpsD.keep [0, 2, 3, 21, 22, 23, 33, 34, 35, 36, 37, 38, 39, 40, 41, 42, 43, 44, 45, 46, 47, 48, 49, 50, 51, 52] [(0, .v (.pointer (some ⟨gs, 0, none⟩))), (2, .v (.int .i64 ((n : Nat) : Int))), (3, .sh 1 ((lls (s.runs.take n)).map (D.ls 2 RowD.d))), (21, .v (cut 1 u 0 n)), (22, .v (.int .i64 ((n : Nat) : Int))), (23, .v (.int .i64 ((n : Nat) : Int))), (33, .v (.pointer (some ⟨gs, 0, none⟩))), (34, .sh 1 ((lls (s.runs.take n)).map (D.ls 2 RowD.d))), (35, .tup []), (36, .v (.pointer (some ⟨gs, 0, none⟩))), (37, .v (.pointer (some ⟨gs, 0, none⟩))), (38, .v (.pointer (some ⟨gs, 0, none⟩))), (39, .v (.pointer (some ⟨gs, 3, none⟩))), (40, .ov u), (41, .v (.int .i64 ((n : Nat) : Int))), (42, .ov (γ 6)), (43, .v (.pointer (some ⟨gs, 0, none⟩))), (44, .v (.pointer (some ⟨gs, 0, none⟩))), (45, .v (.pointer (some ⟨gs, 0, none⟩))), (46, .v (.int .i64 o)), (47, .sh 1 ((lls (s.runs.take n)).map (D.ls 2 RowD.d))), (48, .sh 2 (((runR o (lls (s.runs.take n))).1).map RowD.d)), (49, .agg [.sh 2 (((runR o (lls (s.runs.take n))).1).map RowD.d)]), (50, .ifc 166 (.agg [.sh 2 (((runR o (lls (s.runs.take n))).1).map RowD.d)])), (51, .sh 1 ([(RunD.mk false ((runR o (lls (s.runs.take n))).1))].map RunD.d)), (52, .ov (γ 16))] rfl ?_
    refine od_pu rfl rfl (p_nilCheck rfl) ?_
    refine od_pu rfl rfl (p_fieldAddr rfl fa_112_3 rfl) ?_
    refine od_step rfl rfl (ef_store_bx (i := 1) (X' := .agg [.v (.int .i64 o), .v (.int .i64 fan), .v (.pointer (some ⟨gp, 0, none⟩)), .ov (γ 16), .v (.int .i64 s.nr), .v (.int .i64 s.nm), .v (.int .i64 0)]) rfl rfl rfl (CellD.o) Try.sizeOf110 rfl rfl rfl) ?_
    rintro _ _ ⟨rfl, rfl⟩
    refine OpsD.norm [.slo (γ 16) 1 20 (((s.runs.drop n) ++ [(RunD.mk false ((runR o (lls (s.runs.take n))).1))]).map RunD.d), .bx gs 112 (.agg [.v (.int .i64 o), .v (.int .i64 fan), .v (.pointer (some ⟨gp, 0, none⟩)), .ov (γ 16), .v (.int .i64 s.nr), .v (.int .i64 s.nm), .v (.int .i64 0)]), .bx gp 163 (.agg [.v (.int .i64 ((countS o (lls (s.runs.take n)) s.p).room)), .v (.int .i64 ((countS o (lls (s.runs.take n)) s.p).now)), .v (.int .i64 ((countS o (lls (s.runs.take n)) s.p).high))])] rfl ?_
    refine od_nil rfl ?_
    refine pd_seq ?_
    refine JD.keep [0] [(0, .v (.pointer (some ⟨gs, 0, none⟩)))] rfl ?_
    refine jd_region rfl ?_
    refine od_pu rfl rfl (p_move rfl) ?_
    refine od_pu rfl rfl (p_nilCheck rfl) ?_
    refine od_pu rfl rfl (p_fieldAddr rfl fa_112_4 rfl) ?_
    refine od_pu rfl rfl (p_fieldAddr rfl fa_59_1 rfl) ?_
    refine od_pu rfl rfl (p_load_bx1 rfl (i := 1) rfl Try.isAgg3 rfl) ?_
    refine od_pu rfl rfl (p_add (c := (s.nm + 1)) rfl rfl (w64eq (by omega) (by omega))) ?_
    refine od_pu rfl rfl (p_nilCheck rfl) ?_
    refine od_pu rfl rfl (p_fieldAddr rfl fa_112_4 rfl) ?_
    refine od_pu rfl rfl (p_fieldAddr rfl fa_59_1 rfl) ?_
    refine od_step rfl rfl (ef_store_bx (i := 1) (X' := .agg [.v (.int .i64 o), .v (.int .i64 fan), .v (.pointer (some ⟨gp, 0, none⟩)), .ov (γ 16), .v (.int .i64 s.nr), .v (.int .i64 (s.nm + 1)), .v (.int .i64 0)]) rfl rfl rfl (CellD.v rfl) Try.sizeOf3 rfl rfl rfl) ?_
    rintro _ _ ⟨rfl, rfl⟩
    refine OpsD.norm [.slo (γ 16) 1 20 (((s.runs.drop n) ++ [(RunD.mk false ((runR o (lls (s.runs.take n))).1))]).map RunD.d), .bx gs 112 (.agg [.v (.int .i64 o), .v (.int .i64 fan), .v (.pointer (some ⟨gp, 0, none⟩)), .ov (γ 16), .v (.int .i64 s.nr), .v (.int .i64 (s.nm + 1)), .v (.int .i64 0)]), .bx gp 163 (.agg [.v (.int .i64 ((countS o (lls (s.runs.take n)) s.p).room)), .v (.int .i64 ((countS o (lls (s.runs.take n)) s.p).now)), .v (.int .i64 ((countS o (lls (s.runs.take n)) s.p).high))])] rfl ?_
    refine od_nil rfl ?_
    refine PD.subH (HSub.perm (perm_front (i := 2) rfl)) ?_
    refine PD.norm [.bx gp 163 (.agg [.v (.int .i64 ((countS o (lls (s.runs.take n)) s.p).room)), .v (.int .i64 ((countS o (lls (s.runs.take n)) s.p).now)), .v (.int .i64 ((countS o (lls (s.runs.take n)) s.p).high))]), .slo (γ 16) 1 20 (((s.runs.drop n) ++ [(RunD.mk false ((runR o (lls (s.runs.take n))).1))]).map RunD.d), .bx gs 112 (.agg [.v (.int .i64 o), .v (.int .i64 fan), .v (.pointer (some ⟨gp, 0, none⟩)), .ov (γ 16), .v (.int .i64 s.nr), .v (.int .i64 (s.nm + 1)), .v (.int .i64 0)])] rfl ?_
    refine PD.subH (HSub.perm (perm_front (i := 2) rfl)) ?_
    refine PD.norm [.bx gs 112 (.agg [.v (.int .i64 o), .v (.int .i64 fan), .v (.pointer (some ⟨gp, 0, none⟩)), .ov (γ 16), .v (.int .i64 s.nr), .v (.int .i64 (s.nm + 1)), .v (.int .i64 0)]), .bx gp 163 (.agg [.v (.int .i64 ((countS o (lls (s.runs.take n)) s.p).room)), .v (.int .i64 ((countS o (lls (s.runs.take n)) s.p).now)), .v (.int .i64 ((countS o (lls (s.runs.take n)) s.p).high))]), .slo (γ 16) 1 20 (((s.runs.drop n) ++ [(RunD.mk false ((runR o (lls (s.runs.take n))).1))]).map RunD.d)] rfl ?_
    refine PD.norm [.bx gs 112 (.agg [.v (.int .i64 o), .v (.int .i64 fan), .v (.pointer (some ⟨gp, 0, none⟩)), .ov (γ 16), .v (.int .i64 s.nr), .v (.int .i64 (s.nm + 1)), .v (.int .i64 0)]), .bx gp 163 (.agg [.v (.int .i64 ((countS o (lls (s.runs.take n)) s.p).room)), .v (.int .i64 ((countS o (lls (s.runs.take n)) s.p).now)), .v (.int .i64 ((countS o (lls (s.runs.take n)) s.p).high))]), .slo (γ 16) 1 20 (((s.runs.drop n) ++ [(RunD.mk false ((runR o (lls (s.runs.take n))).1))]).map RunD.d)] rfl ?_
    refine PD.norm [.bx gs 112 (.agg [.v (.int .i64 o), .v (.int .i64 fan), .v (.pointer (some ⟨gp, 0, none⟩)), .ov (γ 16), .v (.int .i64 ((mergeS o (min fn s.runs.length) s).nr)), .v (.int .i64 ((mergeS o (min fn s.runs.length) s).nm)), .v (.int .i64 0)]), .bx gp 163 (.agg [.v (.int .i64 (((mergeS o (min fn s.runs.length) s).p).room)), .v (.int .i64 (((mergeS o (min fn s.runs.length) s).p).now)), .v (.int .i64 (((mergeS o (min fn s.runs.length) s).p).high))]), .slo (γ 16) 1 20 (((mergeS o (min fn s.runs.length) s).runs).map RunD.d)] (by rw [← hn]; rfl) ?_
    exact pd_endH Try.results95 .nil rfl HSub.rfl' ⟨_, rfl, rfl⟩

theorem perm_5b {a b c d e : Hp} : [a, b, c, d, e].Perm [b, c, d, e, a] := List.perm_append_comm (l₁ := [a]) (l₂ := [b, c, d, e])

set_option maxHeartbeats 4000000 in
set_option maxRecDepth 100000 in
theorem Sort_c (o : Int) (room : Int) (fan : Int) (l : List RowD) (hl : LightRs l) (hll : l.length ≤ 2000) :
    CD Try.prog 32 [] [.v (.int .i64 o), .v (.int .i64 room), .v (.int .i64 fan), .sh 2 (l.map RowD.d)] (fun r H' => ∃ v0_, r = .tup [.ov v0_, RepD.d (sortP o room fan l), dI (sortE room fan l)] ∧ H' = [.sl v0_ 2 34 ((sortL o room fan l).map RowD.d)]) := by
  refine cd_of_JD Try.func32 rfl (N := 88) rfl rfl (fun C => ?_)
  refine JD.keep [0, 1, 2, 3] [(0, .v (.int .i64 o)), (1, .v (.int .i64 room)), (2, .v (.int .i64 fan)), (3, .sh 2 (l.map RowD.d))] rfl ?_
  refine JD.bd 3 rfl (fun bd3 => ?_)
  have nl3 := bd_len bd3
  refine jd_seq [false] [true] rfl rfl rfl ?_
  refine jd_region rfl ?_
  refine od_pu rfl rfl (p_assign rfl) ?_
  refine od_step rfl rfl (ef_alloc (zv := (.agg #[(.int .i64 0), (.int .i64 0), (.int .i64 0)])) Try.zeroValue59 ⟨rfl, rfl, rfl, trivial⟩ (Cv.vagg (by decide))) ?_
  rintro _ _ ⟨g1, rfl, rfl⟩
  refine od_pu rfl rfl (p_assign rfl) ?_
  refine od_nil rfl ?_
  refine pd_seq ?_
  refine jd_seq [true, false] [true, true] rfl rfl rfl ?_
  refine jd_block [true, false, false] rfl rfl ?_
  refine jd_seq [true, false, false, false] [true, false, false, true] rfl rfl rfl ?_
  refine JD.keep [0, 1, 2, 3, 8, 9, 10] [(0, .v (.int .i64 o)), (1, .v (.int .i64 room)), (2, .v (.int .i64 fan)), (3, .sh 2 (l.map RowD.d)), (8, .v (.slice none 0 0)), (9, .v (.pointer (some ⟨g1, 0, none⟩))), (10, .v (.int .i64 0))] rfl ?_
  refine jd_sum 15 (((((decide (fan < (2 : Int)) || decide ((20 : Int) < fan)) || decide (room < (0 : Int))) || decide ((1000000 : Int) < room)) || decide ((2000 : Int) < ((l.length : Nat) : Int)))) [.bx g1 59 (.agg [.v (.int .i64 0), .v (.int .i64 0), .v (.int .i64 0)])] (fun _ hQ2 => ?_) ?_
  · skip
    by_cases hg3 : fan < (2 : Int)
    · skip
      refine jd_region rfl ?_
      refine od_pu rfl rfl (p_move rfl) ?_
      refine od_pu rfl rfl (p_lss rfl rfl (decide_eq_true hg3)) ?_
      refine od_pu rfl rfl (p_move rfl) ?_
      refine od_skip rfl rfl rfl rfl rfl (by decide) ?_
      refine od_skip rfl rfl rfl rfl rfl (by decide) ?_
      refine od_pu rfl rfl (p_pick_t rfl rfl) ?_
      refine od_pu rfl rfl (p_move rfl) ?_
      refine od_skip rfl rfl rfl rfl rfl (by decide) ?_
      refine od_skip rfl rfl rfl rfl rfl (by decide) ?_
      refine od_pu rfl rfl (p_pick_t rfl rfl) ?_
      refine od_pu rfl rfl (p_move rfl) ?_
      refine od_skip rfl rfl rfl rfl rfl (by decide) ?_
      refine od_skip rfl rfl rfl rfl rfl (by decide) ?_
      refine od_pu rfl rfl (p_pick_t rfl rfl) ?_
      refine od_pu rfl rfl (p_move rfl) ?_
      refine od_skip rfl rfl rfl rfl rfl (by decide) ?_
      refine od_skip rfl rfl rfl rfl rfl (by decide) ?_
      refine od_skip rfl rfl rfl rfl rfl (by decide) ?_
      refine od_pu rfl rfl (p_pick_t rfl rfl) ?_
      refine od_pu rfl rfl (p_assign rfl) ?_
      refine od_nil rfl ?_
      exact PD.sub ((15, .v (.bool ((((decide (fan < (2 : Int)) || decide ((20 : Int) < fan)) || decide (room < (0 : Int))) || decide ((1000000 : Int) < room)) || decide ((2000 : Int) < ((l.length : Nat) : Int))))) :: [(0, .v (.int .i64 o)), (1, .v (.int .i64 room)), (2, .v (.int .i64 fan)), (3, .sh 2 (l.map RowD.d)), (8, .v (.slice none 0 0)), (9, .v (.pointer (some ⟨g1, 0, none⟩))), (10, .v (.int .i64 0))]) ⟨sc rfl (Cv.eq (congrArg (fun b => D.v (.bool b)) (by first | (simp [hg3]; done) | (simp_all; done)))), sk rfl, sk rfl, sk rfl, sk rfl, sk rfl, sk rfl, sk rfl, trivial⟩ hQ2
    · skip
      by_cases hg4 : (20 : Int) < fan
      · skip
        refine jd_region rfl ?_
        refine od_pu rfl rfl (p_move rfl) ?_
        refine od_pu rfl rfl (p_lss rfl rfl (decide_eq_false hg3)) ?_
        refine od_pu rfl rfl (p_move rfl) ?_
        refine od_runp rfl rfl rfl rfl rfl (p_move rfl) ?_
        refine od_runp rfl rfl rfl rfl rfl (p_gtr rfl rfl (decide_eq_true hg4)) ?_
        refine od_pu rfl rfl (p_pick_f rfl rfl) ?_
        refine od_pu rfl rfl (p_move rfl) ?_
        refine od_skip rfl rfl rfl rfl rfl (by decide) ?_
        refine od_skip rfl rfl rfl rfl rfl (by decide) ?_
        refine od_pu rfl rfl (p_pick_t rfl rfl) ?_
        refine od_pu rfl rfl (p_move rfl) ?_
        refine od_skip rfl rfl rfl rfl rfl (by decide) ?_
        refine od_skip rfl rfl rfl rfl rfl (by decide) ?_
        refine od_pu rfl rfl (p_pick_t rfl rfl) ?_
        refine od_pu rfl rfl (p_move rfl) ?_
        refine od_skip rfl rfl rfl rfl rfl (by decide) ?_
        refine od_skip rfl rfl rfl rfl rfl (by decide) ?_
        refine od_skip rfl rfl rfl rfl rfl (by decide) ?_
        refine od_pu rfl rfl (p_pick_t rfl rfl) ?_
        refine od_pu rfl rfl (p_assign rfl) ?_
        refine od_nil rfl ?_
        exact PD.sub ((15, .v (.bool ((((decide (fan < (2 : Int)) || decide ((20 : Int) < fan)) || decide (room < (0 : Int))) || decide ((1000000 : Int) < room)) || decide ((2000 : Int) < ((l.length : Nat) : Int))))) :: [(0, .v (.int .i64 o)), (1, .v (.int .i64 room)), (2, .v (.int .i64 fan)), (3, .sh 2 (l.map RowD.d)), (8, .v (.slice none 0 0)), (9, .v (.pointer (some ⟨g1, 0, none⟩))), (10, .v (.int .i64 0))]) ⟨sc rfl (Cv.eq (congrArg (fun b => D.v (.bool b)) (by first | (simp [hg3, hg4]; done) | (simp_all; done)))), sk rfl, sk rfl, sk rfl, sk rfl, sk rfl, sk rfl, sk rfl, trivial⟩ hQ2
      · skip
        by_cases hg5 : room < (0 : Int)
        · skip
          refine jd_region rfl ?_
          refine od_pu rfl rfl (p_move rfl) ?_
          refine od_pu rfl rfl (p_lss rfl rfl (decide_eq_false hg3)) ?_
          refine od_pu rfl rfl (p_move rfl) ?_
          refine od_runp rfl rfl rfl rfl rfl (p_move rfl) ?_
          refine od_runp rfl rfl rfl rfl rfl (p_gtr rfl rfl (decide_eq_false hg4)) ?_
          refine od_pu rfl rfl (p_pick_f rfl rfl) ?_
          refine od_pu rfl rfl (p_move rfl) ?_
          refine od_runp rfl rfl rfl rfl rfl (p_move rfl) ?_
          refine od_runp rfl rfl rfl rfl rfl (p_lss rfl rfl (decide_eq_true hg5)) ?_
          refine od_pu rfl rfl (p_pick_f rfl rfl) ?_
          refine od_pu rfl rfl (p_move rfl) ?_
          refine od_skip rfl rfl rfl rfl rfl (by decide) ?_
          refine od_skip rfl rfl rfl rfl rfl (by decide) ?_
          refine od_pu rfl rfl (p_pick_t rfl rfl) ?_
          refine od_pu rfl rfl (p_move rfl) ?_
          refine od_skip rfl rfl rfl rfl rfl (by decide) ?_
          refine od_skip rfl rfl rfl rfl rfl (by decide) ?_
          refine od_skip rfl rfl rfl rfl rfl (by decide) ?_
          refine od_pu rfl rfl (p_pick_t rfl rfl) ?_
          refine od_pu rfl rfl (p_assign rfl) ?_
          refine od_nil rfl ?_
          exact PD.sub ((15, .v (.bool ((((decide (fan < (2 : Int)) || decide ((20 : Int) < fan)) || decide (room < (0 : Int))) || decide ((1000000 : Int) < room)) || decide ((2000 : Int) < ((l.length : Nat) : Int))))) :: [(0, .v (.int .i64 o)), (1, .v (.int .i64 room)), (2, .v (.int .i64 fan)), (3, .sh 2 (l.map RowD.d)), (8, .v (.slice none 0 0)), (9, .v (.pointer (some ⟨g1, 0, none⟩))), (10, .v (.int .i64 0))]) ⟨sc rfl (Cv.eq (congrArg (fun b => D.v (.bool b)) (by first | (simp [hg3, hg4, hg5]; done) | (simp_all; done)))), sk rfl, sk rfl, sk rfl, sk rfl, sk rfl, sk rfl, sk rfl, trivial⟩ hQ2
        · skip
          by_cases hg6 : (1000000 : Int) < room
          · skip
            refine jd_region rfl ?_
            refine od_pu rfl rfl (p_move rfl) ?_
            refine od_pu rfl rfl (p_lss rfl rfl (decide_eq_false hg3)) ?_
            refine od_pu rfl rfl (p_move rfl) ?_
            refine od_runp rfl rfl rfl rfl rfl (p_move rfl) ?_
            refine od_runp rfl rfl rfl rfl rfl (p_gtr rfl rfl (decide_eq_false hg4)) ?_
            refine od_pu rfl rfl (p_pick_f rfl rfl) ?_
            refine od_pu rfl rfl (p_move rfl) ?_
            refine od_runp rfl rfl rfl rfl rfl (p_move rfl) ?_
            refine od_runp rfl rfl rfl rfl rfl (p_lss rfl rfl (decide_eq_false hg5)) ?_
            refine od_pu rfl rfl (p_pick_f rfl rfl) ?_
            refine od_pu rfl rfl (p_move rfl) ?_
            refine od_runp rfl rfl rfl rfl rfl (p_move rfl) ?_
            refine od_runp rfl rfl rfl rfl rfl (p_gtr rfl rfl (decide_eq_true hg6)) ?_
            refine od_pu rfl rfl (p_pick_f rfl rfl) ?_
            refine od_pu rfl rfl (p_move rfl) ?_
            refine od_skip rfl rfl rfl rfl rfl (by decide) ?_
            refine od_skip rfl rfl rfl rfl rfl (by decide) ?_
            refine od_skip rfl rfl rfl rfl rfl (by decide) ?_
            refine od_pu rfl rfl (p_pick_t rfl rfl) ?_
            refine od_pu rfl rfl (p_assign rfl) ?_
            refine od_nil rfl ?_
            exact PD.sub ((15, .v (.bool ((((decide (fan < (2 : Int)) || decide ((20 : Int) < fan)) || decide (room < (0 : Int))) || decide ((1000000 : Int) < room)) || decide ((2000 : Int) < ((l.length : Nat) : Int))))) :: [(0, .v (.int .i64 o)), (1, .v (.int .i64 room)), (2, .v (.int .i64 fan)), (3, .sh 2 (l.map RowD.d)), (8, .v (.slice none 0 0)), (9, .v (.pointer (some ⟨g1, 0, none⟩))), (10, .v (.int .i64 0))]) ⟨sc rfl (Cv.eq (congrArg (fun b => D.v (.bool b)) (by first | (simp [hg3, hg4, hg5, hg6]; done) | (simp_all; done)))), sk rfl, sk rfl, sk rfl, sk rfl, sk rfl, sk rfl, sk rfl, trivial⟩ hQ2
          · skip
            refine jd_region rfl ?_
            refine od_pu rfl rfl (p_move rfl) ?_
            refine od_pu rfl rfl (p_lss rfl rfl (decide_eq_false hg3)) ?_
            refine od_pu rfl rfl (p_move rfl) ?_
            refine od_runp rfl rfl rfl rfl rfl (p_move rfl) ?_
            refine od_runp rfl rfl rfl rfl rfl (p_gtr rfl rfl (decide_eq_false hg4)) ?_
            refine od_pu rfl rfl (p_pick_f rfl rfl) ?_
            refine od_pu rfl rfl (p_move rfl) ?_
            refine od_runp rfl rfl rfl rfl rfl (p_move rfl) ?_
            refine od_runp rfl rfl rfl rfl rfl (p_lss rfl rfl (decide_eq_false hg5)) ?_
            refine od_pu rfl rfl (p_pick_f rfl rfl) ?_
            refine od_pu rfl rfl (p_move rfl) ?_
            refine od_runp rfl rfl rfl rfl rfl (p_move rfl) ?_
            refine od_runp rfl rfl rfl rfl rfl (p_gtr rfl rfl (decide_eq_false hg6)) ?_
            refine od_pu rfl rfl (p_pick_f rfl rfl) ?_
            refine od_pu rfl rfl (p_move rfl) ?_
            refine od_runp rfl rfl rfl rfl rfl (p_move rfl) ?_
            refine od_runp rfl rfl rfl rfl rfl (p_len (n := l.length) rfl Try.runUnderlying27 (by simp only [List.length_map, List.length_cons, List.length_nil])) ?_
            refine od_runp rfl rfl rfl rfl rfl (p_gtr rfl rfl rfl) ?_
            refine od_pu rfl rfl (p_pick_f rfl rfl) ?_
            refine od_pu rfl rfl (p_assign rfl) ?_
            refine od_nil rfl ?_
            exact PD.sub ((15, .v (.bool ((((decide (fan < (2 : Int)) || decide ((20 : Int) < fan)) || decide (room < (0 : Int))) || decide ((1000000 : Int) < room)) || decide ((2000 : Int) < ((l.length : Nat) : Int))))) :: [(0, .v (.int .i64 o)), (1, .v (.int .i64 room)), (2, .v (.int .i64 fan)), (3, .sh 2 (l.map RowD.d)), (8, .v (.slice none 0 0)), (9, .v (.pointer (some ⟨g1, 0, none⟩))), (10, .v (.int .i64 0))]) ⟨sc rfl (Cv.eq (congrArg (fun b => D.v (.bool b)) (by first | (simp [hg3, hg4, hg5, hg6]; done) | (simp_all; done)))), sk rfl, sk rfl, sk rfl, sk rfl, sk rfl, sk rfl, sk rfl, trivial⟩ hQ2
  · skip
    refine pd_seq ?_
    refine jd_cond [true, false, false, true, false] [true, false, false, true, true] rfl rfl rfl rfl (fun hc7 => ?_) (fun hc7 => ?_)
    · simp only [Bool.and_eq_true, Bool.or_eq_true, Bool.not_eq_true', Bool.not_eq_false', Bool.and_eq_false_iff, Bool.or_eq_false_iff, decide_eq_true_eq, decide_eq_false_iff_not, Decidable.not_not, ne_eq] at hc7
      refine jd_seq [true, false, false, true, false, false] [true, false, false, true, false, true] rfl rfl rfl ?_
      refine jd_region rfl ?_
      refine od_pu rfl rfl (p_build [] [] (zv := (.agg #[(.int .i64 0), (.int .i64 0), (.int .i64 0)])) rfl rfl (.nil) (Try.runUnderlying59) Try.zeroValue59 bd_59 ⟨rfl, rfl, rfl, trivial⟩ rfl) ?_
      refine od_pu rfl rfl (p_assign rfl) ?_
      refine od_step rfl rfl (ef_store_bx (i := 0) (X' := .agg [.v (.int .i64 0), .v (.int .i64 0), .v (.int .i64 0)]) rfl rfl rfl (CellD.agg) Try.sizeOf59 rfl rfl rfl) ?_
      rintro _ _ ⟨rfl, rfl⟩
      refine OpsD.norm [.bx g1 59 (.agg [.v (.int .i64 0), .v (.int .i64 0), .v (.int .i64 0)])] rfl ?_
      refine od_pu rfl rfl (p_assign rfl) ?_
      refine od_nil rfl ?_
      refine pd_seq ?_
      refine jd_ret rfl ?_
      refine pd_block_ret ?_
      refine pd_seq_ret ?_
      refine PD.subH (HSub.nil 2 34) ?_
      refine PD.norm [.sl (.slice none 0 0) 2 34 ((sortL o room fan l).map RowD.d), .bx g1 59 (.agg [.v (.int .i64 0), .v (.int .i64 0), .v (.int .i64 0)])] (by have hw : [] = sortL o room fan l := (by have hE := sortE_1 (room := room) (fan := fan) (l := l) (by omega); first | exact hE.symm | exact (sortL_e (o := o) (by rw [hE]; decide)).1.symm | exact (sortL_e (o := o) (by rw [hE]; decide)).2.symm); rw [show ([] : List D) = List.map RowD.d (sortL o room fan l) from congrArg (List.map RowD.d) hw]) ?_
      exact pd_retH Try.results32 (.cons (ro_cv (ro_tmp rfl) (Cv.ov rfl)) (.cons (ro_cv (ro_cell (X := .agg [.v (.int .i64 0), .v (.int .i64 0), .v (.int .i64 0)]) (d := .agg [.v (.int .i64 0), .v (.int .i64 0), .v (.int .i64 0)]) (i := 1) rfl rfl Try.isAgg59 Try.sizeOf59 rfl rfl) (Cv.eq (congrArg RepD.d (show (RepD.mk 0 0 0) = sortP o room fan l from (by have hE := sortE_1 (room := room) (fan := fan) (l := l) (by omega); first | exact hE.symm | exact (sortL_e (o := o) (by rw [hE]; decide)).1.symm | exact (sortL_e (o := o) (by rw [hE]; decide)).2.symm))))) (.cons (ro_cv (ro_tmp rfl) (Cv.eq (congrArg (fun n => D.v (.int .i64 n)) (by have hE := sortE_1 (room := room) (fan := fan) (l := l) (by omega); first | exact hE.symm | exact (sortL_e (o := o) (by rw [hE]; decide)).1.symm | exact (sortL_e (o := o) (by rw [hE]; decide)).2.symm)))) .nil))) rfl (HSub.fst 1 rfl) ⟨(.slice none 0 0), rfl, rfl⟩
    · simp only [Bool.and_eq_true, Bool.or_eq_true, Bool.not_eq_true', Bool.not_eq_false', Bool.and_eq_false_iff, Bool.or_eq_false_iff, decide_eq_true_eq, decide_eq_false_iff_not, Decidable.not_not, ne_eq] at hc7
      refine jd_seq [true, false, false, true, true, false] [true, false, false, true, true, true] rfl rfl rfl ?_
      refine jd_region rfl ?_
      refine od_pu rfl rfl (p_move rfl) ?_
      refine od_pu rfl rfl (p_move rfl) ?_
      refine od_pu rfl rfl (p_move rfl) ?_
      refine od_step rfl rfl (ef_call [] _ [] rfl rfl (.cons ArgC.id (.cons ArgC.id .nil)) lend_nil Try.call31 (Least_c fan l (by omega) (by omega) hl) (.inl rfl)) ?_
      rintro _ _ ⟨_, ⟨rfl, rfl⟩, rfl⟩
      refine OpsD.norm [.bx g1 59 (.agg [.v (.int .i64 0), .v (.int .i64 0), .v (.int .i64 0)])] rfl ?_
      refine od_pu rfl rfl (p_lss rfl rfl rfl) ?_
      refine od_pu rfl rfl (p_assign rfl) ?_
      refine od_nil rfl ?_
      refine pd_seq ?_
      refine jd_cond [true, false, false, true, true, true, false] [true, false, false, true, true, true, true] rfl rfl rfl rfl (fun hc8 => ?_) (fun hc8 => ?_)
      · replace hc8 := of_decide_eq_true hc8
        refine jd_seq [true, false, false, true, true, true, false, false] [true, false, false, true, true, true, false, true] rfl rfl rfl ?_
        refine jd_region rfl ?_
        refine od_pu rfl rfl (p_build [] [] (zv := (.agg #[(.int .i64 0), (.int .i64 0), (.int .i64 0)])) rfl rfl (.nil) (Try.runUnderlying59) Try.zeroValue59 bd_59 ⟨rfl, rfl, rfl, trivial⟩ rfl) ?_
        refine od_pu rfl rfl (p_assign rfl) ?_
        refine od_step rfl rfl (ef_store_bx (i := 0) (X' := .agg [.v (.int .i64 0), .v (.int .i64 0), .v (.int .i64 0)]) rfl rfl rfl (CellD.agg) Try.sizeOf59 rfl rfl rfl) ?_
        rintro _ _ ⟨rfl, rfl⟩
        refine OpsD.norm [.bx g1 59 (.agg [.v (.int .i64 0), .v (.int .i64 0), .v (.int .i64 0)])] rfl ?_
        refine od_pu rfl rfl (p_assign rfl) ?_
        refine od_nil rfl ?_
        refine pd_seq ?_
        refine jd_ret rfl ?_
        refine pd_block_ret ?_
        refine pd_seq_ret ?_
        refine PD.subH (HSub.nil 2 34) ?_
        refine PD.norm [.sl (.slice none 0 0) 2 34 ((sortL o room fan l).map RowD.d), .bx g1 59 (.agg [.v (.int .i64 0), .v (.int .i64 0), .v (.int .i64 0)])] (by have hw : [] = sortL o room fan l := (by have hE := sortE_8 (room := room) (fan := fan) (l := l) (by omega) (by omega); first | exact hE.symm | exact (sortL_e (o := o) (by rw [hE]; decide)).1.symm | exact (sortL_e (o := o) (by rw [hE]; decide)).2.symm); rw [show ([] : List D) = List.map RowD.d (sortL o room fan l) from congrArg (List.map RowD.d) hw]) ?_
        exact pd_retH Try.results32 (.cons (ro_cv (ro_tmp rfl) (Cv.ov rfl)) (.cons (ro_cv (ro_cell (X := .agg [.v (.int .i64 0), .v (.int .i64 0), .v (.int .i64 0)]) (d := .agg [.v (.int .i64 0), .v (.int .i64 0), .v (.int .i64 0)]) (i := 1) rfl rfl Try.isAgg59 Try.sizeOf59 rfl rfl) (Cv.eq (congrArg RepD.d (show (RepD.mk 0 0 0) = sortP o room fan l from (by have hE := sortE_8 (room := room) (fan := fan) (l := l) (by omega) (by omega); first | exact hE.symm | exact (sortL_e (o := o) (by rw [hE]; decide)).1.symm | exact (sortL_e (o := o) (by rw [hE]; decide)).2.symm))))) (.cons (ro_cv (ro_tmp rfl) (Cv.eq (congrArg (fun n => D.v (.int .i64 n)) (by have hE := sortE_8 (room := room) (fan := fan) (l := l) (by omega) (by omega); first | exact hE.symm | exact (sortL_e (o := o) (by rw [hE]; decide)).1.symm | exact (sortL_e (o := o) (by rw [hE]; decide)).2.symm)))) .nil))) rfl (HSub.fst 1 rfl) ⟨(.slice none 0 0), rfl, rfl⟩
      · replace hc8 := of_decide_eq_false hc8
        refine jd_skip rfl ?_
        refine pd_block ?_
        refine pd_seq ?_
        refine jd_seq [true, true, false] [true, true, true] rfl rfl rfl ?_
        refine jd_region rfl ?_
        refine od_pu rfl rfl (p_move rfl) ?_
        refine od_pu rfl rfl (p_move rfl) ?_
        refine od_pu rfl rfl (p_move rfl) ?_
        refine od_step rfl rfl (ef_call [] [.bx g1 59 (.agg [.v (.int .i64 0), .v (.int .i64 0), .v (.int .i64 0)])] [] rfl rfl (.cons ArgC.id .nil) lend_nil Try.call93 (New_c room (by omega) (by omega)) (.inl rfl)) ?_
        rintro _ _ ⟨_, ⟨gp, rfl, rfl⟩, rfl⟩
        refine OpsD.norm [.bx gp 163 (.agg [.v (.int .i64 ((PurseD.mk room 0 0).room)), .v (.int .i64 ((PurseD.mk room 0 0).now)), .v (.int .i64 ((PurseD.mk room 0 0).high))]), .bx g1 59 (.agg [.v (.int .i64 0), .v (.int .i64 0), .v (.int .i64 0)])] rfl ?_
        refine od_pu rfl rfl (p_build [0, 1, 2] [.tmp 43, .tmp 44, .tmp 46] (zv := (.agg #[(.int .i64 0), (.int .i64 0), (.pointer none), (.slice none 0 0), (.int .i64 0), (.int .i64 0), (.int .i64 0)])) rfl rfl (.cons (CellD.v rfl) (.cons (CellD.v rfl) (.cons (CellD.v rfl) .nil))) (Try.runUnderlying112) Try.zeroValue112 bd_112 ⟨rfl, rfl, rfl, rfl, rfl, rfl, rfl, trivial⟩ rfl) ?_
        refine od_step rfl rfl (ef_box rfl (CellD.agg)) ?_
        rintro _ _ ⟨g9, rfl, rfl⟩
        refine od_pu rfl rfl (p_assign rfl) ?_
        refine od_nil rfl ?_
        refine pd_seq ?_
        refine JD.keep [3, 8, 9, 10, 11] [(3, .sh 2 (l.map RowD.d)), (8, .v (.slice none 0 0)), (9, .v (.pointer (some ⟨g1, 0, none⟩))), (10, .v (.int .i64 0)), (11, .v (.pointer (some ⟨g9, 0, none⟩)))] rfl ?_
        refine jd_seq [true, true, true, false] [true, true, true, true] rfl rfl rfl ?_
        refine JD.subH (HSub.turn (h' := .bx g9 112 (.agg [.v (.int .i64 o), .v (.int .i64 fan), .v (.pointer (some ⟨gp, 0, none⟩)), .ov (.slice none 0 0), .v (.int .i64 ((sort0 room).nr)), .v (.int .i64 ((sort0 room).nm)), .v (.int .i64 0)])) rfl (Hp.cv_bx (Cv.agg (.cons Cv.rfl' (.cons Cv.rfl' (.cons Cv.rfl' (.cons (Cv.ov rfl) (.cons Cv.rfl' (.cons Cv.rfl' (.cons Cv.rfl' .nil)))))))))) ?_
        refine JD.subH (HSub.nil 1 20) ?_
        refine JD.subH HSub.slo ?_
        refine JD.norm [.slo (.slice none 0 0) 1 20 (((sort0 room).runs).map RunD.d), .bx g9 112 (.agg [.v (.int .i64 o), .v (.int .i64 fan), .v (.pointer (some ⟨gp, 0, none⟩)), .ov (.slice none 0 0), .v (.int .i64 ((sort0 room).nr)), .v (.int .i64 ((sort0 room).nm)), .v (.int .i64 0)]), .bx gp 163 (.agg [.v (.int .i64 (((sort0 room).p).room)), .v (.int .i64 (((sort0 room).p).now)), .v (.int .i64 (((sort0 room).p).high))]), .bx g1 59 (.agg [.v (.int .i64 0), .v (.int .i64 0), .v (.int .i64 0)])] rfl ?_
        have hsok := sort0_ok (room := room) (by omega) (by omega)
        obtain ⟨fn, hfn⟩ : ∃ fn : Nat, fan = (fn : Int) := ⟨fan.toNat, by omega⟩
        have hmd := made0 (o := o) (room := room) (l := l) (by omega) (by omega) hl
        have hm1 := hmd.le2
        have hm2 := hmd.len
        have hm3 := hmd.nm
        have hz1 : (sort0 room).runs.length = 0 := rfl
        have hz2 : (flatR (sort0 room).runs).length = 0 := rfl
        have hz3 : (sort0 room).nm = 0 := rfl
        refine jd_region rfl ?_
        refine od_pu rfl rfl (p_move rfl) ?_
        refine od_pu rfl rfl (p_move rfl) ?_
        refine OpsD.subH (HSub.perm (perm_front (i := 2) rfl)) ?_
        refine OpsD.norm [.bx gp 163 (.agg [.v (.int .i64 (((sort0 room).p).room)), .v (.int .i64 (((sort0 room).p).now)), .v (.int .i64 (((sort0 room).p).high))]), .slo (.slice none 0 0) 1 20 (((sort0 room).runs).map RunD.d), .bx g9 112 (.agg [.v (.int .i64 o), .v (.int .i64 fan), .v (.pointer (some ⟨gp, 0, none⟩)), .ov (.slice none 0 0), .v (.int .i64 ((sort0 room).nr)), .v (.int .i64 ((sort0 room).nm)), .v (.int .i64 0)]), .bx g1 59 (.agg [.v (.int .i64 0), .v (.int .i64 0), .v (.int .i64 0)])] rfl ?_
        refine OpsD.subH (HSub.perm (perm_front (i := 2) rfl)) ?_
        refine OpsD.norm [.bx g9 112 (.agg [.v (.int .i64 o), .v (.int .i64 fan), .v (.pointer (some ⟨gp, 0, none⟩)), .ov (.slice none 0 0), .v (.int .i64 ((sort0 room).nr)), .v (.int .i64 ((sort0 room).nm)), .v (.int .i64 0)]), .bx gp 163 (.agg [.v (.int .i64 (((sort0 room).p).room)), .v (.int .i64 (((sort0 room).p).now)), .v (.int .i64 (((sort0 room).p).high))]), .slo (.slice none 0 0) 1 20 (((sort0 room).runs).map RunD.d), .bx g1 59 (.agg [.v (.int .i64 0), .v (.int .i64 0), .v (.int .i64 0)])] rfl ?_
        refine od_step rfl rfl (ef_call [.bx g9 112 (.agg [.v (.int .i64 o), .v (.int .i64 fan), .v (.pointer (some ⟨gp, 0, none⟩)), .ov (.slice none 0 0), .v (.int .i64 ((sort0 room).nr)), .v (.int .i64 ((sort0 room).nm)), .v (.int .i64 0)]), .bx gp 163 (.agg [.v (.int .i64 (((sort0 room).p).room)), .v (.int .i64 (((sort0 room).p).now)), .v (.int .i64 (((sort0 room).p).high))]), .slo (.slice none 0 0) 1 20 (((sort0 room).runs).map RunD.d)] [.bx g1 59 (.agg [.v (.int .i64 0), .v (.int .i64 0), .v (.int .i64 0)])] [] rfl rfl (.cons ArgC.id (.cons ArgC.id .nil)) lend_nil Try.call94 (make_c g9 gp (.slice none 0 0) o fan (sort0 room) l hsok (Int.le_refl _) (by show (0 : Int) ≤ 10000; omega) (by show 0 ≤ 10000; omega) hl hll) (.inl rfl)) ?_
        rintro _ _ ⟨_, ⟨u10, rfl, rfl⟩, rfl⟩
        refine OpsD.norm [.bx g9 112 (.agg [.v (.int .i64 o), .v (.int .i64 fan), .v (.pointer (some ⟨gp, 0, none⟩)), .ov u10, .v (.int .i64 ((mkGo o [] l (sort0 room)).nr)), .v (.int .i64 ((mkGo o [] l (sort0 room)).nm)), .v (.int .i64 0)]), .bx gp 163 (.agg [.v (.int .i64 (((mkGo o [] l (sort0 room)).p).room)), .v (.int .i64 (((mkGo o [] l (sort0 room)).p).now)), .v (.int .i64 (((mkGo o [] l (sort0 room)).p).high))]), .slo u10 1 20 (((mkGo o [] l (sort0 room)).runs).map RunD.d), .bx g1 59 (.agg [.v (.int .i64 0), .v (.int .i64 0), .v (.int .i64 0)])] rfl ?_
        refine od_nil rfl ?_
        refine pd_seq ?_
        refine jd_seq [true, true, true, true, false] [true, true, true, true, true] rfl rfl rfl ?_
        refine jd_block [true, true, true, true, false, false] rfl rfl ?_
        refine jd_loop (fun (g : Nat × SortD × Value) => [(8, .v (.slice none 0 0)), (9, .v (.pointer (some ⟨g1, 0, none⟩))), (10, .v (.int .i64 0)), (11, .v (.pointer (some ⟨g9, 0, none⟩)))]) (fun (g : Nat × SortD × Value) => [.bx g9 112 (.agg [.v (.int .i64 o), .v (.int .i64 fan), .v (.pointer (some ⟨gp, 0, none⟩)), .ov g.2.2, .v (.int .i64 g.2.1.nr), .v (.int .i64 g.2.1.nm), .v (.int .i64 0)]), .bx gp 163 (.agg [.v (.int .i64 g.2.1.p.room), .v (.int .i64 g.2.1.p.now), .v (.int .i64 g.2.1.p.high)]), .slo g.2.2 1 20 (g.2.1.runs.map RunD.d), .bx g1 59 (.agg [.v (.int .i64 0), .v (.int .i64 0), .v (.int .i64 0)])]) (fun (g : Nat × SortD × Value) => (mergeAll o fn g.1 g.2.1 = sortS o room fn l) ∧ (g.2.1.p.Ok ∧ RunsOk o g.2.1.runs) ∧ (g.2.1.runs.length ≤ g.1 + 1 ∧ g.1 ≤ 2000) ∧ (0 ≤ g.2.1.nm ∧ g.2.1.nm + ((g.1 : Nat) : Int) ≤ 4000) ∧ ((flatR g.2.1.runs).length = l.length)) (fun (g : Nat × SortD × Value) => g.1) [true, true, true, true, false, false, false] (l.length, (mkGo o [] l (sort0 room)), u10) rfl rfl ⟨sk rfl, sk rfl, sk rfl, sk rfl, trivial⟩ HSub.rfl' ⟨rfl, ⟨hmd.p, hmd.runs⟩, by show (mkGo o [] l (sort0 room)).runs.length ≤ l.length + 1 ∧ l.length ≤ 2000; omega, by show 0 ≤ (mkGo o [] l (sort0 room)).nm ∧ (mkGo o [] l (sort0 room)).nm + ((l.length : Nat) : Int) ≤ 4000; omega, by show (flatR (mkGo o [] l (sort0 room)).runs).length = l.length; omega⟩ ?_
        rintro ⟨n, s, u⟩ ⟨hmg, hok, hnn, hnm, htt⟩
        replace hmg : mergeAll o fn n s = sortS o room fn l := hmg
        replace hok : s.p.Ok ∧ RunsOk o s.runs := hok
        replace hnn : s.runs.length ≤ n + 1 ∧ n ≤ 2000 := hnn
        replace hnm : 0 ≤ s.nm ∧ s.nm + ((n : Nat) : Int) ≤ 4000 := hnm
        replace htt : (flatR s.runs).length = l.length := htt
        refine JD.keep [8, 9, 10, 11] [(8, .v (.slice none 0 0)), (9, .v (.pointer (some ⟨g1, 0, none⟩))), (10, .v (.int .i64 0)), (11, .v (.pointer (some ⟨g9, 0, none⟩)))] rfl ?_
        refine JD.norm [.bx g9 112 (.agg [.v (.int .i64 o), .v (.int .i64 fan), .v (.pointer (some ⟨gp, 0, none⟩)), .ov u, .v (.int .i64 s.nr), .v (.int .i64 s.nm), .v (.int .i64 0)]), .bx gp 163 (.agg [.v (.int .i64 s.p.room), .v (.int .i64 s.p.now), .v (.int .i64 s.p.high)]), .slo u 1 20 (s.runs.map RunD.d), .bx g1 59 (.agg [.v (.int .i64 0), .v (.int .i64 0), .v (.int .i64 0)])] rfl ?_
        refine jd_seq [true, true, true, true, false, false, false, false] [true, true, true, true, false, false, false, true] rfl rfl rfl ?_
        refine jd_seq [true, true, true, true, false, false, false, false, false] [true, true, true, true, false, false, false, false, true] rfl rfl rfl ?_
        refine jd_region rfl ?_
        refine od_pu rfl rfl (p_move rfl) ?_
        refine od_pu rfl rfl (p_nilCheck rfl) ?_
        refine od_pu rfl rfl (p_fieldAddr rfl fa_112_3 rfl) ?_
        refine od_pu rfl rfl (p_load_bx1 rfl (i := 0) rfl Try.isAgg110 rfl) ?_
        refine od_pu rfl rfl (p_len_slo (n := s.runs.length) (j := 2) rfl rfl Try.runUnderlying110 (List.length_map _)) ?_
        refine od_pu rfl rfl (p_gtr rfl rfl rfl) ?_
        refine od_nil rfl ?_
        refine pd_seq ?_
        refine jd_cond [true, true, true, true, false, false, false, false, true, false] [true, true, true, true, false, false, false, false, true, true] rfl rfl rfl rfl (fun hc11 => ?_) (fun hc11 => ?_)
        · replace hc11 := of_decide_eq_true hc11
          have hmm := mergeS_merged (o := o) (n := min fn s.runs.length) hok.1 hok.2 (by omega) (by omega)
          refine jd_skip rfl ?_
          refine pd_seq ?_
          refine jd_block [true, true, true, true, false, false, false, true, false] rfl rfl ?_
          refine jd_region rfl ?_
          refine od_pu rfl rfl (p_move rfl) ?_
          refine od_step rfl rfl (ef_call [.bx g9 112 (.agg [.v (.int .i64 o), .v (.int .i64 fan), .v (.pointer (some ⟨gp, 0, none⟩)), .ov u, .v (.int .i64 s.nr), .v (.int .i64 s.nm), .v (.int .i64 0)]), .bx gp 163 (.agg [.v (.int .i64 s.p.room), .v (.int .i64 s.p.now), .v (.int .i64 s.p.high)]), .slo u 1 20 (s.runs.map RunD.d)] [.bx g1 59 (.agg [.v (.int .i64 0), .v (.int .i64 0), .v (.int .i64 0)])] [] rfl rfl (.cons ArgC.id .nil) lend_nil Try.call95 (merge_c g9 gp u o fan fn s hfn (by omega) (by omega) hok.1 hok.2 (by omega) (by omega) (by omega) (by omega)) (.inl rfl)) ?_
          rintro _ _ ⟨_, ⟨u12, rfl, rfl⟩, rfl⟩
          refine OpsD.norm [.bx g9 112 (.agg [.v (.int .i64 o), .v (.int .i64 fan), .v (.pointer (some ⟨gp, 0, none⟩)), .ov u12, .v (.int .i64 ((mergeS o (min fn s.runs.length) s).nr)), .v (.int .i64 ((mergeS o (min fn s.runs.length) s).nm)), .v (.int .i64 0)]), .bx gp 163 (.agg [.v (.int .i64 (((mergeS o (min fn s.runs.length) s).p).room)), .v (.int .i64 (((mergeS o (min fn s.runs.length) s).p).now)), .v (.int .i64 (((mergeS o (min fn s.runs.length) s).p).high))]), .slo u12 1 20 (((mergeS o (min fn s.runs.length) s).runs).map RunD.d), .bx g1 59 (.agg [.v (.int .i64 0), .v (.int .i64 0), .v (.int .i64 0)])] rfl ?_
          refine od_nil rfl ?_
          refine pd_block ?_
          refine PD.norm [.bx g9 112 (.agg [.v (.int .i64 o), .v (.int .i64 fan), .v (.pointer (some ⟨gp, 0, none⟩)), .ov u12, .v (.int .i64 ((mergeS o (min fn s.runs.length) s).nr)), .v (.int .i64 ((mergeS o (min fn s.runs.length) s).nm)), .v (.int .i64 0)]), .bx gp 163 (.agg [.v (.int .i64 (((mergeS o (min fn s.runs.length) s).p).room)), .v (.int .i64 (((mergeS o (min fn s.runs.length) s).p).now)), .v (.int .i64 (((mergeS o (min fn s.runs.length) s).p).high))]), .slo u12 1 20 (((mergeS o (min fn s.runs.length) s).runs).map RunD.d), .bx g1 59 (.agg [.v (.int .i64 0), .v (.int .i64 0), .v (.int .i64 0)])] rfl ?_
          exact pd_loop (n - 1, mergeS o (min fn s.runs.length) s, u12) ⟨sk rfl, sk rfl, sk rfl, sk rfl, trivial⟩ HSub.rfl' ⟨by rw [← hmg]; obtain ⟨m, rfl⟩ : ∃ m, n = m + 1 := ⟨n - 1, by omega⟩; exact (mergeAll_next (by omega)).symm, ⟨hmm.p, hmm.runs⟩, by have := mergeS_runs o (min fn s.runs.length) s; show (mergeS o (min fn s.runs.length) s).runs.length ≤ n - 1 + 1 ∧ n - 1 ≤ 2000; omega, by show 0 ≤ (mergeS o (min fn s.runs.length) s).nm ∧ (mergeS o (min fn s.runs.length) s).nm + ((n - 1 : Nat) : Int) ≤ 4000; have := hmm.nm; omega, hmm.len.trans htt⟩ (by omega)
        · replace hc11 := of_decide_eq_false hc11
          have hfin : s = sortS o room fn l := by rw [← hmg, mergeAll_end (by omega)]
          have hlt : (flatR s.runs).length ≤ 2000 := by omega
          refine jd_exit rfl ?_
          refine pd_seq_exit ?_
          refine pd_loop_exit ?_
          refine pd_block_exit ?_
          refine pd_seq ?_
          refine jd_seq [true, true, true, true, true, false] [true, true, true, true, true, true] rfl rfl rfl ?_
          refine jd_region rfl ?_
          refine od_pu rfl rfl (p_move rfl) ?_
          refine od_pu rfl rfl (p_move rfl) ?_
          refine od_pu rfl rfl (p_nilCheck rfl) ?_
          refine od_pu rfl rfl (p_fieldAddr rfl fa_112_2 rfl) ?_
          refine od_pu rfl rfl (p_load_bx1 rfl (i := 0) rfl Try.isAgg108 rfl) ?_
          refine OpsD.subH (HSub.perm (perm_front (i := 1) rfl)) ?_
          refine OpsD.norm [.bx gp 163 (.agg [.v (.int .i64 s.p.room), .v (.int .i64 s.p.now), .v (.int .i64 s.p.high)]), .bx g9 112 (.agg [.v (.int .i64 o), .v (.int .i64 fan), .v (.pointer (some ⟨gp, 0, none⟩)), .ov u, .v (.int .i64 s.nr), .v (.int .i64 s.nm), .v (.int .i64 0)]), .slo u 1 20 (s.runs.map RunD.d), .bx g1 59 (.agg [.v (.int .i64 0), .v (.int .i64 0), .v (.int .i64 0)])] rfl ?_
          refine od_step rfl rfl (ef_call [.bx gp 163 (.agg [.v (.int .i64 s.p.room), .v (.int .i64 s.p.now), .v (.int .i64 s.p.high)])] [.bx g9 112 (.agg [.v (.int .i64 o), .v (.int .i64 fan), .v (.pointer (some ⟨gp, 0, none⟩)), .ov u, .v (.int .i64 s.nr), .v (.int .i64 s.nm), .v (.int .i64 0)]), .slo u 1 20 (s.runs.map RunD.d), .bx g1 59 (.agg [.v (.int .i64 0), .v (.int .i64 0), .v (.int .i64 0)])] [] rfl rfl (.cons ArgC.id .nil) lend_nil Try.call96 (High_c gp s.p) (.inl rfl)) ?_
          rintro _ _ ⟨_, ⟨rfl, rfl⟩, rfl⟩
          refine OpsD.norm [.bx gp 163 (.agg [.v (.int .i64 s.p.room), .v (.int .i64 s.p.now), .v (.int .i64 s.p.high)]), .bx g9 112 (.agg [.v (.int .i64 o), .v (.int .i64 fan), .v (.pointer (some ⟨gp, 0, none⟩)), .ov u, .v (.int .i64 s.nr), .v (.int .i64 s.nm), .v (.int .i64 0)]), .slo u 1 20 (s.runs.map RunD.d), .bx g1 59 (.agg [.v (.int .i64 0), .v (.int .i64 0), .v (.int .i64 0)])] rfl ?_
          refine od_pu rfl rfl (p_nilCheck rfl) ?_
          refine od_pu rfl rfl (p_fieldAddr rfl fa_112_4 rfl) ?_
          refine od_pu rfl rfl (p_fieldAddr rfl fa_59_2 rfl) ?_
          refine od_step rfl rfl (ef_store_bx (i := 1) (X' := .agg [.v (.int .i64 o), .v (.int .i64 fan), .v (.pointer (some ⟨gp, 0, none⟩)), .ov u, .v (.int .i64 s.nr), .v (.int .i64 s.nm), .v (.int .i64 s.p.high)]) rfl rfl rfl (CellD.v rfl) Try.sizeOf3 rfl rfl rfl) ?_
          rintro _ _ ⟨rfl, rfl⟩
          refine OpsD.norm [.bx gp 163 (.agg [.v (.int .i64 s.p.room), .v (.int .i64 s.p.now), .v (.int .i64 s.p.high)]), .bx g9 112 (.agg [.v (.int .i64 o), .v (.int .i64 fan), .v (.pointer (some ⟨gp, 0, none⟩)), .ov u, .v (.int .i64 s.nr), .v (.int .i64 s.nm), .v (.int .i64 s.p.high)]), .slo u 1 20 (s.runs.map RunD.d), .bx g1 59 (.agg [.v (.int .i64 0), .v (.int .i64 0), .v (.int .i64 0)])] rfl ?_
          refine od_nil rfl ?_
          refine pd_seq ?_
          refine JD.keep [8, 9, 10, 11] [(8, .v (.slice none 0 0)), (9, .v (.pointer (some ⟨g1, 0, none⟩))), (10, .v (.int .i64 0)), (11, .v (.pointer (some ⟨g9, 0, none⟩)))] rfl ?_
          refine jd_seq [true, true, true, true, true, true, false] [true, true, true, true, true, true, true] rfl rfl rfl ?_
          refine jd_region rfl ?_
          refine od_pu rfl rfl (p_assign rfl) ?_
          refine od_nil rfl ?_
          refine pd_seq ?_
          refine jd_seq [true, true, true, true, true, true, true, false] [true, true, true, true, true, true, true, true] rfl rfl rfl ?_
          refine jd_seq [true, true, true, true, true, true, true, false, false] [true, true, true, true, true, true, true, false, true] rfl rfl rfl ?_
          refine jd_region rfl ?_
          refine od_pu rfl rfl (p_move rfl) ?_
          refine od_pu rfl rfl (p_nilCheck rfl) ?_
          refine od_pu rfl rfl (p_fieldAddr rfl fa_112_3 rfl) ?_
          refine od_pu rfl rfl (p_load_bx1 rfl (i := 1) rfl Try.isAgg110 rfl) ?_
          refine od_pu rfl rfl (p_len_slo (n := s.runs.length) (j := 2) rfl rfl Try.runUnderlying110 (List.length_map _)) ?_
          refine od_pu rfl rfl (p_move rfl) ?_
          refine od_nil rfl ?_
          refine pd_seq ?_
          refine jd_block [true, true, true, true, true, true, true, false, true, false] rfl rfl ?_
          refine JD.subH (HSub.perm (perm_front (i := 3) rfl)) ?_
          refine JD.norm [.bx g1 59 (.agg [.v (.int .i64 0), .v (.int .i64 0), .v (.int .i64 0)]), .bx gp 163 (.agg [.v (.int .i64 s.p.room), .v (.int .i64 s.p.now), .v (.int .i64 s.p.high)]), .bx g9 112 (.agg [.v (.int .i64 o), .v (.int .i64 fan), .v (.pointer (some ⟨gp, 0, none⟩)), .ov u, .v (.int .i64 s.nr), .v (.int .i64 s.nm), .v (.int .i64 s.p.high)]), .slo u 1 20 (s.runs.map RunD.d)] rfl ?_
          refine JD.subH (HSub.perm (perm_front (i := 3) rfl)) ?_
          refine JD.norm [.slo u 1 20 (s.runs.map RunD.d), .bx g1 59 (.agg [.v (.int .i64 0), .v (.int .i64 0), .v (.int .i64 0)]), .bx gp 163 (.agg [.v (.int .i64 s.p.room), .v (.int .i64 s.p.now), .v (.int .i64 s.p.high)]), .bx g9 112 (.agg [.v (.int .i64 o), .v (.int .i64 fan), .v (.pointer (some ⟨gp, 0, none⟩)), .ov u, .v (.int .i64 s.nr), .v (.int .i64 s.nm), .v (.int .i64 s.p.high)])] rfl ?_
          refine JD.subH (HSub.perm (perm_front (i := 2) rfl)) ?_
          refine JD.norm [.bx gp 163 (.agg [.v (.int .i64 s.p.room), .v (.int .i64 s.p.now), .v (.int .i64 s.p.high)]), .slo u 1 20 (s.runs.map RunD.d), .bx g1 59 (.agg [.v (.int .i64 0), .v (.int .i64 0), .v (.int .i64 0)]), .bx g9 112 (.agg [.v (.int .i64 o), .v (.int .i64 fan), .v (.pointer (some ⟨gp, 0, none⟩)), .ov u, .v (.int .i64 s.nr), .v (.int .i64 s.nm), .v (.int .i64 s.p.high)])] rfl ?_
          refine JD.subH (HSub.perm (perm_front (i := 3) rfl)) ?_
          refine JD.norm [.bx g9 112 (.agg [.v (.int .i64 o), .v (.int .i64 fan), .v (.pointer (some ⟨gp, 0, none⟩)), .ov u, .v (.int .i64 s.nr), .v (.int .i64 s.nm), .v (.int .i64 s.p.high)]), .bx gp 163 (.agg [.v (.int .i64 s.p.room), .v (.int .i64 s.p.now), .v (.int .i64 s.p.high)]), .slo u 1 20 (s.runs.map RunD.d), .bx g1 59 (.agg [.v (.int .i64 0), .v (.int .i64 0), .v (.int .i64 0)])] rfl ?_
          refine JD.subH (HSub.nil 2 34) ?_
          refine JD.subH (HSub.perm (perm_5b)) ?_
          refine JD.norm [.bx g9 112 (.agg [.v (.int .i64 o), .v (.int .i64 fan), .v (.pointer (some ⟨gp, 0, none⟩)), .ov u, .v (.int .i64 s.nr), .v (.int .i64 s.nm), .v (.int .i64 s.p.high)]), .bx gp 163 (.agg [.v (.int .i64 s.p.room), .v (.int .i64 s.p.now), .v (.int .i64 s.p.high)]), .slo u 1 20 (s.runs.map RunD.d), .bx g1 59 (.agg [.v (.int .i64 0), .v (.int .i64 0), .v (.int .i64 0)]), .sl (.slice none 0 0) 2 34 ([].map RowD.d)] rfl ?_
          refine jd_loop (fun (g : Nat × Value) => [(8, .v (.slice none 0 0)), (9, .v (.pointer (some ⟨g1, 0, none⟩))), (10, .v (.int .i64 0)), (11, .v (.pointer (some ⟨g9, 0, none⟩))), (72, .ov u), (73, .v (.int .i64 ((s.runs.length : Nat) : Int))), (74, .v (.int .i64 ((g.1 : Nat) : Int))), (12, .ov g.2)]) (fun (g : Nat × Value) => [.bx g9 112 (.agg [.v (.int .i64 o), .v (.int .i64 fan), .v (.pointer (some ⟨gp, 0, none⟩)), .ov u, .v (.int .i64 s.nr), .v (.int .i64 s.nm), .v (.int .i64 s.p.high)]), .bx gp 163 (.agg [.v (.int .i64 s.p.room), .v (.int .i64 s.p.now), .v (.int .i64 s.p.high)]), .slo u 1 20 (s.runs.map RunD.d), .bx g1 59 (.agg [.v (.int .i64 0), .v (.int .i64 0), .v (.int .i64 0)]), .sl g.2 2 34 ((flatR (s.runs.take g.1)).map RowD.d)]) (fun (g : Nat × Value) => True) (fun (g : Nat × Value) => s.runs.length - g.1) [true, true, true, true, true, true, true, false, true, false, false] (0, .slice none 0 0) rfl rfl ⟨sk rfl, sk rfl, sk rfl, sk rfl, sk rfl, sk rfl, sk rfl, sc rfl (Cv.ov rfl), trivial⟩ HSub.rfl' trivial ?_
          rintro ⟨k, ov⟩ _
          refine JD.keep [8, 9, 10, 11, 72, 73, 74, 12] [(8, .v (.slice none 0 0)), (9, .v (.pointer (some ⟨g1, 0, none⟩))), (10, .v (.int .i64 0)), (11, .v (.pointer (some ⟨g9, 0, none⟩))), (72, .ov u), (73, .v (.int .i64 ((s.runs.length : Nat) : Int))), (74, .v (.int .i64 ((k : Nat) : Int))), (12, .ov ov)] rfl ?_
          refine JD.norm [.bx g9 112 (.agg [.v (.int .i64 o), .v (.int .i64 fan), .v (.pointer (some ⟨gp, 0, none⟩)), .ov u, .v (.int .i64 s.nr), .v (.int .i64 s.nm), .v (.int .i64 s.p.high)]), .bx gp 163 (.agg [.v (.int .i64 s.p.room), .v (.int .i64 s.p.now), .v (.int .i64 s.p.high)]), .slo u 1 20 (s.runs.map RunD.d), .bx g1 59 (.agg [.v (.int .i64 0), .v (.int .i64 0), .v (.int .i64 0)]), .sl ov 2 34 ((flatR (s.runs.take k)).map RowD.d)] rfl ?_
          have hfk := flatR_take_le s.runs (k + 1)
          have hfk0 := flatR_take_le s.runs k
          refine jd_seq [true, true, true, true, true, true, true, false, true, false, false, false] [true, true, true, true, true, true, true, false, true, false, false, true] rfl rfl rfl ?_
          refine jd_region rfl ?_
          refine od_pu rfl rfl (p_lss rfl rfl rfl) ?_
          refine od_nil rfl ?_
          refine pd_seq ?_
          refine jd_seq [true, true, true, true, true, true, true, false, true, false, false, true, false] [true, true, true, true, true, true, true, false, true, false, false, true, true] rfl rfl rfl ?_
          refine jd_cond [true, true, true, true, true, true, true, false, true, false, false, true, false, false] [true, true, true, true, true, true, true, false, true, false, false, true, false, true] rfl rfl rfl rfl (fun hc13 => ?_) (fun hc13 => ?_)
          · replace hc13 := of_decide_eq_true hc13
            refine jd_skip rfl ?_
            refine pd_seq ?_
            refine jd_seq [true, true, true, true, true, true, true, false, true, false, false, true, true, false] [true, true, true, true, true, true, true, false, true, false, false, true, true, true] rfl rfl rfl ?_
            refine jd_block [true, true, true, true, true, true, true, false, true, false, false, true, true, false, false] rfl rfl ?_
            refine jd_seq [true, true, true, true, true, true, true, false, true, false, false, true, true, false, false, false] [true, true, true, true, true, true, true, false, true, false, false, true, true, false, false, true] rfl rfl rfl ?_
            refine jd_region rfl ?_
            refine od_pu rfl rfl (p_indexAddr_slo (q := k) (j := 2) rfl rfl rfl Try.runUnderlying110 Try.sizeOf20 (by first | rfl | omega) (by (try simp only [List.length_map]); omega)) ?_
            obtain ⟨x1, hx1⟩ := get_some s.runs k (by omega)
            have hfs : (flatR (s.runs.take (k + 1))).length = (flatR (s.runs.take k)).length + x1.l.length := by rw [flatR_snoc hx1, List.length_append]
            refine od_pu rfl rfl (p_load_slo (j := 2) rfl rfl (get_map hx1) Try.isAgg20 rfl) ?_
            refine od_pu rfl rfl (p_assign rfl) ?_
            refine od_nil rfl ?_
            refine pd_seq ?_
            refine jd_region rfl ?_
            refine od_pu rfl rfl (p_move rfl) ?_
            refine od_pu rfl rfl (p_move rfl) ?_
            refine od_step rfl rfl (ef_call [] _ [] rfl rfl (.cons ArgC.id .nil) lend_nil Try.call97 (list_c x1) (.inl rfl)) ?_
            rintro _ _ ⟨_, ⟨rfl, rfl⟩, rfl⟩
            refine OpsD.norm [.bx g9 112 (.agg [.v (.int .i64 o), .v (.int .i64 fan), .v (.pointer (some ⟨gp, 0, none⟩)), .ov u, .v (.int .i64 s.nr), .v (.int .i64 s.nm), .v (.int .i64 s.p.high)]), .bx gp 163 (.agg [.v (.int .i64 s.p.room), .v (.int .i64 s.p.now), .v (.int .i64 s.p.high)]), .slo u 1 20 (s.runs.map RunD.d), .bx g1 59 (.agg [.v (.int .i64 0), .v (.int .i64 0), .v (.int .i64 0)]), .sl ov 2 34 ((flatR (s.runs.take k)).map RowD.d)] rfl ?_
            refine od_step rfl rfl (ef_append_m (f := RowD.d) (l := flatR (s.runs.take k)) (l' := x1.l) (i := 4) rfl rfl rfl (SrcD.sh) und_27 infz_34 rfl rfl (by unfold maxLen; (try simp only [List.length_append, List.length_cons, List.length_nil, List.length_map, List.length_take, List.length_drop, List.length_set, List.length_replicate]); omega) (by (try simp only [List.length_append, List.length_cons, List.length_nil, List.length_map, List.length_take, List.length_drop, List.length_set, List.length_replicate]); omega)) ?_
            rintro _ _ ⟨v14, rfl, rfl⟩
            refine OpsD.norm [.bx g9 112 (.agg [.v (.int .i64 o), .v (.int .i64 fan), .v (.pointer (some ⟨gp, 0, none⟩)), .ov u, .v (.int .i64 s.nr), .v (.int .i64 s.nm), .v (.int .i64 s.p.high)]), .bx gp 163 (.agg [.v (.int .i64 s.p.room), .v (.int .i64 s.p.now), .v (.int .i64 s.p.high)]), .slo u 1 20 (s.runs.map RunD.d), .bx g1 59 (.agg [.v (.int .i64 0), .v (.int .i64 0), .v (.int .i64 0)]), .sl v14 2 34 (((flatR (s.runs.take k)) ++ x1.l).map RowD.d)] rfl ?_
            refine od_pu rfl rfl (p_assign rfl) ?_
            refine od_nil rfl ?_
            refine pd_block ?_
            refine pd_seq ?_
            refine jd_region rfl ?_
            refine od_pu rfl rfl (p_add (c := ((k + 1 : Nat) : Int)) rfl rfl (w64eq (by omega) (by omega))) ?_
            refine od_pu rfl rfl (p_move rfl) ?_
            refine od_nil rfl ?_
            refine PD.norm [.bx g9 112 (.agg [.v (.int .i64 o), .v (.int .i64 fan), .v (.pointer (some ⟨gp, 0, none⟩)), .ov u, .v (.int .i64 s.nr), .v (.int .i64 s.nm), .v (.int .i64 s.p.high)]), .bx gp 163 (.agg [.v (.int .i64 s.p.room), .v (.int .i64 s.p.now), .v (.int .i64 s.p.high)]), .slo u 1 20 (s.runs.map RunD.d), .bx g1 59 (.agg [.v (.int .i64 0), .v (.int .i64 0), .v (.int .i64 0)]), .sl v14 2 34 (((flatR (s.runs.take k)) ++ x1.l).map RowD.d)] rfl ?_
            refine PD.norm [.bx g9 112 (.agg [.v (.int .i64 o), .v (.int .i64 fan), .v (.pointer (some ⟨gp, 0, none⟩)), .ov u, .v (.int .i64 s.nr), .v (.int .i64 s.nm), .v (.int .i64 s.p.high)]), .bx gp 163 (.agg [.v (.int .i64 s.p.room), .v (.int .i64 s.p.now), .v (.int .i64 s.p.high)]), .slo u 1 20 (s.runs.map RunD.d), .bx g1 59 (.agg [.v (.int .i64 0), .v (.int .i64 0), .v (.int .i64 0)]), .sl v14 2 34 ((flatR (s.runs.take (k + 1))).map RowD.d)] (by rw [flatR_snoc hx1]) ?_
            exact pd_loop (k + 1, v14) ⟨sk rfl, sk rfl, sk rfl, sk rfl, sk rfl, sk rfl, sk rfl, sk rfl, trivial⟩ HSub.rfl' trivial (by omega)
          · replace hc13 := of_decide_eq_false hc13
            refine jd_exit rfl ?_
            refine pd_seq_exit ?_
            refine pd_loop_exit ?_
            refine pd_block_exit ?_
            refine pd_seq ?_
            refine jd_seq [true, true, true, true, true, true, true, true, false] [true, true, true, true, true, true, true, true, true] rfl rfl rfl ?_
            refine JD.keep [9, 10, 11, 12, 72, 73, 74, 75] [(9, .v (.pointer (some ⟨g1, 0, none⟩))), (10, .v (.int .i64 0)), (11, .v (.pointer (some ⟨g9, 0, none⟩))), (12, .ov ov), (72, .ov u), (73, .v (.int .i64 ((s.runs.length : Nat) : Int))), (74, .v (.int .i64 ((k : Nat) : Int))), (75, .v (.bool (decide (((k : Nat) : Int) < ((s.runs.length : Nat) : Int)))))] rfl ?_
            refine JD.norm [.bx g9 112 (.agg [.v (.int .i64 o), .v (.int .i64 fan), .v (.pointer (some ⟨gp, 0, none⟩)), .ov u, .v (.int .i64 s.nr), .v (.int .i64 s.nm), .v (.int .i64 s.p.high)]), .bx gp 163 (.agg [.v (.int .i64 s.p.room), .v (.int .i64 s.p.now), .v (.int .i64 s.p.high)]), .slo u 1 20 (s.runs.map RunD.d), .bx g1 59 (.agg [.v (.int .i64 0), .v (.int .i64 0), .v (.int .i64 0)]), .sl ov 2 34 ((flatR (s.runs.take k)).map RowD.d)] rfl ?_
            refine jd_draw 6 [(83, .ov ov, none), (84, .v (.pointer (some ⟨g9, 0, none⟩)), none), (85, .v (.pointer (some ⟨g9, 0, none⟩)), none), (86, .v (.pointer (some ⟨g9, 4, none⟩)), none), (87, .agg [.v (.int .i64 s.nr), .v (.int .i64 s.nm), .v (.int .i64 s.p.high)], none), (8, .ov ov, none)] [.bx g9 112 (.agg [.v (.int .i64 o), .v (.int .i64 fan), .v (.pointer (some ⟨gp, 0, none⟩)), .ov u, .v (.int .i64 s.nr), .v (.int .i64 s.nm), .v (.int .i64 s.p.high)]), .bx gp 163 (.agg [.v (.int .i64 s.p.room), .v (.int .i64 s.p.now), .v (.int .i64 s.p.high)]), .slo u 1 20 (s.runs.map RunD.d), .bx g1 59 (.agg [.v (.int .i64 0), .v (.int .i64 0), .v (.int .i64 0)]), .sl ov 2 34 ((flatR (s.runs.take k)).map RowD.d)] (Hn := [.bx g9 112 (.agg [.v (.int .i64 o), .v (.int .i64 fan), .v (.pointer (some ⟨gp, 0, none⟩)), .ov u, .v (.int .i64 s.nr), .v (.int .i64 s.nm), .v (.int .i64 s.p.high)]), .bx gp 163 (.agg [.v (.int .i64 s.p.room), .v (.int .i64 s.p.now), .v (.int .i64 s.p.high)]), .slo u 1 20 (s.runs.map RunD.d), .bx g1 59 (.agg [.v (.int .i64 0), .v (.int .i64 0), .v (.int .i64 0)]), .sl ov 2 34 ((flatR (s.runs.take k)).map RowD.d)]) mixed rfl rfl rfl rfl HSub.rfl' rfl ⟨sa_p rfl rfl rfl (p_move rfl), sa_p rfl rfl rfl (p_move rfl), sa_p rfl rfl rfl (p_nilCheck rfl), sa_p rfl rfl rfl (p_fieldAddr rfl fa_112_4 rfl), sa_p rfl rfl rfl (p_load_bx (d := .agg [.v (.int .i64 s.nr), .v (.int .i64 s.nm), .v (.int .i64 s.p.high)]) rfl (i := 0) rfl Try.isAgg59 Try.sizeOf59 rfl rfl), sa_p rfl rfl rfl (p_assign rfl), trivial⟩ ?_
            refine OpsD.keep [8, 9, 10, 11, 12, 72, 73, 74, 75, 83, 84, 85, 86, 87] [(8, .ov ov), (9, .v (.pointer (some ⟨g1, 0, none⟩))), (10, .v (.int .i64 0)), (11, .v (.pointer (some ⟨g9, 0, none⟩))), (12, .ov ov), (72, .ov u), (73, .v (.int .i64 ((s.runs.length : Nat) : Int))), (74, .v (.int .i64 ((k : Nat) : Int))), (75, .v (.bool (decide (((k : Nat) : Int) < ((s.runs.length : Nat) : Int))))), (83, .ov ov), (84, .v (.pointer (some ⟨g9, 0, none⟩))), (85, .v (.pointer (some ⟨g9, 0, none⟩))), (86, .v (.pointer (some ⟨g9, 4, none⟩))), (87, .agg [.v (.int .i64 s.nr), .v (.int .i64 s.nm), .v (.int .i64 s.p.high)])] rfl ?_
            refine od_step rfl rfl (ef_store_bx (i := 3) (X' := .agg [.v (.int .i64 s.nr), .v (.int .i64 s.nm), .v (.int .i64 s.p.high)]) rfl rfl rfl (CellD.agg) Try.sizeOf59 rfl rfl rfl) ?_
            rintro _ _ ⟨rfl, rfl⟩
            refine OpsD.norm [.bx g9 112 (.agg [.v (.int .i64 o), .v (.int .i64 fan), .v (.pointer (some ⟨gp, 0, none⟩)), .ov u, .v (.int .i64 s.nr), .v (.int .i64 s.nm), .v (.int .i64 s.p.high)]), .bx gp 163 (.agg [.v (.int .i64 s.p.room), .v (.int .i64 s.p.now), .v (.int .i64 s.p.high)]), .slo u 1 20 (s.runs.map RunD.d), .bx g1 59 (.agg [.v (.int .i64 s.nr), .v (.int .i64 s.nm), .v (.int .i64 s.p.high)]), .sl ov 2 34 ((flatR (s.runs.take k)).map RowD.d)] rfl ?_
            refine od_pu rfl rfl (p_assign rfl) ?_
            refine od_nil rfl ?_
            refine pd_seq ?_
            refine JD.keep [8, 9, 10] [(8, .ov ov), (9, .v (.pointer (some ⟨g1, 0, none⟩))), (10, .v (.int .i64 0))] rfl ?_
            refine jd_ret rfl ?_
            refine PD.subH (HSub.perm (perm_front (i := 4) rfl)) ?_
            refine PD.norm [.sl ov 2 34 ((flatR (s.runs.take k)).map RowD.d), .bx g9 112 (.agg [.v (.int .i64 o), .v (.int .i64 fan), .v (.pointer (some ⟨gp, 0, none⟩)), .ov u, .v (.int .i64 s.nr), .v (.int .i64 s.nm), .v (.int .i64 s.p.high)]), .bx gp 163 (.agg [.v (.int .i64 s.p.room), .v (.int .i64 s.p.now), .v (.int .i64 s.p.high)]), .slo u 1 20 (s.runs.map RunD.d), .bx g1 59 (.agg [.v (.int .i64 s.nr), .v (.int .i64 s.nm), .v (.int .i64 s.p.high)])] rfl ?_
            refine PD.norm [.sl ov 2 34 ((sortL o room fan l).map RowD.d), .bx g9 112 (.agg [.v (.int .i64 o), .v (.int .i64 fan), .v (.pointer (some ⟨gp, 0, none⟩)), .ov u, .v (.int .i64 s.nr), .v (.int .i64 s.nm), .v (.int .i64 s.p.high)]), .bx gp 163 (.agg [.v (.int .i64 s.p.room), .v (.int .i64 s.p.now), .v (.int .i64 s.p.high)]), .slo u 1 20 (s.runs.map RunD.d), .bx g1 59 (.agg [.v (.int .i64 s.nr), .v (.int .i64 s.nm), .v (.int .i64 s.p.high)])] (by have hw : flatR (s.runs.take k) = sortL o room fan l := (by have hE := sortE_0 (room := room) (fan := fan) (l := l) (by omega) (by omega); first | exact hE.symm | (rw [(sortL_0 (o := o) hE hfn).1, List.take_of_length_le (by omega), hfin]) | (rw [(sortL_0 (o := o) hE hfn).2, ← hfin])); rw [hw]) ?_
            exact pd_retH Try.results32 (.cons (ro_tmp rfl) (.cons (ro_cv (ro_cell (X := .agg [.v (.int .i64 s.nr), .v (.int .i64 s.nm), .v (.int .i64 s.p.high)]) (d := .agg [.v (.int .i64 s.nr), .v (.int .i64 s.nm), .v (.int .i64 s.p.high)]) (i := 4) rfl rfl Try.isAgg59 Try.sizeOf59 rfl rfl) (Cv.eq (congrArg RepD.d (show (RepD.mk s.nr s.nm s.p.high) = sortP o room fan l from (by have hE := sortE_0 (room := room) (fan := fan) (l := l) (by omega) (by omega); first | exact hE.symm | (rw [(sortL_0 (o := o) hE hfn).1, List.take_of_length_le (by omega), hfin]) | (rw [(sortL_0 (o := o) hE hfn).2, ← hfin])))))) (.cons (ro_cv (ro_tmp rfl) (Cv.eq (congrArg (fun n => D.v (.int .i64 n)) (by have hE := sortE_0 (room := room) (fan := fan) (l := l) (by omega) (by omega); first | exact hE.symm | (rw [(sortL_0 (o := o) hE hfn).1, List.take_of_length_le (by omega), hfin]) | (rw [(sortL_0 (o := o) hE hfn).2, ← hfin]))))) .nil))) rfl (HSub.fst 1 rfl) ⟨ov, rfl, rfl⟩
end Lp
