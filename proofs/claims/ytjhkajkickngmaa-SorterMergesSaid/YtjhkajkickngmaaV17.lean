/- Walks, printed by a program of mine (wip/tools/dw.py): each theorem says what a function of the translation hands back. -/
import Derived.Test.YtjhkajkickngmaaV16
import Derived.Test.YtjhkajkickngmaaV3
import Derived.Test.YtjhkajkickngmaaPSort2
set_option linter.unusedSimpArgs false
set_option linter.unusedVariables false
namespace Lp
open Go Go.RowKit Go.Proofs

namespace HdV17
theorem bd_167 : ∀ w, ((#[⟨"l", 27, 0, false, "", "leporello/sorter", 0⟩] : Array Field).mapM fun f => do pure (f.offset, ← Go.sizeOf f.type) : Sem (Array (Nat × Nat))).run Try.prog w = .ok ([(0, 1)] : List (Nat × Nat)).toArray w := fun _ => by kernel_rfl
theorem fa_112_0 (b o : Nat) : ∀ w, (Instr.fieldAt 112 (.pointer (some ⟨b, o, none⟩)) 0).run Try.prog w = .ok (.pointer (some ⟨b, o + 0, none⟩)) w := fun _ => by kernel_rfl
theorem fa_112_2 (b o : Nat) : ∀ w, (Instr.fieldAt 112 (.pointer (some ⟨b, o, none⟩)) 2).run Try.prog w = .ok (.pointer (some ⟨b, o + 2, none⟩)) w := fun _ => by kernel_rfl
theorem fa_112_3 (b o : Nat) : ∀ w, (Instr.fieldAt 112 (.pointer (some ⟨b, o, none⟩)) 3).run Try.prog w = .ok (.pointer (some ⟨b, o + 3, none⟩)) w := fun _ => by kernel_rfl
theorem fa_112_4 (b o : Nat) : ∀ w, (Instr.fieldAt 112 (.pointer (some ⟨b, o, none⟩)) 4).run Try.prog w = .ok (.pointer (some ⟨b, o + 4, none⟩)) w := fun _ => by kernel_rfl
theorem fa_167_0 (b o : Nat) : ∀ w, (Instr.fieldAt 167 (.pointer (some ⟨b, o, none⟩)) 0).run Try.prog w = .ok (.pointer (some ⟨b, o + 0, none⟩)) w := fun _ => by kernel_rfl
theorem fa_59_0 (b o : Nat) : ∀ w, (Instr.fieldAt 59 (.pointer (some ⟨b, o, none⟩)) 0).run Try.prog w = .ok (.pointer (some ⟨b, o + 0, none⟩)) w := fun _ => by kernel_rfl
theorem fg_166_0 : ∀ vs : List Value, vs.length = 1 → ∀ w, (Instr.field 166 (.agg vs.toArray) 0).run Try.prog w = .ok (vs.getD 0 undef) w := fun vs h w => by
  obtain ⟨a, rfl⟩ := List.length_eq_one_iff.1 h
  kernel_rfl
theorem infz_20 : ∃ i, Try.prog.info? 20 = some i ∧ i.zero = some .nilIface ∧ i.size = 1 ∧ i.bytes = 16 := infz_of (by kernel_rfl)
theorem und_110 : Try.prog.underlying 110 = some (.slice 20) := by kernel_rfl
end HdV17
open HdV17

set_option maxHeartbeats 4000000 in
set_option maxRecDepth 100000 in
theorem list_t (l : List RowD)  :
    CD Try.prog 97 [] [.ifc 167 (.agg [.sh 2 (l.map RowD.d)])] (isR (.sh 2 (l.map RowD.d))) := by
  refine cd_of_JD Try.func97 rfl (N := 16) rfl rfl (fun C => ?_)
  refine JD.keep [0] [(0, .ifc 167 (.agg [.sh 2 (l.map RowD.d)]))] rfl ?_
  refine jd_seq [false] [true] rfl rfl rfl ?_
  refine jd_region rfl ?_
  refine od_pu rfl rfl (p_assign rfl) ?_
  refine od_nil rfl ?_
  refine pd_seq ?_
  refine jd_seq [true, false] [true, true] rfl rfl rfl ?_
  refine jd_seq [true, false, false] [true, false, true] rfl rfl rfl ?_
  refine jd_region rfl ?_
  refine od_pu rfl rfl (p_move rfl) ?_
  refine od_pu rfl rfl (p_assert_t rfl (fun _ _ => by kernel_rfl)) ?_
  refine od_pu rfl rfl (p_move rfl) ?_
  refine od_pu rfl rfl (p_extract rfl rfl) ?_
  refine od_pu rfl rfl (p_extract rfl rfl) ?_
  refine od_step rfl rfl (ef_alloc (zv := (.agg #[(.slice none 0 0)])) Try.zeroValue167 ⟨rfl, trivial⟩ (Cv.vagg (by decide))) ?_
  rintro _ _ ⟨g1, rfl, rfl⟩
  refine od_step rfl rfl (ef_store_bx (i := 0) (X' := .agg [.sh 2 (l.map RowD.d)]) rfl rfl rfl (CellD.agg) Try.sizeOf167 rfl rfl rfl) ?_
  rintro _ _ ⟨rfl, rfl⟩
  refine OpsD.norm [.bx g1 167 (.agg [.sh 2 (l.map RowD.d)])] rfl ?_
  refine od_pu rfl rfl (p_assign rfl) ?_
  refine od_nil rfl ?_
  refine pd_seq ?_
  refine jd_seq [true, false, true, false] [true, false, true, true] rfl rfl rfl ?_
  refine jd_region rfl ?_
  refine od_pu rfl rfl (p_move rfl) ?_
  refine od_nil rfl ?_
  refine pd_seq ?_
  refine jd_cond_t [true, false, true, true, false] rfl rfl rfl ?_
  refine jd_seq [true, false, true, true, false, false] [true, false, true, true, false, true] rfl rfl rfl ?_
  refine jd_region rfl ?_
  refine od_pu rfl rfl (p_fieldAddr rfl fa_167_0 rfl) ?_
  refine od_pu rfl rfl (p_load_bx1 rfl (i := 0) rfl Try.isAgg27 rfl) ?_
  refine od_pu rfl rfl (p_assign rfl) ?_
  refine od_nil rfl ?_
  refine pd_seq ?_
  refine JD.keep [0, 2] [(0, .ifc 167 (.agg [.sh 2 (l.map RowD.d)])), (2, .sh 2 (l.map RowD.d))] rfl ?_
  refine jd_ret rfl ?_
  refine pd_seq_ret ?_
  exact pd_retH Try.results97 (.cons (ro_tmp rfl) .nil) rfl HSub.none ⟨rfl, rfl⟩

set_option maxHeartbeats 4000000 in
set_option maxRecDepth 100000 in
theorem list_f (l : List RowD)  :
    CD Try.prog 97 [] [.ifc 166 (.agg [.sh 2 (l.map RowD.d)])] (isR (.sh 2 (l.map RowD.d))) := by
  refine cd_of_JD Try.func97 rfl (N := 16) rfl rfl (fun C => ?_)
  refine JD.keep [0] [(0, .ifc 166 (.agg [.sh 2 (l.map RowD.d)]))] rfl ?_
  refine jd_seq [false] [true] rfl rfl rfl ?_
  refine jd_region rfl ?_
  refine od_pu rfl rfl (p_assign rfl) ?_
  refine od_nil rfl ?_
  refine pd_seq ?_
  refine jd_seq [true, false] [true, true] rfl rfl rfl ?_
  refine jd_seq [true, false, false] [true, false, true] rfl rfl rfl ?_
  refine jd_region rfl ?_
  refine od_pu rfl rfl (p_move rfl) ?_
  refine od_pu rfl rfl ((p_assert_f (zv := (.agg #[(.slice none 0 0)])) rfl (fun _ _ => by kernel_rfl)).cv (Cv.tup (.cons (Cv.vagg (by decide)) (.cons Cv.rfl' .nil)))) ?_
  refine od_pu rfl rfl (p_move rfl) ?_
  refine od_pu rfl rfl (p_extract rfl rfl) ?_
  refine od_pu rfl rfl (p_extract rfl rfl) ?_
  refine od_step rfl rfl (ef_alloc (zv := (.agg #[(.slice none 0 0)])) Try.zeroValue167 ⟨rfl, trivial⟩ (Cv.vagg (by decide))) ?_
  rintro _ _ ⟨g1, rfl, rfl⟩
  refine od_step rfl rfl (ef_store_bx (i := 0) (X' := .agg [.v (.slice none 0 0)]) rfl rfl rfl (CellD.agg) Try.sizeOf167 rfl rfl rfl) ?_
  rintro _ _ ⟨rfl, rfl⟩
  refine OpsD.norm [.bx g1 167 (.agg [.v (.slice none 0 0)])] rfl ?_
  refine od_pu rfl rfl (p_assign rfl) ?_
  refine od_nil rfl ?_
  refine pd_seq ?_
  refine jd_seq [true, false, true, false] [true, false, true, true] rfl rfl rfl ?_
  refine jd_region rfl ?_
  refine od_pu rfl rfl (p_move rfl) ?_
  refine od_nil rfl ?_
  refine pd_seq ?_
  refine jd_cond_f [true, false, true, true, true] rfl rfl rfl ?_
  refine jd_skip rfl ?_
  refine pd_seq ?_
  refine jd_seq [true, true, false] [true, true, true] rfl rfl rfl ?_
  refine jd_region rfl ?_
  refine od_pu rfl rfl (p_move rfl) ?_
  refine od_pu rfl rfl (p_assert_1 rfl (fun _ _ => by kernel_rfl)) ?_
  refine od_pu rfl rfl (p_field rfl rfl rfl fg_166_0 rfl) ?_
  refine od_pu rfl rfl (p_assign rfl) ?_
  refine od_nil rfl ?_
  refine pd_seq ?_
  refine JD.keep [2] [(2, .sh 2 (l.map RowD.d))] rfl ?_
  refine jd_ret rfl ?_
  exact pd_retH Try.results97 (.cons (ro_tmp rfl) .nil) rfl HSub.none ⟨rfl, rfl⟩

theorem list_c (x : RunD) : CD Try.prog 97 [] [RunD.d x] (isR (.sh 2 (x.l.map RowD.d))) := by
  obtain ⟨m, l⟩ := x
  cases m
  · exact list_f l
  · exact list_t l

set_option maxHeartbeats 4000000 in
set_option maxRecDepth 100000 in
theorem heads_c (o : Int) (ll : LLs) (nl : ll.length ≤ 1000000000) (nt : total ll ≤ 1000000000) :
    CD Try.prog 14 [] [.v (.int .i64 o), .sh 1 (ll.map (D.ls 2 RowD.d))] (isOwn 1 3 ((runR o ll).2.map dN)) := by
  refine cd_of_JD Try.func14 rfl (N := 14) rfl rfl (fun C => ?_)
  refine JD.keep [0, 1] [(0, .v (.int .i64 o)), (1, .sh 1 (ll.map (D.ls 2 RowD.d)))] rfl ?_
  refine JD.bd 1 rfl (fun bd1 => ?_)
  have nl1 := bd_len bd1
  refine jd_seq [false] [true] rfl rfl rfl ?_
  refine jd_region rfl ?_
  refine od_pu rfl rfl (p_assign rfl) ?_
  refine od_nil rfl ?_
  refine pd_seq ?_
  refine jd_seq [true, false] [true, true] rfl rfl rfl ?_
  refine jd_region rfl ?_
  refine od_pu rfl rfl (p_move rfl) ?_
  refine od_pu rfl rfl (p_move rfl) ?_
  refine od_step rfl rfl (ef_call [] [] [] rfl rfl (.cons ArgC.id (.cons ArgC.id .nil)) lend_nil Try.call45 (all_c o ll nl nt) (.inl rfl)) ?_
  rintro _ _ ⟨_, ⟨ov, hv, rs, hs, rfl, rfl, hrun⟩, rfl⟩
  refine OpsD.norm [.sl ov 2 34 (rs.map RowD.d), .sl hv 1 3 (hs.map dN)] rfl ?_
  refine od_pu rfl rfl (p_move rfl) ?_
  refine od_pu rfl rfl (p_extract rfl rfl) ?_
  refine od_pu rfl rfl (p_extract rfl rfl) ?_
  refine od_pu rfl rfl (p_assign rfl) ?_
  refine od_pu rfl rfl (p_assign rfl) ?_
  refine od_nil rfl ?_
  refine pd_seq ?_
  refine JD.keep [4, 6] [(4, .v (.slice none 0 0)), (6, .ov hv)] rfl ?_
  refine jd_seq [true, true, false] [true, true, true] rfl rfl rfl ?_
  refine jd_region rfl ?_
  refine od_pu rfl rfl (p_move rfl) ?_
  refine od_pu rfl rfl (p_assign rfl) ?_
  refine od_nil rfl ?_
  refine pd_seq ?_
  refine jd_ret rfl ?_
  have hrr := runR_eq hrun
  refine PD.norm [.sl ov 2 34 (rs.map RowD.d), .sl hv 1 3 (((runR o ll).2).map dN)] (by rw [hrr]) ?_
  refine PD.subH (HSub.less (sub_one (i := 1) rfl)) ?_
  exact pd_ret Try.results14 (.cons (ro_tmp rfl) .nil) rfl ⟨_, rfl, rfl⟩

set_option maxHeartbeats 4000000 in
set_option maxRecDepth 100000 in
theorem rows_c (o : Int) (ll : LLs) (nl : ll.length ≤ 1000000000) (nt : total ll ≤ 1000000000) :
    CD Try.prog 16 [] [.v (.int .i64 o), .sh 1 (ll.map (D.ls 2 RowD.d))] (isOwn 2 34 ((runR o ll).1.map RowD.d)) := by
  refine cd_of_JD Try.func16 rfl (N := 14) rfl rfl (fun C => ?_)
  refine JD.keep [0, 1] [(0, .v (.int .i64 o)), (1, .sh 1 (ll.map (D.ls 2 RowD.d)))] rfl ?_
  refine JD.bd 1 rfl (fun bd1 => ?_)
  have nl1 := bd_len bd1
  refine jd_seq [false] [true] rfl rfl rfl ?_
  refine jd_region rfl ?_
  refine od_pu rfl rfl (p_assign rfl) ?_
  refine od_nil rfl ?_
  refine pd_seq ?_
  refine jd_seq [true, false] [true, true] rfl rfl rfl ?_
  refine jd_region rfl ?_
  refine od_pu rfl rfl (p_move rfl) ?_
  refine od_pu rfl rfl (p_move rfl) ?_
  refine od_step rfl rfl (ef_call [] [] [] rfl rfl (.cons ArgC.id (.cons ArgC.id .nil)) lend_nil Try.call45 (all_c o ll nl nt) (.inl rfl)) ?_
  rintro _ _ ⟨_, ⟨ov, hv, rs, hs, rfl, rfl, hrun⟩, rfl⟩
  refine OpsD.norm [.sl ov 2 34 (rs.map RowD.d), .sl hv 1 3 (hs.map dN)] rfl ?_
  refine od_pu rfl rfl (p_move rfl) ?_
  refine od_pu rfl rfl (p_extract rfl rfl) ?_
  refine od_pu rfl rfl (p_extract rfl rfl) ?_
  refine od_pu rfl rfl (p_assign rfl) ?_
  refine od_pu rfl rfl (p_assign rfl) ?_
  refine od_nil rfl ?_
  refine pd_seq ?_
  refine JD.keep [4, 5] [(4, .v (.slice none 0 0)), (5, .ov ov)] rfl ?_
  refine jd_seq [true, true, false] [true, true, true] rfl rfl rfl ?_
  refine jd_region rfl ?_
  refine od_pu rfl rfl (p_move rfl) ?_
  refine od_pu rfl rfl (p_assign rfl) ?_
  refine od_nil rfl ?_
  refine pd_seq ?_
  refine jd_ret rfl ?_
  have hrr := runR_eq hrun
  refine PD.norm [.sl ov 2 34 (((runR o ll).1).map RowD.d), .sl hv 1 3 (hs.map dN)] (by rw [hrr]) ?_
  refine PD.subH (HSub.less (sub_one (i := 0) rfl)) ?_
  exact pd_ret Try.results16 (.cons (ro_tmp rfl) .nil) rfl ⟨_, rfl, rfl⟩

set_option maxHeartbeats 4000000 in
set_option maxRecDepth 100000 in
theorem give_c (gs gp : Nat) (u : Value) (o fan : Int) (s : SortD) (l : List RowD) (hp : s.p.Ok) (hl : LightRs l) :
    CD Try.prog 154 [.bx gs 112 (.agg [.v (.int .i64 o), .v (.int .i64 fan), .v (.pointer (some ⟨gp, 0, none⟩)), .ov u, .v (.int .i64 s.nr), .v (.int .i64 s.nm), .v (.int .i64 0)]), .bx gp 163 (.agg [.v (.int .i64 s.p.room), .v (.int .i64 s.p.now), .v (.int .i64 s.p.high)])] [.v (.pointer (some ⟨gs, 0, none⟩)), .sh 2 (l.map RowD.d)] (fun r H' => r = .tup [] ∧ H' = [.bx gs 112 (.agg [.v (.int .i64 o), .v (.int .i64 fan), .v (.pointer (some ⟨gp, 0, none⟩)), .ov u, .v (.int .i64 s.nr), .v (.int .i64 s.nm), .v (.int .i64 0)]), .bx gp 163 (.agg [.v (.int .i64 ((giveAll s.p l).room)), .v (.int .i64 ((giveAll s.p l).now)), .v (.int .i64 ((giveAll s.p l).high))])]) := by
  refine cd_of_JD Try.func154 rfl (N := 20) rfl rfl (fun C => ?_)
  refine JD.keep [0, 1] [(0, .v (.pointer (some ⟨gs, 0, none⟩))), (1, .sh 2 (l.map RowD.d))] rfl ?_
  refine JD.bd 1 rfl (fun bd1 => ?_)
  have nl1 := bd_len bd1
  refine jd_seq [false] [true] rfl rfl rfl ?_
  refine jd_region rfl ?_
  refine od_pu rfl rfl (p_move rfl) ?_
  refine od_pu rfl rfl (p_len (n := l.length) rfl Try.runUnderlying27 (by simp only [List.length_map, List.length_cons, List.length_nil])) ?_
  refine od_pu rfl rfl (p_move rfl) ?_
  refine od_nil rfl ?_
  refine pd_seq ?_
  refine jd_block [true, false] rfl rfl ?_
  refine jd_loop (fun (g : Nat) => [(0, .v (.pointer (some ⟨gs, 0, none⟩))), (6, .sh 2 (l.map RowD.d)), (7, .v (.int .i64 ((l.length : Nat) : Int))), (8, .v (.int .i64 ((g : Nat) : Int)))]) (fun (g : Nat) => [.bx gs 112 (.agg [.v (.int .i64 o), .v (.int .i64 fan), .v (.pointer (some ⟨gp, 0, none⟩)), .ov u, .v (.int .i64 s.nr), .v (.int .i64 s.nm), .v (.int .i64 0)]), .bx gp 163 (.agg [.v (.int .i64 ((giveAll s.p (l.take g)).room)), .v (.int .i64 ((giveAll s.p (l.take g)).now)), .v (.int .i64 ((giveAll s.p (l.take g)).high))])]) (fun (g : Nat) => True) (fun (g : Nat) => l.length - g) [true, false, false] 0 rfl rfl ⟨sk rfl, sk rfl, sk rfl, sk rfl, trivial⟩ HSub.rfl' trivial ?_
  rintro k _
  refine JD.keep [0, 6, 7, 8] [(0, .v (.pointer (some ⟨gs, 0, none⟩))), (6, .sh 2 (l.map RowD.d)), (7, .v (.int .i64 ((l.length : Nat) : Int))), (8, .v (.int .i64 ((k : Nat) : Int)))] rfl ?_
  refine JD.norm [.bx gs 112 (.agg [.v (.int .i64 o), .v (.int .i64 fan), .v (.pointer (some ⟨gp, 0, none⟩)), .ov u, .v (.int .i64 s.nr), .v (.int .i64 s.nm), .v (.int .i64 0)]), .bx gp 163 (.agg [.v (.int .i64 ((giveAll s.p (l.take k)).room)), .v (.int .i64 ((giveAll s.p (l.take k)).now)), .v (.int .i64 ((giveAll s.p (l.take k)).high))])] rfl ?_
  refine jd_seq [true, false, false, false] [true, false, false, true] rfl rfl rfl ?_
  refine jd_region rfl ?_
  refine od_pu rfl rfl (p_lss rfl rfl rfl) ?_
  refine od_nil rfl ?_
  refine pd_seq ?_
  refine jd_seq [true, false, false, true, false] [true, false, false, true, true] rfl rfl rfl ?_
  refine jd_cond [true, false, false, true, false, false] [true, false, false, true, false, true] rfl rfl rfl rfl (fun hc1 => ?_) (fun hc1 => ?_)
  · replace hc1 := of_decide_eq_true hc1
    refine jd_skip rfl ?_
    refine pd_seq ?_
    refine jd_seq [true, false, false, true, true, false] [true, false, false, true, true, true] rfl rfl rfl ?_
    refine jd_block [true, false, false, true, true, false, false] rfl rfl ?_
    refine jd_seq [true, false, false, true, true, false, false, false] [true, false, false, true, true, false, false, true] rfl rfl rfl ?_
    refine jd_region rfl ?_
    obtain ⟨x1, hx1⟩ := get_some l k (by omega)
    have hcbx1 := costR_bd (hl x1 (mem_get hx1))
    refine od_pu rfl rfl (p_indexAddr (k := k) rfl rfl Try.runUnderlying27 Try.sizeOf34 (by first | rfl | omega) (get_map hx1)) ?_
    refine od_pu rfl rfl (p_load_el (d := RowD.d x1) rfl Try.isAgg34 Try.sizeOf34 rfl rfl) ?_
    refine od_step rfl rfl (ef_alloc (zv := (.agg #[(.slice none 0 0), (.int .i64 0)])) Try.zeroValue34 ⟨rfl, rfl, trivial⟩ (Cv.vagg (by decide))) ?_
    rintro _ _ ⟨g2, rfl, rfl⟩
    refine od_step rfl rfl (ef_store_bx (i := 0) (X' := RowD.d x1) rfl rfl rfl (CellD.agg) Try.sizeOf34 rfl rfl rfl) ?_
    rintro _ _ ⟨rfl, rfl⟩
    refine OpsD.norm [.bx g2 34 (RowD.d x1), .bx gs 112 (.agg [.v (.int .i64 o), .v (.int .i64 fan), .v (.pointer (some ⟨gp, 0, none⟩)), .ov u, .v (.int .i64 s.nr), .v (.int .i64 s.nm), .v (.int .i64 0)]), .bx gp 163 (.agg [.v (.int .i64 ((giveAll s.p (l.take k)).room)), .v (.int .i64 ((giveAll s.p (l.take k)).now)), .v (.int .i64 ((giveAll s.p (l.take k)).high))])] rfl ?_
    refine od_nil rfl ?_
    refine pd_seq ?_
    refine JD.keep [0, 5, 6, 7, 8, 9, 10, 11] [(0, .v (.pointer (some ⟨gs, 0, none⟩))), (5, .v (.pointer (some ⟨g2, 0, none⟩))), (6, .sh 2 (l.map RowD.d)), (7, .v (.int .i64 ((l.length : Nat) : Int))), (8, .v (.int .i64 ((k : Nat) : Int))), (9, .v (.bool (decide (((k : Nat) : Int) < ((l.length : Nat) : Int))))), (10, .el (RowD.d x1) 0), (11, RowD.d x1)] rfl ?_
    refine JD.norm [.bx g2 34 (RowD.d x1), .bx gs 112 (.agg [.v (.int .i64 o), .v (.int .i64 fan), .v (.pointer (some ⟨gp, 0, none⟩)), .ov u, .v (.int .i64 s.nr), .v (.int .i64 s.nm), .v (.int .i64 0)]), .bx gp 163 (.agg [.v (.int .i64 ((giveAll s.p (l.take k)).room)), .v (.int .i64 ((giveAll s.p (l.take k)).now)), .v (.int .i64 ((giveAll s.p (l.take k)).high))])] rfl ?_
    refine jd_draw 6 [(12, .v (.pointer (some ⟨gs, 0, none⟩)), none), (13, .v (.pointer (some ⟨gs, 0, none⟩)), none), (14, .v (.pointer (some ⟨gs, 2, none⟩)), none), (15, .v (.pointer (some ⟨gp, 0, none⟩)), none), (16, RowD.d x1, none), (17, .v (.int .i64 (costR x1)), none)] [.bx g2 34 (RowD.d x1), .bx gs 112 (.agg [.v (.int .i64 o), .v (.int .i64 fan), .v (.pointer (some ⟨gp, 0, none⟩)), .ov u, .v (.int .i64 s.nr), .v (.int .i64 s.nm), .v (.int .i64 0)]), .bx gp 163 (.agg [.v (.int .i64 ((giveAll s.p (l.take k)).room)), .v (.int .i64 ((giveAll s.p (l.take k)).now)), .v (.int .i64 ((giveAll s.p (l.take k)).high))])] (Hn := [.bx g2 34 (RowD.d x1), .bx gs 112 (.agg [.v (.int .i64 o), .v (.int .i64 fan), .v (.pointer (some ⟨gp, 0, none⟩)), .ov u, .v (.int .i64 s.nr), .v (.int .i64 s.nm), .v (.int .i64 0)]), .bx gp 163 (.agg [.v (.int .i64 ((giveAll s.p (l.take k)).room)), .v (.int .i64 ((giveAll s.p (l.take k)).now)), .v (.int .i64 ((giveAll s.p (l.take k)).high))])]) mixed rfl rfl rfl rfl HSub.rfl' rfl ⟨sa_p rfl rfl rfl (p_move rfl), sa_p rfl rfl rfl (p_nilCheck rfl), sa_p rfl rfl rfl (p_fieldAddr rfl fa_112_2 rfl), sa_p rfl rfl rfl (p_load_bx1 rfl (i := 1) rfl Try.isAgg108 rfl), sa_p rfl rfl rfl (p_load_bx (d := RowD.d x1) rfl (i := 0) rfl Try.isAgg34 Try.sizeOf34 rfl rfl), sa_q rfl rfl rfl (qu_call rfl (.cons Cv.rfl' .nil) Try.call33 (cost_c x1 (hl x1 (mem_get hx1))) isR_share), trivial⟩ ?_
    refine OpsD.keep [0, 5, 6, 7, 8, 9, 10, 11, 12, 13, 14, 15, 16, 17] [(0, .v (.pointer (some ⟨gs, 0, none⟩))), (5, .v (.pointer (some ⟨g2, 0, none⟩))), (6, .sh 2 (l.map RowD.d)), (7, .v (.int .i64 ((l.length : Nat) : Int))), (8, .v (.int .i64 ((k : Nat) : Int))), (9, .v (.bool (decide (((k : Nat) : Int) < ((l.length : Nat) : Int))))), (10, .el (RowD.d x1) 0), (11, RowD.d x1), (12, .v (.pointer (some ⟨gs, 0, none⟩))), (13, .v (.pointer (some ⟨gs, 0, none⟩))), (14, .v (.pointer (some ⟨gs, 2, none⟩))), (15, .v (.pointer (some ⟨gp, 0, none⟩))), (16, RowD.d x1), (17, .v (.int .i64 (costR x1)))] rfl ?_
    refine OpsD.subH (HSub.perm (perm_front (i := 2) rfl)) ?_
    refine OpsD.norm [.bx gp 163 (.agg [.v (.int .i64 ((giveAll s.p (l.take k)).room)), .v (.int .i64 ((giveAll s.p (l.take k)).now)), .v (.int .i64 ((giveAll s.p (l.take k)).high))]), .bx g2 34 (RowD.d x1), .bx gs 112 (.agg [.v (.int .i64 o), .v (.int .i64 fan), .v (.pointer (some ⟨gp, 0, none⟩)), .ov u, .v (.int .i64 s.nr), .v (.int .i64 s.nm), .v (.int .i64 0)])] rfl ?_
    refine od_step rfl rfl (ef_call [.bx gp 163 (.agg [.v (.int .i64 ((giveAll s.p (l.take k)).room)), .v (.int .i64 ((giveAll s.p (l.take k)).now)), .v (.int .i64 ((giveAll s.p (l.take k)).high))])] [.bx g2 34 (RowD.d x1), .bx gs 112 (.agg [.v (.int .i64 o), .v (.int .i64 fan), .v (.pointer (some ⟨gp, 0, none⟩)), .ov u, .v (.int .i64 s.nr), .v (.int .i64 s.nm), .v (.int .i64 0)])] [] rfl rfl (.cons ArgC.id (.cons ArgC.id .nil)) lend_nil Try.call155 (Give_c gp (giveAll s.p (l.take k)) (costR x1) (giveAll_ok hp _).1 (by omega)) (.inl rfl)) ?_
    rintro _ _ ⟨_, ⟨rfl, rfl⟩, rfl⟩
    refine OpsD.norm [.bx gp 163 (.agg [.v (.int .i64 (((giveAll s.p (l.take k)).give (costR x1)).room)), .v (.int .i64 (((giveAll s.p (l.take k)).give (costR x1)).now)), .v (.int .i64 (((giveAll s.p (l.take k)).give (costR x1)).high))]), .bx g2 34 (RowD.d x1), .bx gs 112 (.agg [.v (.int .i64 o), .v (.int .i64 fan), .v (.pointer (some ⟨gp, 0, none⟩)), .ov u, .v (.int .i64 s.nr), .v (.int .i64 s.nm), .v (.int .i64 0)])] rfl ?_
    refine od_nil rfl ?_
    refine pd_block ?_
    refine pd_seq ?_
    refine jd_region rfl ?_
    refine od_pu rfl rfl (p_add (c := ((k + 1 : Nat) : Int)) rfl rfl (w64eq (by omega) (by omega))) ?_
    refine od_pu rfl rfl (p_move rfl) ?_
    refine od_nil rfl ?_
    refine PD.subH (HSub.perm (perm_front (i := 2) rfl)) ?_
    refine PD.norm [.bx gs 112 (.agg [.v (.int .i64 o), .v (.int .i64 fan), .v (.pointer (some ⟨gp, 0, none⟩)), .ov u, .v (.int .i64 s.nr), .v (.int .i64 s.nm), .v (.int .i64 0)]), .bx gp 163 (.agg [.v (.int .i64 (((giveAll s.p (l.take k)).give (costR x1)).room)), .v (.int .i64 (((giveAll s.p (l.take k)).give (costR x1)).now)), .v (.int .i64 (((giveAll s.p (l.take k)).give (costR x1)).high))]), .bx g2 34 (RowD.d x1)] rfl ?_
    refine PD.subH (HSub.fst 2 rfl) ?_
    refine PD.norm [.bx gs 112 (.agg [.v (.int .i64 o), .v (.int .i64 fan), .v (.pointer (some ⟨gp, 0, none⟩)), .ov u, .v (.int .i64 s.nr), .v (.int .i64 s.nm), .v (.int .i64 0)]), .bx gp 163 (.agg [.v (.int .i64 (((giveAll s.p (l.take k)).give (costR x1)).room)), .v (.int .i64 (((giveAll s.p (l.take k)).give (costR x1)).now)), .v (.int .i64 (((giveAll s.p (l.take k)).give (costR x1)).high))])] rfl ?_
    refine PD.norm [.bx gs 112 (.agg [.v (.int .i64 o), .v (.int .i64 fan), .v (.pointer (some ⟨gp, 0, none⟩)), .ov u, .v (.int .i64 s.nr), .v (.int .i64 s.nm), .v (.int .i64 0)]), .bx gp 163 (.agg [.v (.int .i64 ((giveAll s.p (l.take (k + 1))).room)), .v (.int .i64 ((giveAll s.p (l.take (k + 1))).now)), .v (.int .i64 ((giveAll s.p (l.take (k + 1))).high))])] (by rw [giveAll_snoc hx1]) ?_
    exact pd_loop (k + 1) ⟨sk rfl, sk rfl, sk rfl, sk rfl, trivial⟩ HSub.rfl' trivial (by omega)
  · replace hc1 := of_decide_eq_false hc1
    refine jd_exit rfl ?_
    refine pd_seq_exit ?_
    refine pd_loop_exit ?_
    refine pd_block_exit ?_
    refine PD.norm [.bx gs 112 (.agg [.v (.int .i64 o), .v (.int .i64 fan), .v (.pointer (some ⟨gp, 0, none⟩)), .ov u, .v (.int .i64 s.nr), .v (.int .i64 s.nm), .v (.int .i64 0)]), .bx gp 163 (.agg [.v (.int .i64 ((giveAll s.p l).room)), .v (.int .i64 ((giveAll s.p l).now)), .v (.int .i64 ((giveAll s.p l).high))])] (by rw [List.take_of_length_le (by omega)]) ?_
    exact pd_endH Try.results154 .nil rfl (HSub.fst 2 rfl) ⟨rfl, rfl⟩

set_option maxHeartbeats 4000000 in
set_option maxRecDepth 100000 in
theorem end_c (gs gp : Nat) (u : Value) (o fan : Int) (s : SortD) (l : List RowD) (hp : s.p.Ok) (hnr : 0 ≤ s.nr ∧ s.nr ≤ 100000) (hlr : s.runs.length ≤ 100000) (hl : LightRs l) (hll : l.length ≤ 1000000) :
    CD Try.prog 132 [.bx gs 112 (.agg [.v (.int .i64 o), .v (.int .i64 fan), .v (.pointer (some ⟨gp, 0, none⟩)), .ov u, .v (.int .i64 s.nr), .v (.int .i64 s.nm), .v (.int .i64 0)]), .bx gp 163 (.agg [.v (.int .i64 s.p.room), .v (.int .i64 s.p.now), .v (.int .i64 s.p.high)]), .slo u 1 20 (s.runs.map RunD.d)] [.v (.pointer (some ⟨gs, 0, none⟩)), .sh 2 (l.map RowD.d)] (fun r H' => ∃ u', r = .tup [] ∧ H' = [.bx gs 112 (.agg [.v (.int .i64 o), .v (.int .i64 fan), .v (.pointer (some ⟨gp, 0, none⟩)), .ov u', .v (.int .i64 ((endS o s l).nr)), .v (.int .i64 ((endS o s l).nm)), .v (.int .i64 0)]), .bx gp 163 (.agg [.v (.int .i64 (((endS o s l).p).room)), .v (.int .i64 (((endS o s l).p).now)), .v (.int .i64 (((endS o s l).p).high))]), .slo u' 1 20 (((endS o s l).runs).map RunD.d)]) := by
  refine cd_of_JD Try.func132 rfl (N := 36) rfl rfl (fun C => ?_)
  refine JD.keep [0, 1] [(0, .v (.pointer (some ⟨gs, 0, none⟩))), (1, .sh 2 (l.map RowD.d))] rfl ?_
  refine JD.bd 1 rfl (fun bd1 => ?_)
  have nl1 := bd_len bd1
  refine jd_seq [false] [true] rfl rfl rfl ?_
  refine jd_region rfl ?_
  refine od_pu rfl rfl (p_move rfl) ?_
  refine od_pu rfl rfl (p_len (n := l.length) rfl Try.runUnderlying27 (by simp only [List.length_map, List.length_cons, List.length_nil])) ?_
  refine od_pu rfl rfl (p_gtr rfl rfl rfl) ?_
  refine od_nil rfl ?_
  refine pd_seq ?_
  refine jd_cond [true, false] [true, true] rfl rfl rfl rfl (fun hc1 => ?_) (fun hc1 => ?_)
  · replace hc1 := of_decide_eq_true hc1
    refine jd_seq [true, false, false] [true, false, true] rfl rfl rfl ?_
    refine JD.subH (HSub.perm (perm_front (i := 2) rfl)) ?_
    refine JD.norm [.slo u 1 20 (s.runs.map RunD.d), .bx gs 112 (.agg [.v (.int .i64 o), .v (.int .i64 fan), .v (.pointer (some ⟨gp, 0, none⟩)), .ov u, .v (.int .i64 s.nr), .v (.int .i64 s.nm), .v (.int .i64 0)]), .bx gp 163 (.agg [.v (.int .i64 s.p.room), .v (.int .i64 s.p.now), .v (.int .i64 s.p.high)])] rfl ?_
    refine JD.keep [0, 1, 4, 5, 6] [(0, .v (.pointer (some ⟨gs, 0, none⟩))), (1, .sh 2 (l.map RowD.d)), (4, .sh 2 (l.map RowD.d)), (5, .v (.int .i64 ((l.length : Nat) : Int))), (6, .v (.bool (decide ((0 : Int) < ((l.length : Nat) : Int)))))] rfl ?_
    refine JD.norm [.slo u 1 20 (s.runs.map RunD.d), .bx gs 112 (.agg [.v (.int .i64 o), .v (.int .i64 fan), .v (.pointer (some ⟨gp, 0, none⟩)), .ov u, .v (.int .i64 s.nr), .v (.int .i64 s.nm), .v (.int .i64 0)]), .bx gp 163 (.agg [.v (.int .i64 s.p.room), .v (.int .i64 s.p.now), .v (.int .i64 s.p.high)])] rfl ?_
    refine jd_drawo 15 [(7, .q (.v (.pointer (some ⟨gs, 0, none⟩)))), (8, .q (.v (.pointer (some ⟨gs, 0, none⟩)))), (9, .q (.v (.pointer (some ⟨gs, 0, none⟩)))), (10, .q (.v (.pointer (some ⟨gs, 3, none⟩)))), (11, .q (.ov u)), (12, .q (.v (.pointer (some ⟨gs, 0, none⟩)))), (13, .q (.v (.pointer (some ⟨gs, 0, none⟩)))), (14, .q (.v (.pointer (some ⟨gs, 0, none⟩)))), (15, .q (.v (.int .i64 o))), (16, .q (.sh 2 (l.map RowD.d))), (17, .q (.sh 2 ((isort (cmpRow o) l).map RowD.d))), (18, .q (.agg [.sh 2 ((isort (cmpRow o) l).map RowD.d)])), (19, .q (.ifc 167 (.agg [.sh 2 ((isort (cmpRow o) l).map RowD.d)]))), (20, .q (.sh 1 ([(RunD.mk true (isort (cmpRow o) l))].map RunD.d))), (21, .o (fun γ => [.slo (γ 14) 1 20 ((s.runs ++ [(RunD.mk true (isort (cmpRow o) l))]).map RunD.d), .bx gs 112 (.agg [.v (.int .i64 o), .v (.int .i64 fan), .v (.pointer (some ⟨gp, 0, none⟩)), .ov u, .v (.int .i64 s.nr), .v (.int .i64 s.nm), .v (.int .i64 0)]), .bx gp 163 (.agg [.v (.int .i64 s.p.room), .v (.int .i64 s.p.now), .v (.int .i64 s.p.high)])]))] [.bx gs 112 (.agg [.v (.int .i64 o), .v (.int .i64 fan), .v (.pointer (some ⟨gp, 0, none⟩)), .ov u, .v (.int .i64 s.nr), .v (.int .i64 s.nm), .v (.int .i64 0)]), .bx gp 163 (.agg [.v (.int .i64 s.p.room), .v (.int .i64 s.p.now), .v (.int .i64 s.p.high)])] (Hn := fun γ => [.slo (γ 14) 1 20 ((s.runs ++ [(RunD.mk true (isort (cmpRow o) l))]).map RunD.d), .bx gs 112 (.agg [.v (.int .i64 o), .v (.int .i64 fan), .v (.pointer (some ⟨gp, 0, none⟩)), .ov u, .v (.int .i64 s.nr), .v (.int .i64 s.nm), .v (.int .i64 0)]), .bx gp 163 (.agg [.v (.int .i64 s.p.room), .v (.int .i64 s.p.now), .v (.int .i64 s.p.high)])]) mixed rfl rfl (by kernel_rfl) (by kernel_rfl) (by kernel_rfl) (HSub.lst 1 rfl) (fun _ => rfl) (fun γ => ⟨so_p rfl rfl rfl (p_move rfl), so_p rfl rfl rfl (p_move rfl), so_p rfl rfl rfl (p_nilCheck rfl), so_p rfl rfl rfl (p_fieldAddr rfl fa_112_3 rfl), so_p rfl rfl rfl (p_load_bx1 rfl (i := 0) rfl Try.isAgg110 rfl), so_p rfl rfl rfl (p_move rfl), so_p rfl rfl rfl (p_nilCheck rfl), so_p rfl rfl rfl (p_fieldAddr rfl fa_112_0 rfl), so_p rfl rfl rfl (p_load_bx1 rfl (i := 0) rfl Try.isAgg3 rfl), so_p rfl rfl rfl (p_move rfl), so_q rfl rfl rfl (qu_call rfl (.cons Cv.rfl' (.cons Cv.rfl' .nil)) Try.call153 (SortR_c o l (by omega)) isOwn_share), so_p rfl rfl rfl (p_build [0] [.tmp 17] (zv := (.agg #[(.slice none 0 0)])) rfl rfl (.cons CellD.sh .nil) (Try.runUnderlying167) Try.zeroValue167 bd_167 ⟨rfl, trivial⟩ rfl), so_p rfl rfl rfl (p_mkIface rfl (fun _ _ => by kernel_rfl)), so_q rfl rfl rfl (qu_buildSlice [.tmp 19] rfl rfl (.cons CellD.ifc .nil) rfl Try.runUnderlying110 Try.sizeOf20 Try.zeroValue20 rfl rfl rfl rfl), so_o rfl rfl rfl rfl ((ef_append_slo (f := RunD.d) (l := s.runs) (l' := [(RunD.mk true (isort (cmpRow o) l))]) (i := 0) rfl rfl rfl (SrcD.sh) (by simp) und_110 infz_20 rfl rfl (by unfold maxLen; (try simp only [List.length_append, List.length_cons, List.length_nil, List.length_map, List.length_take, List.length_drop, List.length_set, List.length_replicate]); omega) (by (try simp only [List.length_append, List.length_cons, List.length_nil, List.length_map, List.length_take, List.length_drop, List.length_set, List.length_replicate]); omega)).mono (by rintro _ _ ⟨v, rfl, rfl⟩; exact ⟨v, rfl, rfl⟩)) (fun _ => HSub.lst 1 rfl), trivial⟩) (fun γ => ?_)
    refine OpsD.keep [0, 1, 4, 5, 6, 7, 8, 9, 10, 11, 12, 13, 14, 15, 16, 17, 18, 19, 20, 21] [(0, .v (.pointer (some ⟨gs, 0, none⟩))), (1, .sh 2 (l.map RowD.d)), (4, .sh 2 (l.map RowD.d)), (5, .v (.int .i64 ((l.length : Nat) : Int))), (6, .v (.bool (decide ((0 : Int) < ((l.length : Nat) : Int))))), (7, .v (.pointer (some ⟨gs, 0, none⟩))), (8, .v (.pointer (some ⟨gs, 0, none⟩))), (9, .v (.pointer (some ⟨gs, 0, none⟩))), (10, .v (.pointer (some ⟨gs, 3, none⟩))), (11, .ov u), (12, .v (.pointer (some ⟨gs, 0, none⟩))), (13, .v (.pointer (some ⟨gs, 0, none⟩))), (14, .v (.pointer (some ⟨gs, 0, none⟩))), (15, .v (.int .i64 o)), (16, .sh 2 (l.map RowD.d)), (17, .sh 2 ((isort (cmpRow o) l).map RowD.d)), (18, .agg [.sh 2 ((isort (cmpRow o) l).map RowD.d)]), (19, .ifc 167 (.agg [.sh 2 ((isort (cmpRow o) l).map RowD.d)])), (20, .sh 1 ([(RunD.mk true (isort (cmpRow o) l))].map RunD.d)), (21, .ov (γ 14))] rfl ?_
    refine od_pu rfl rfl (p_nilCheck rfl) ?_
    refine od_pu rfl rfl (p_fieldAddr rfl fa_112_3 rfl) ?_
    refine od_step rfl rfl (ef_store_bx (i := 1) (X' := .agg [.v (.int .i64 o), .v (.int .i64 fan), .v (.pointer (some ⟨gp, 0, none⟩)), .ov (γ 14), .v (.int .i64 s.nr), .v (.int .i64 s.nm), .v (.int .i64 0)]) rfl rfl rfl (CellD.o) Try.sizeOf110 rfl rfl rfl) ?_
    rintro _ _ ⟨rfl, rfl⟩
    refine OpsD.norm [.slo (γ 14) 1 20 ((s.runs ++ [(RunD.mk true (isort (cmpRow o) l))]).map RunD.d), .bx gs 112 (.agg [.v (.int .i64 o), .v (.int .i64 fan), .v (.pointer (some ⟨gp, 0, none⟩)), .ov (γ 14), .v (.int .i64 s.nr), .v (.int .i64 s.nm), .v (.int .i64 0)]), .bx gp 163 (.agg [.v (.int .i64 s.p.room), .v (.int .i64 s.p.now), .v (.int .i64 s.p.high)])] rfl ?_
    refine od_nil rfl ?_
    refine pd_seq ?_
    refine JD.keep [0, 1] [(0, .v (.pointer (some ⟨gs, 0, none⟩))), (1, .sh 2 (l.map RowD.d))] rfl ?_
    refine jd_seq [true, false, true, false] [true, false, true, true] rfl rfl rfl ?_
    refine jd_region rfl ?_
    refine od_pu rfl rfl (p_move rfl) ?_
    refine od_pu rfl rfl (p_nilCheck rfl) ?_
    refine od_pu rfl rfl (p_fieldAddr rfl fa_112_4 rfl) ?_
    refine od_pu rfl rfl (p_fieldAddr rfl fa_59_0 rfl) ?_
    refine od_pu rfl rfl (p_load_bx1 rfl (i := 1) rfl Try.isAgg3 rfl) ?_
    refine od_pu rfl rfl (p_add (c := (s.nr + 1)) rfl rfl (w64eq (by omega) (by omega))) ?_
    refine od_pu rfl rfl (p_nilCheck rfl) ?_
    refine od_pu rfl rfl (p_fieldAddr rfl fa_112_4 rfl) ?_
    refine od_pu rfl rfl (p_fieldAddr rfl fa_59_0 rfl) ?_
    refine od_step rfl rfl (ef_store_bx (i := 1) (X' := .agg [.v (.int .i64 o), .v (.int .i64 fan), .v (.pointer (some ⟨gp, 0, none⟩)), .ov (γ 14), .v (.int .i64 (s.nr + 1)), .v (.int .i64 s.nm), .v (.int .i64 0)]) rfl rfl rfl (CellD.v rfl) Try.sizeOf3 rfl rfl rfl) ?_
    rintro _ _ ⟨rfl, rfl⟩
    refine OpsD.norm [.slo (γ 14) 1 20 ((s.runs ++ [(RunD.mk true (isort (cmpRow o) l))]).map RunD.d), .bx gs 112 (.agg [.v (.int .i64 o), .v (.int .i64 fan), .v (.pointer (some ⟨gp, 0, none⟩)), .ov (γ 14), .v (.int .i64 (s.nr + 1)), .v (.int .i64 s.nm), .v (.int .i64 0)]), .bx gp 163 (.agg [.v (.int .i64 s.p.room), .v (.int .i64 s.p.now), .v (.int .i64 s.p.high)])] rfl ?_
    refine od_nil rfl ?_
    refine pd_seq ?_
    refine JD.keep [0, 1] [(0, .v (.pointer (some ⟨gs, 0, none⟩))), (1, .sh 2 (l.map RowD.d))] rfl ?_
    refine jd_region rfl ?_
    refine od_pu rfl rfl (p_move rfl) ?_
    refine od_pu rfl rfl (p_move rfl) ?_
    refine OpsD.subH (HSub.perm (perm_front (i := 2) rfl)) ?_
    refine OpsD.norm [.bx gp 163 (.agg [.v (.int .i64 s.p.room), .v (.int .i64 s.p.now), .v (.int .i64 s.p.high)]), .slo (γ 14) 1 20 ((s.runs ++ [(RunD.mk true (isort (cmpRow o) l))]).map RunD.d), .bx gs 112 (.agg [.v (.int .i64 o), .v (.int .i64 fan), .v (.pointer (some ⟨gp, 0, none⟩)), .ov (γ 14), .v (.int .i64 (s.nr + 1)), .v (.int .i64 s.nm), .v (.int .i64 0)])] rfl ?_
    refine OpsD.subH (HSub.perm (perm_front (i := 2) rfl)) ?_
    refine OpsD.norm [.bx gs 112 (.agg [.v (.int .i64 o), .v (.int .i64 fan), .v (.pointer (some ⟨gp, 0, none⟩)), .ov (γ 14), .v (.int .i64 (s.nr + 1)), .v (.int .i64 s.nm), .v (.int .i64 0)]), .bx gp 163 (.agg [.v (.int .i64 s.p.room), .v (.int .i64 s.p.now), .v (.int .i64 s.p.high)]), .slo (γ 14) 1 20 ((s.runs ++ [(RunD.mk true (isort (cmpRow o) l))]).map RunD.d)] rfl ?_
    refine od_step rfl rfl (ef_call [.bx gs 112 (.agg [.v (.int .i64 o), .v (.int .i64 fan), .v (.pointer (some ⟨gp, 0, none⟩)), .ov (γ 14), .v (.int .i64 (s.nr + 1)), .v (.int .i64 s.nm), .v (.int .i64 0)]), .bx gp 163 (.agg [.v (.int .i64 s.p.room), .v (.int .i64 s.p.now), .v (.int .i64 s.p.high)])] [.slo (γ 14) 1 20 ((s.runs ++ [(RunD.mk true (isort (cmpRow o) l))]).map RunD.d)] [] rfl rfl (.cons ArgC.id (.cons ArgC.id .nil)) lend_nil Try.call154 (give_c gs gp (γ 14) o fan (SortD.mk [] (s.nr + 1) s.nm s.p) l hp hl) (.inl rfl)) ?_
    rintro _ _ ⟨_, ⟨rfl, rfl⟩, rfl⟩
    refine OpsD.norm [.bx gs 112 (.agg [.v (.int .i64 o), .v (.int .i64 fan), .v (.pointer (some ⟨gp, 0, none⟩)), .ov (γ 14), .v (.int .i64 (s.nr + 1)), .v (.int .i64 s.nm), .v (.int .i64 0)]), .bx gp 163 (.agg [.v (.int .i64 ((giveAll s.p l).room)), .v (.int .i64 ((giveAll s.p l).now)), .v (.int .i64 ((giveAll s.p l).high))]), .slo (γ 14) 1 20 ((s.runs ++ [(RunD.mk true (isort (cmpRow o) l))]).map RunD.d)] rfl ?_
    refine od_nil rfl ?_
    refine PD.norm [.bx gs 112 (.agg [.v (.int .i64 o), .v (.int .i64 fan), .v (.pointer (some ⟨gp, 0, none⟩)), .ov (γ 14), .v (.int .i64 (s.nr + 1)), .v (.int .i64 s.nm), .v (.int .i64 0)]), .bx gp 163 (.agg [.v (.int .i64 ((giveAll s.p l).room)), .v (.int .i64 ((giveAll s.p l).now)), .v (.int .i64 ((giveAll s.p l).high))]), .slo (γ 14) 1 20 ((s.runs ++ [(RunD.mk true (isort (cmpRow o) l))]).map RunD.d)] rfl ?_
    refine PD.norm [.bx gs 112 (.agg [.v (.int .i64 o), .v (.int .i64 fan), .v (.pointer (some ⟨gp, 0, none⟩)), .ov (γ 14), .v (.int .i64 ((endS o s l).nr)), .v (.int .i64 ((endS o s l).nm)), .v (.int .i64 0)]), .bx gp 163 (.agg [.v (.int .i64 (((endS o s l).p).room)), .v (.int .i64 (((endS o s l).p).now)), .v (.int .i64 (((endS o s l).p).high))]), .slo (γ 14) 1 20 (((endS o s l).runs).map RunD.d)] (by rw [endS_pos (by omega)]) ?_
    exact pd_endH Try.results132 .nil rfl HSub.rfl' ⟨_, rfl, rfl⟩
  · replace hc1 := of_decide_eq_false hc1
    refine jd_skip rfl ?_
    refine PD.norm [.bx gs 112 (.agg [.v (.int .i64 o), .v (.int .i64 fan), .v (.pointer (some ⟨gp, 0, none⟩)), .ov u, .v (.int .i64 s.nr), .v (.int .i64 s.nm), .v (.int .i64 0)]), .bx gp 163 (.agg [.v (.int .i64 s.p.room), .v (.int .i64 s.p.now), .v (.int .i64 s.p.high)]), .slo u 1 20 (s.runs.map RunD.d)] rfl ?_
    refine PD.norm [.bx gs 112 (.agg [.v (.int .i64 o), .v (.int .i64 fan), .v (.pointer (some ⟨gp, 0, none⟩)), .ov u, .v (.int .i64 ((endS o s l).nr)), .v (.int .i64 ((endS o s l).nm)), .v (.int .i64 0)]), .bx gp 163 (.agg [.v (.int .i64 (((endS o s l).p).room)), .v (.int .i64 (((endS o s l).p).now)), .v (.int .i64 (((endS o s l).p).high))]), .slo u 1 20 (((endS o s l).runs).map RunD.d)] (by rw [endS_nil (by omega)]) ?_
    exact pd_endH Try.results132 .nil rfl HSub.rfl' ⟨_, rfl, rfl⟩
end Lp
