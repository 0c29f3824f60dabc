/- Walks, printed by a program of mine (wip/tools/dw.py): each theorem says what a function of the translation hands back. -/
import Derived.Test.YtjhkajkickngmaaV8
set_option linter.unusedSimpArgs false
set_option linter.unusedVariables false
namespace Lp
open Go Go.RowKit Go.Proofs

namespace HdV9
theorem fa_74_0 (b o : Nat) : ∀ w, (Instr.fieldAt 74 (.pointer (some ⟨b, o, none⟩)) 0).run Try.prog w = .ok (.pointer (some ⟨b, o + 0, none⟩)) w := fun _ => by kernel_rfl
theorem fa_74_1 (b o : Nat) : ∀ w, (Instr.fieldAt 74 (.pointer (some ⟨b, o, none⟩)) 1).run Try.prog w = .ok (.pointer (some ⟨b, o + 1, none⟩)) w := fun _ => by kernel_rfl
theorem infz_9 : ∃ i, Try.prog.info? 9 = some i ∧ i.zero = some (.string ByteArray.empty) ∧ i.size = 1 ∧ i.bytes = 16 := infz_of (by kernel_rfl)
theorem und_76 : Try.prog.underlying 76 = some (.slice 9) := by kernel_rfl
end HdV9
open HdV9

set_option maxHeartbeats 4000000 in
set_option maxRecDepth 100000 in
theorem Text_c (l : List Lbl) (hl : l.length ≤ 1000) (hz : ∀ x ∈ l, x.n.size ≤ 100000 ∧ x.v.size ≤ 100000) :
    CD Try.prog 42 [] [.sh 2 (l.map Lbl.d)] (isR (D.s (textB l))) := by
  refine cd_of_JD Try.func42 rfl (N := 27) rfl rfl (fun C => ?_)
  refine JD.keep [0] [(0, .sh 2 (l.map Lbl.d))] rfl ?_
  refine JD.bd 0 rfl (fun bd0 => ?_)
  have nl0 := bd_len bd0
  refine jd_seq [false] [true] rfl rfl rfl ?_
  refine jd_region rfl ?_
  refine od_pu rfl rfl (p_assign rfl) ?_
  refine od_nil rfl ?_
  refine pd_seq ?_
  refine jd_seq [true, false] [true, true] rfl rfl rfl ?_
  refine jd_region rfl ?_
  refine od_pu rfl rfl (p_assign rfl) ?_
  refine od_nil rfl ?_
  refine pd_seq ?_
  refine jd_seq [true, true, false] [true, true, true] rfl rfl rfl ?_
  refine jd_seq [true, true, false, false] [true, true, false, true] rfl rfl rfl ?_
  refine jd_region rfl ?_
  refine od_pu rfl rfl (p_move rfl) ?_
  refine od_pu rfl rfl (p_len (n := l.length) rfl Try.runUnderlying32 (by simp only [List.length_map, List.length_cons, List.length_nil])) ?_
  refine od_pu rfl rfl (p_move rfl) ?_
  refine od_nil rfl ?_
  refine pd_seq ?_
  refine jd_block [true, true, false, true, false] rfl rfl ?_
  refine jd_loop (fun (g : Nat × Value × List ByteArray) => [(2, .v (.string ByteArray.empty)), (6, .sh 2 (l.map Lbl.d)), (7, .v (.int .i64 ((l.length : Nat) : Int))), (8, .v (.int .i64 ((g.1 : Nat) : Int))), (3, .ov g.2.1)]) (fun (g : Nat × Value × List ByteArray) => [.sl g.2.1 1 9 (g.2.2.map D.s)]) (fun (g : Nat × Value × List ByteArray) => (g.2.2 = (l.take g.1).map partB) ∧ (g.2.2.length ≤ g.1) ∧ (g.1 ≤ l.length)) (fun (g : Nat × Value × List ByteArray) => l.length - g.1) [true, true, false, true, false, false] (0, .slice none 0 0, []) rfl rfl ⟨sk rfl, sk rfl, sk rfl, sk rfl, sc rfl (Cv.ov rfl), trivial⟩ (HSub.nil 1 9) ⟨rfl, Nat.le_refl _, Nat.zero_le _⟩ ?_
  rintro ⟨k, ov, o⟩ ⟨ho, hol, hkl⟩
  replace ho : o = (l.take k).map partB := ho
  replace hol : o.length ≤ k := hol
  replace hkl : k ≤ l.length := hkl
  refine JD.keep [2, 6, 7, 8, 3] [(2, .v (.string ByteArray.empty)), (6, .sh 2 (l.map Lbl.d)), (7, .v (.int .i64 ((l.length : Nat) : Int))), (8, .v (.int .i64 ((k : Nat) : Int))), (3, .ov ov)] rfl ?_
  refine JD.norm [.sl ov 1 9 (o.map D.s)] rfl ?_
  have hsk := sumSz_parts hl hz k; rw [← ho] at hsk
  refine jd_seq [true, true, false, true, false, false, false] [true, true, false, true, false, false, true] rfl rfl rfl ?_
  refine jd_region rfl ?_
  refine od_pu rfl rfl (p_lss rfl rfl rfl) ?_
  refine od_nil rfl ?_
  refine pd_seq ?_
  refine jd_seq [true, true, false, true, false, false, true, false] [true, true, false, true, false, false, true, true] rfl rfl rfl ?_
  refine jd_cond [true, true, false, true, false, false, true, false, false] [true, true, false, true, false, false, true, false, true] rfl rfl rfl rfl (fun hc1 => ?_) (fun hc1 => ?_)
  · replace hc1 := of_decide_eq_true hc1
    refine jd_skip rfl ?_
    refine pd_seq ?_
    refine jd_seq [true, true, false, true, false, false, true, true, false] [true, true, false, true, false, false, true, true, true] rfl rfl rfl ?_
    refine jd_block [true, true, false, true, false, false, true, true, false, false] rfl rfl ?_
    refine jd_seq [true, true, false, true, false, false, true, true, false, false, false] [true, true, false, true, false, false, true, true, false, false, true] rfl rfl rfl ?_
    refine jd_region rfl ?_
    obtain ⟨x1, hx1⟩ := get_some l k (by omega)
    have hzk := hz x1 (List.mem_of_getElem? hx1)
    have hqk := quoteB_size x1.v
    refine od_pu rfl rfl (p_indexAddr (k := k) rfl rfl Try.runUnderlying32 Try.sizeOf74 (by first | rfl | omega) (get_map hx1)) ?_
    refine od_pu rfl rfl (p_load_el (d := Lbl.d x1) rfl Try.isAgg74 Try.sizeOf74 rfl rfl) ?_
    refine od_step rfl rfl (ef_alloc (zv := (.agg #[(.string ByteArray.empty), (.string ByteArray.empty)])) Try.zeroValue74 ⟨rfl, rfl, trivial⟩ (Cv.vagg (by decide))) ?_
    rintro _ _ ⟨g2, rfl, rfl⟩
    refine od_step rfl rfl (ef_store_bx (i := 0) (X' := Lbl.d x1) rfl rfl rfl (CellD.agg) Try.sizeOf74 rfl rfl rfl) ?_
    rintro _ _ ⟨rfl, rfl⟩
    refine OpsD.norm [.bx g2 74 (Lbl.d x1), .sl ov 1 9 (o.map D.s)] rfl ?_
    refine od_nil rfl ?_
    refine pd_seq ?_
    refine JD.keep [2, 3, 5, 6, 7, 8, 9, 10, 11] [(2, .v (.string ByteArray.empty)), (3, .ov ov), (5, .v (.pointer (some ⟨g2, 0, none⟩))), (6, .sh 2 (l.map Lbl.d)), (7, .v (.int .i64 ((l.length : Nat) : Int))), (8, .v (.int .i64 ((k : Nat) : Int))), (9, .v (.bool (decide (((k : Nat) : Int) < ((l.length : Nat) : Int))))), (10, .el (Lbl.d x1) 0), (11, Lbl.d x1)] rfl ?_
    refine JD.norm [.bx g2 74 (Lbl.d x1), .sl ov 1 9 (o.map D.s)] rfl ?_
    refine jd_draw 9 [(12, .ov ov, none), (13, .v (.pointer (some ⟨g2, 0, none⟩)), none), (14, .s x1.n, none), (15, .s (x1.n ++ (⟨#[61]⟩ : ByteArray)), none), (16, .v (.pointer (some ⟨g2, 1, none⟩)), none), (17, .s x1.v, none), (18, .s (quoteB x1.v), none), (19, .s ((x1.n ++ (⟨#[61]⟩ : ByteArray)) ++ (quoteB x1.v)), none), (20, .sh 1 ([((x1.n ++ (⟨#[61]⟩ : ByteArray)) ++ (quoteB x1.v))].map D.s), none)] [.bx g2 74 (Lbl.d x1), .sl ov 1 9 (o.map D.s)] (Hn := [.bx g2 74 (Lbl.d x1), .sl ov 1 9 (o.map D.s)]) mixed rfl rfl rfl rfl HSub.rfl' rfl ⟨sa_p rfl rfl rfl (p_move rfl), sa_p rfl rfl rfl (p_fieldAddr rfl fa_74_0 rfl), sa_p rfl rfl rfl (p_load_bx1 rfl (i := 0) rfl Try.isAgg9 rfl), sa_p rfl rfl rfl (p_cat rfl rfl (by unfold maxLen; (try simp only [ByteArray.size_append]); (try simp only [ByteArray.size_append]); have e1 : (⟨#[61]⟩ : ByteArray).size = 1 := rfl; have e2 : (⟨#[123]⟩ : ByteArray).size = 1 := rfl; have e3 : (⟨#[125]⟩ : ByteArray).size = 1 := rfl; (try have := joinB_size (sep := ⟨#[44]⟩) rfl o); omega)), sa_p rfl rfl rfl (p_fieldAddr rfl fa_74_1 rfl), sa_p rfl rfl rfl (p_load_bx1 rfl (i := 0) rfl Try.isAgg9 rfl), sa_q rfl rfl rfl (qu_call rfl (.cons Cv.rfl' .nil) Try.call104 (Quote_c x1.v (by omega)) isR_share), sa_p rfl rfl rfl (p_cat rfl rfl (by unfold maxLen; (try simp only [ByteArray.size_append]); (try simp only [ByteArray.size_append]); have e1 : (⟨#[61]⟩ : ByteArray).size = 1 := rfl; have e2 : (⟨#[123]⟩ : ByteArray).size = 1 := rfl; have e3 : (⟨#[125]⟩ : ByteArray).size = 1 := rfl; (try have := joinB_size (sep := ⟨#[44]⟩) rfl o); omega)), sa_q rfl rfl rfl (qu_buildSlice [.tmp 19] rfl rfl (.cons CellD.s .nil) rfl Try.runUnderlying76 Try.sizeOf9 Try.zeroValue9 rfl rfl rfl rfl), trivial⟩ ?_
    refine OpsD.keep [2, 3, 5, 6, 7, 8, 9, 10, 11, 12, 13, 14, 15, 16, 17, 18, 19, 20] [(2, .v (.string ByteArray.empty)), (3, .ov ov), (5, .v (.pointer (some ⟨g2, 0, none⟩))), (6, .sh 2 (l.map Lbl.d)), (7, .v (.int .i64 ((l.length : Nat) : Int))), (8, .v (.int .i64 ((k : Nat) : Int))), (9, .v (.bool (decide (((k : Nat) : Int) < ((l.length : Nat) : Int))))), (10, .el (Lbl.d x1) 0), (11, Lbl.d x1), (12, .ov ov), (13, .v (.pointer (some ⟨g2, 0, none⟩))), (14, .s x1.n), (15, .s (x1.n ++ (⟨#[61]⟩ : ByteArray))), (16, .v (.pointer (some ⟨g2, 1, none⟩))), (17, .s x1.v), (18, .s (quoteB x1.v)), (19, .s ((x1.n ++ (⟨#[61]⟩ : ByteArray)) ++ (quoteB x1.v))), (20, .sh 1 ([((x1.n ++ (⟨#[61]⟩ : ByteArray)) ++ (quoteB x1.v))].map D.s))] rfl ?_
    refine od_step rfl rfl (ef_append_m (f := D.s) (l := o) (l' := [((x1.n ++ (⟨#[61]⟩ : ByteArray)) ++ (quoteB x1.v))]) (i := 1) rfl rfl rfl (SrcD.sh) und_76 infz_9 rfl rfl (by unfold maxLen; (try simp only [List.length_append, List.length_cons, List.length_nil, List.length_map, List.length_take, List.length_drop, List.length_set, List.length_replicate]); omega) (by (try simp only [List.length_append, List.length_cons, List.length_nil, List.length_map, List.length_take, List.length_drop, List.length_set, List.length_replicate]); omega)) ?_
    rintro _ _ ⟨v3, rfl, rfl⟩
    refine OpsD.norm [.bx g2 74 (Lbl.d x1), .sl v3 1 9 ((o ++ [((x1.n ++ (⟨#[61]⟩ : ByteArray)) ++ (quoteB x1.v))]).map D.s)] rfl ?_
    refine od_pu rfl rfl (p_assign rfl) ?_
    refine od_nil rfl ?_
    refine pd_block ?_
    refine pd_seq ?_
    refine jd_region rfl ?_
    refine od_pu rfl rfl (p_add (c := ((k + 1 : Nat) : Int)) rfl rfl (w64eq (by omega) (by omega))) ?_
    refine od_pu rfl rfl (p_move rfl) ?_
    refine od_nil rfl ?_
    exact pd_loop (k + 1, v3, (o ++ [((x1.n ++ (⟨#[61]⟩ : ByteArray)) ++ (quoteB x1.v))])) ⟨sk rfl, sk rfl, sk rfl, sk rfl, sk rfl, trivial⟩ (HSub.lst 1 rfl) ⟨by rw [take_snoc hx1, List.map_append, ho]; rfl, by rw [List.length_append, List.length_singleton]; omega, by omega⟩ (by omega)
  · replace hc1 := of_decide_eq_false hc1
    refine jd_exit rfl ?_
    refine pd_seq_exit ?_
    refine pd_loop_exit ?_
    refine pd_block_exit ?_
    refine pd_seq ?_
    refine jd_seq [true, true, true, false] [true, true, true, true] rfl rfl rfl ?_
    refine jd_region rfl ?_
    refine od_pu rfl rfl (p_move rfl) ?_
    refine od_step rfl rfl (ef_call [] _ [.sl ov 1 9 (o.map D.s)] rfl rfl (.cons (ArgC.own (j := 0) rfl rfl) (.cons (ArgC.cv (Cv.str (by first | decide | (unfold maxLen; omega)))) .nil)) (lend_cons (j := 0) rfl lend_nil) Try.call105 (Join_c o (⟨#[44]⟩ : ByteArray) (by omega) (by omega) (by first | decide | omega) (by first | decide | omega)) (.inr (isR_flat rfl))) ?_
    rintro _ _ ⟨_, ⟨rfl, rfl⟩, rfl⟩
    refine OpsD.norm [.sl ov 1 9 (o.map D.s)] rfl ?_
    refine od_pu rfl rfl (p_cat rfl rfl (by unfold maxLen; (try simp only [ByteArray.size_append]); (try simp only [ByteArray.size_append]); have e1 : (⟨#[61]⟩ : ByteArray).size = 1 := rfl; have e2 : (⟨#[123]⟩ : ByteArray).size = 1 := rfl; have e3 : (⟨#[125]⟩ : ByteArray).size = 1 := rfl; (try have := joinB_size (sep := ⟨#[44]⟩) rfl o); omega)) ?_
    refine od_pu rfl rfl (p_cat rfl rfl (by unfold maxLen; (try simp only [ByteArray.size_append]); (try simp only [ByteArray.size_append]); have e1 : (⟨#[61]⟩ : ByteArray).size = 1 := rfl; have e2 : (⟨#[123]⟩ : ByteArray).size = 1 := rfl; have e3 : (⟨#[125]⟩ : ByteArray).size = 1 := rfl; (try have := joinB_size (sep := ⟨#[44]⟩) rfl o); omega)) ?_
    refine od_pu rfl rfl (p_assign rfl) ?_
    refine od_nil rfl ?_
    refine pd_seq ?_
    refine JD.keep [2] [(2, .s (((⟨#[123]⟩ : ByteArray) ++ (joinB (⟨#[44]⟩ : ByteArray) o)) ++ (⟨#[125]⟩ : ByteArray)))] rfl ?_
    refine jd_ret rfl ?_
    exact pd_retH Try.results42 (.cons (ro_cv (ro_tmp rfl) (Cv.eq (congrArg D.s (by rw [ho, List.take_of_length_le (by omega)]; rfl)))) .nil) rfl HSub.none ⟨rfl, rfl⟩
end Lp
