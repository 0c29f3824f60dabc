/- Walks, printed by a program of mine (wip/tools/dw.py): each theorem says what a function of the translation hands back. -/
import Derived.Test.YtjhkajkickngmaaV6
set_option linter.unusedSimpArgs false
set_option linter.unusedVariables false
namespace Lp
open Go Go.RowKit Go.Proofs

namespace HdV7
theorem eqb_4_eql (x y : Operand) (a b : Bool) (w : World) : (do eqGuard .eql 4 x y (.bool a) (.bool b); binOp .eql 4 (.bool a) (.bool b) : Sem Value).run Try.prog w = .ok (.bool (a == b)) w := by cases a <;> cases b <;> kernel_rfl
theorem fa_74_0 (b o : Nat) : ∀ w, (Instr.fieldAt 74 (.pointer (some ⟨b, o, none⟩)) 0).run Try.prog w = .ok (.pointer (some ⟨b, o + 0, none⟩)) w := fun _ => by kernel_rfl
theorem fa_74_1 (b o : Nat) : ∀ w, (Instr.fieldAt 74 (.pointer (some ⟨b, o, none⟩)) 1).run Try.prog w = .ok (.pointer (some ⟨b, o + 1, none⟩)) w := fun _ => by kernel_rfl
theorem infz_74 : ∃ i, Try.prog.info? 74 = some i ∧ i.zero = some (.agg #[(.string ByteArray.empty), (.string ByteArray.empty)]) ∧ i.size = 2 ∧ i.bytes = 32 := infz_of (by kernel_rfl)
theorem und_32 : Try.prog.underlying 32 = some (.slice 74) := by kernel_rfl
end HdV7
open HdV7

set_option maxHeartbeats 4000000 in
set_option maxRecDepth 100000 in
theorem sameLs_c (a : List Lbl) (b : List Lbl)  :
    CD Try.prog 44 [] [.sh 2 (a.map Lbl.d), .sh 2 (b.map Lbl.d)] (isR (dB (decide (cmpLs a b = 0)))) := by
  refine cd_of_JD Try.func44 rfl (N := 9) rfl rfl (fun C => ?_)
  refine JD.keep [0, 1] [(0, .sh 2 (a.map Lbl.d)), (1, .sh 2 (b.map Lbl.d))] rfl ?_
  refine JD.bd 0 rfl (fun bd0 => ?_)
  have nl0 := bd_len bd0
  refine JD.bd 1 rfl (fun bd1 => ?_)
  have nl1 := bd_len bd1
  refine jd_seq [false] [true] rfl rfl rfl ?_
  refine jd_region rfl ?_
  refine od_pu rfl rfl (p_assign rfl) ?_
  refine od_nil rfl ?_
  refine pd_seq ?_
  refine jd_seq [true, false] [true, true] rfl rfl rfl ?_
  refine jd_region rfl ?_
  refine od_pu rfl rfl (p_move rfl) ?_
  refine od_pu rfl rfl (p_move rfl) ?_
  refine od_step rfl rfl (ef_call [] _ [] rfl rfl (.cons ArgC.id (.cons ArgC.id .nil)) lend_nil Try.call38 (Compare2_c a b) (.inl rfl)) ?_
  rintro _ _ ⟨_, ⟨rfl, rfl⟩, rfl⟩
  refine OpsD.norm [] rfl ?_
  refine od_pu rfl rfl (p_eql rfl rfl rfl) ?_
  refine od_pu rfl rfl (p_assign rfl) ?_
  refine od_nil rfl ?_
  refine pd_seq ?_
  refine jd_ret rfl ?_
  exact pd_retH Try.results44 (.cons (ro_cv (ro_tmp rfl) (Cv.eq (congrArg (fun b => D.v (.bool b)) (by rfl)))) .nil) rfl HSub.none ⟨rfl, rfl⟩

set_option maxHeartbeats 4000000 in
set_option maxRecDepth 100000 in
theorem index_c (ns : List ByteArray) (n : ByteArray)  :
    CD Try.prog 167 [] [.sh 1 (ns.map D.s), .s n] (isR (dI (idxN n 0 ns))) := by
  refine cd_of_JD Try.func167 rfl (N := 19) rfl rfl (fun C => ?_)
  refine JD.keep [0, 1] [(0, .sh 1 (ns.map D.s)), (1, .s n)] rfl ?_
  refine JD.bd 0 rfl (fun bd0 => ?_)
  have nl0 := bd_len bd0
  refine JD.bd 1 rfl (fun bd1 => ?_)
  have sz1 : n.size ≤ 9223372036854775807 := bd1
  refine jd_seq [false] [true] rfl rfl rfl ?_
  refine jd_region rfl ?_
  refine od_pu rfl rfl (p_assign rfl) ?_
  refine od_nil rfl ?_
  refine pd_seq ?_
  refine jd_seq [true, false] [true, true] rfl rfl rfl ?_
  refine jd_seq [true, false, false] [true, false, true] rfl rfl rfl ?_
  refine jd_region rfl ?_
  refine od_pu rfl rfl (p_move rfl) ?_
  refine od_pu rfl rfl (p_len (n := ns.length) rfl Try.runUnderlying76 (by simp only [List.length_map, List.length_cons, List.length_nil])) ?_
  refine od_pu rfl rfl (p_move rfl) ?_
  refine od_nil rfl ?_
  refine pd_seq ?_
  refine jd_block [true, false, true, false] rfl rfl ?_
  refine jd_loop (fun (g : Nat) => [(0, .sh 1 (ns.map D.s)), (1, .s n), (7, .v (.int .i64 ((ns.length : Nat) : Int))), (8, .v (.int .i64 ((g : Nat) : Int)))]) (fun (g : Nat) => []) (fun (g : Nat) => (idxN n 0 ns = idxN n g (ns.drop g))) (fun (g : Nat) => ns.length - g) [true, false, true, false, false] 0 rfl rfl ⟨sk rfl, sk rfl, sk rfl, sk rfl, trivial⟩ HSub.rfl' rfl ?_
  rintro k hf
  refine JD.keep [0, 1, 7, 8] [(0, .sh 1 (ns.map D.s)), (1, .s n), (7, .v (.int .i64 ((ns.length : Nat) : Int))), (8, .v (.int .i64 ((k : Nat) : Int)))] rfl ?_
  refine JD.norm [] rfl ?_
  refine jd_seq [true, false, true, false, false, false] [true, false, true, false, false, true] rfl rfl rfl ?_
  refine jd_region rfl ?_
  refine od_pu rfl rfl (p_lss rfl rfl rfl) ?_
  refine od_nil rfl ?_
  refine pd_seq ?_
  refine jd_seq [true, false, true, false, false, true, false] [true, false, true, false, false, true, true] rfl rfl rfl ?_
  refine jd_cond [true, false, true, false, false, true, false, false] [true, false, true, false, false, true, false, true] rfl rfl rfl rfl (fun hc1 => ?_) (fun hc1 => ?_)
  · replace hc1 := of_decide_eq_true hc1
    refine jd_skip rfl ?_
    refine pd_seq ?_
    refine jd_seq [true, false, true, false, false, true, true, false] [true, false, true, false, false, true, true, true] rfl rfl rfl ?_
    refine jd_block [true, false, true, false, false, true, true, false, false] rfl rfl ?_
    refine jd_seq [true, false, true, false, false, true, true, false, false, false] [true, false, true, false, false, true, true, false, false, true] rfl rfl rfl ?_
    refine jd_region rfl ?_
    refine od_pu rfl rfl (p_move rfl) ?_
    refine od_pu rfl rfl (p_assign rfl) ?_
    refine od_nil rfl ?_
    refine pd_seq ?_
    refine jd_seq [true, false, true, false, false, true, true, false, false, true, false] [true, false, true, false, false, true, true, false, false, true, true] rfl rfl rfl ?_
    refine jd_region rfl ?_
    refine od_pu rfl rfl (p_move rfl) ?_
    refine od_pu rfl rfl (p_move rfl) ?_
    refine od_pu rfl rfl (p_move rfl) ?_
    obtain ⟨x1, hx1⟩ := get_some ns k (by omega)
    refine od_pu rfl rfl (p_indexAddr (k := k) rfl rfl Try.runUnderlying76 Try.sizeOf9 (by first | rfl | omega) (get_map hx1)) ?_
    refine od_pu rfl rfl (p_load_el1 rfl Try.isAgg9 rfl) ?_
    refine od_pu rfl rfl (p_eqs rfl rfl rfl) ?_
    refine od_nil rfl ?_
    refine pd_seq ?_
    refine jd_cond [true, false, true, false, false, true, true, false, false, true, true, false] [true, false, true, false, false, true, true, false, false, true, true, true] rfl rfl rfl rfl (fun hc2 => ?_) (fun hc2 => ?_)
    · replace hc2 := of_decide_eq_true hc2
      refine jd_seq [true, false, true, false, false, true, true, false, false, true, true, false, false] [true, false, true, false, false, true, true, false, false, true, true, false, true] rfl rfl rfl ?_
      refine jd_region rfl ?_
      refine od_pu rfl rfl (p_move rfl) ?_
      refine od_pu rfl rfl (p_assign rfl) ?_
      refine od_nil rfl ?_
      refine pd_seq ?_
      refine jd_ret rfl ?_
      refine pd_block_ret ?_
      refine pd_seq_ret ?_
      refine pd_loop_ret ?_
      refine pd_block_ret ?_
      refine pd_seq_ret ?_
      exact pd_retH Try.results167 (.cons (ro_cv (ro_tmp rfl) (Cv.eq (congrArg (fun n => D.v (.int .i64 n)) (by exact idxN_at hx1 hf hc2)))) .nil) rfl HSub.none ⟨rfl, rfl⟩
    · replace hc2 := of_decide_eq_false hc2
      refine jd_skip rfl ?_
      refine pd_block ?_
      refine pd_seq ?_
      refine jd_region rfl ?_
      refine od_pu rfl rfl (p_add (c := ((k + 1 : Nat) : Int)) rfl rfl (w64eq (by omega) (by omega))) ?_
      refine od_pu rfl rfl (p_move rfl) ?_
      refine od_nil rfl ?_
      exact pd_loop (k + 1) ⟨sk rfl, sk rfl, sk rfl, sk rfl, trivial⟩ HSub.rfl' (idxN_next hx1 hf hc2) (by omega)
  · replace hc1 := of_decide_eq_false hc1
    refine jd_exit rfl ?_
    refine pd_seq_exit ?_
    refine pd_loop_exit ?_
    refine pd_block_exit ?_
    refine pd_seq ?_
    refine jd_seq [true, true, false] [true, true, true] rfl rfl rfl ?_
    refine jd_region rfl ?_
    refine od_pu rfl rfl (p_assign rfl) ?_
    refine od_nil rfl ?_
    refine pd_seq ?_
    refine jd_ret rfl ?_
    exact pd_retH Try.results167 (.cons (ro_cv (ro_tmp rfl) (Cv.eq (congrArg (fun n => D.v (.int .i64 n)) (by exact idxN_end (by omega) hf)))) .nil) rfl HSub.none ⟨rfl, rfl⟩

set_option maxHeartbeats 4000000 in
set_option maxRecDepth 100000 in
theorem contains_c (ns : List ByteArray) (n : ByteArray)  :
    CD Try.prog 139 [] [.sh 1 (ns.map D.s), .s n] (isR (dB (hasN ns n))) := by
  refine cd_of_JD Try.func139 rfl (N := 9) rfl rfl (fun C => ?_)
  refine JD.keep [0, 1] [(0, .sh 1 (ns.map D.s)), (1, .s n)] rfl ?_
  refine JD.bd 0 rfl (fun bd0 => ?_)
  have nl0 := bd_len bd0
  refine JD.bd 1 rfl (fun bd1 => ?_)
  have sz1 : n.size ≤ 9223372036854775807 := bd1
  refine jd_seq [false] [true] rfl rfl rfl ?_
  refine jd_region rfl ?_
  refine od_pu rfl rfl (p_assign rfl) ?_
  refine od_nil rfl ?_
  refine pd_seq ?_
  refine jd_seq [true, false] [true, true] rfl rfl rfl ?_
  refine jd_region rfl ?_
  refine od_pu rfl rfl (p_move rfl) ?_
  refine od_pu rfl rfl (p_move rfl) ?_
  refine od_step rfl rfl (ef_call [] _ [] rfl rfl (.cons ArgC.id (.cons ArgC.id .nil)) lend_nil Try.call167 (index_c ns n) (.inl rfl)) ?_
  rintro _ _ ⟨_, ⟨rfl, rfl⟩, rfl⟩
  refine OpsD.norm [] rfl ?_
  refine od_pu rfl rfl (p_geq rfl rfl rfl) ?_
  refine od_pu rfl rfl (p_assign rfl) ?_
  refine od_nil rfl ?_
  refine pd_seq ?_
  refine jd_ret rfl ?_
  exact pd_retH Try.results139 (.cons (ro_cv (ro_tmp rfl) (Cv.eq (congrArg (fun b => D.v (.bool b)) (by exact idxN_has n ns 0)))) .nil) rfl HSub.none ⟨rfl, rfl⟩

set_option maxHeartbeats 4000000 in
set_option maxRecDepth 100000 in
theorem part_c (l : List Lbl) (names : List ByteArray) (wanted : Bool) (hl : l.length ≤ 1000000) :
    CD Try.prog 103 [] [.sh 2 (l.map Lbl.d), .sh 1 (names.map D.s), .v (.bool wanted)] (isOwn 2 74 ((pickL l names wanted).map Lbl.d)) := by
  refine cd_of_JD Try.func103 rfl (N := 28) rfl rfl (fun C => ?_)
  refine JD.keep [0, 1, 2] [(0, .sh 2 (l.map Lbl.d)), (1, .sh 1 (names.map D.s)), (2, .v (.bool wanted))] rfl ?_
  refine JD.bd 0 rfl (fun bd0 => ?_)
  have nl0 := bd_len bd0
  refine JD.bd 1 rfl (fun bd1 => ?_)
  have nl1 := bd_len bd1
  refine jd_seq [false] [true] rfl rfl rfl ?_
  refine jd_region rfl ?_
  refine od_pu rfl rfl (p_assign rfl) ?_
  refine od_nil rfl ?_
  refine pd_seq ?_
  refine jd_seq [true, false] [true, true] rfl rfl rfl ?_
  refine jd_region rfl ?_
  refine od_pu rfl rfl (p_assign rfl) ?_
  refine od_nil rfl ?_
  refine pd_seq ?_
  refine jd_seq [true, true, false] [true, true, true] rfl rfl rfl ?_
  refine jd_seq [true, true, false, false] [true, true, false, true] rfl rfl rfl ?_
  refine jd_region rfl ?_
  refine od_pu rfl rfl (p_move rfl) ?_
  refine od_pu rfl rfl (p_len (n := l.length) rfl Try.runUnderlying32 (by simp only [List.length_map, List.length_cons, List.length_nil])) ?_
  refine od_pu rfl rfl (p_move rfl) ?_
  refine od_nil rfl ?_
  refine pd_seq ?_
  refine jd_block [true, true, false, true, false] rfl rfl ?_
  refine jd_loop (fun (g : Nat × Value × List Lbl) => [(1, .sh 1 (names.map D.s)), (2, .v (.bool wanted)), (6, .v (.slice none 0 0)), (10, .sh 2 (l.map Lbl.d)), (11, .v (.int .i64 ((l.length : Nat) : Int))), (12, .v (.int .i64 ((g.1 : Nat) : Int))), (7, .ov g.2.1)]) (fun (g : Nat × Value × List Lbl) => [.sl g.2.1 2 74 (g.2.2.map Lbl.d)]) (fun (g : Nat × Value × List Lbl) => (pickL (l.take g.1) names wanted = g.2.2) ∧ (g.2.2.length ≤ g.1)) (fun (g : Nat × Value × List Lbl) => l.length - g.1) [true, true, false, true, false, false] (0, .slice none 0 0, []) rfl rfl ⟨sk rfl, sk rfl, sk rfl, sk rfl, sk rfl, sk rfl, sc rfl (Cv.ov rfl), trivial⟩ (HSub.nil 2 74) ⟨by simp [pickL], Nat.le_refl _⟩ ?_
  rintro ⟨k, ov, o⟩ ⟨hf, ho⟩
  replace hf : pickL (l.take k) names wanted = o := hf
  replace ho : o.length ≤ k := ho
  refine JD.keep [1, 2, 6, 10, 11, 12, 7] [(1, .sh 1 (names.map D.s)), (2, .v (.bool wanted)), (6, .v (.slice none 0 0)), (10, .sh 2 (l.map Lbl.d)), (11, .v (.int .i64 ((l.length : Nat) : Int))), (12, .v (.int .i64 ((k : Nat) : Int))), (7, .ov ov)] rfl ?_
  refine JD.norm [.sl ov 2 74 (o.map Lbl.d)] rfl ?_
  refine jd_seq [true, true, false, true, false, false, false] [true, true, false, true, false, false, true] rfl rfl rfl ?_
  refine jd_region rfl ?_
  refine od_pu rfl rfl (p_lss rfl rfl rfl) ?_
  refine od_nil rfl ?_
  refine pd_seq ?_
  refine jd_seq [true, true, false, true, false, false, true, false] [true, true, false, true, false, false, true, true] rfl rfl rfl ?_
  refine jd_cond [true, true, false, true, false, false, true, false, false] [true, true, false, true, false, false, true, false, true] rfl rfl rfl rfl (fun hc1 => ?_) (fun hc1 => ?_)
  · replace hc1 := of_decide_eq_true hc1
    refine jd_skip rfl ?_
    refine pd_seq ?_
    refine jd_seq [true, true, false, true, false, false, true, true, false] [true, true, false, true, false, false, true, true, true] rfl rfl rfl ?_
    refine jd_block [true, true, false, true, false, false, true, true, false, false] rfl rfl ?_
    refine jd_seq [true, true, false, true, false, false, true, true, false, false, false] [true, true, false, true, false, false, true, true, false, false, true] rfl rfl rfl ?_
    refine jd_region rfl ?_
    obtain ⟨x1, hx1⟩ := get_some l k (by omega)
    refine od_pu rfl rfl (p_indexAddr (k := k) rfl rfl Try.runUnderlying32 Try.sizeOf74 (by first | rfl | omega) (get_map hx1)) ?_
    refine od_pu rfl rfl (p_load_el (d := Lbl.d x1) rfl Try.isAgg74 Try.sizeOf74 rfl rfl) ?_
    refine od_step rfl rfl (ef_alloc (zv := (.agg #[(.string ByteArray.empty), (.string ByteArray.empty)])) Try.zeroValue74 ⟨rfl, rfl, trivial⟩ (Cv.vagg (by decide))) ?_
    rintro _ _ ⟨g2, rfl, rfl⟩
    refine od_step rfl rfl (ef_store_bx (i := 0) (X' := Lbl.d x1) rfl rfl rfl (CellD.agg) Try.sizeOf74 rfl rfl rfl) ?_
    rintro _ _ ⟨rfl, rfl⟩
    refine OpsD.norm [.bx g2 74 (Lbl.d x1), .sl ov 2 74 (o.map Lbl.d)] rfl ?_
    refine od_nil rfl ?_
    refine pd_seq ?_
    refine jd_seq [true, true, false, true, false, false, true, true, false, false, true, false] [true, true, false, true, false, false, true, true, false, false, true, true] rfl rfl rfl ?_
    refine jd_region rfl ?_
    refine od_pu rfl rfl (p_move rfl) ?_
    refine od_pu rfl rfl (p_fieldAddr rfl fa_74_0 rfl) ?_
    refine od_pu rfl rfl (p_load_bx1 rfl (i := 0) rfl Try.isAgg9 rfl) ?_
    refine od_step rfl rfl (ef_call [] _ [] rfl rfl (.cons ArgC.id (.cons ArgC.id .nil)) lend_nil Try.call139 (contains_c names x1.n) (.inl rfl)) ?_
    rintro _ _ ⟨_, ⟨rfl, rfl⟩, rfl⟩
    refine OpsD.norm [.bx g2 74 (Lbl.d x1), .sl ov 2 74 (o.map Lbl.d)] rfl ?_
    refine od_pu rfl rfl (p_move rfl) ?_
    refine od_pu rfl rfl (p_bin (r := .bool (hasN names x1.n == wanted)) rfl rfl (eqb_4_eql _ _ _ _)) ?_
    refine od_nil rfl ?_
    refine pd_seq ?_
    refine jd_cond [true, true, false, true, false, false, true, true, false, false, true, true, false] [true, true, false, true, false, false, true, true, false, false, true, true, true] rfl rfl rfl rfl (fun hc3 => ?_) (fun hc3 => ?_)
    · skip
      refine jd_region rfl ?_
      refine od_pu rfl rfl (p_move rfl) ?_
      refine od_pu rfl rfl (p_load_bx (d := Lbl.d x1) rfl (i := 0) rfl Try.isAgg74 Try.sizeOf74 rfl rfl) ?_
      refine od_step rfl rfl (ef_buildSlice [.tmp 23] rfl rfl (.cons CellD.agg .nil) rfl Try.runUnderlying32 Try.sizeOf74 Try.zeroValue74 rfl rfl rfl rfl) ?_
      rintro _ _ ⟨g4, rfl, rfl⟩
      refine od_step rfl rfl (ef_append_m (f := Lbl.d) (l := o) (l' := [x1]) (i := 2) rfl rfl rfl (SrcD.own (j := 0) rfl rfl) und_32 infz_74 rfl rfl (by unfold maxLen; (try simp only [List.length_append, List.length_cons, List.length_nil, List.length_map, List.length_take, List.length_drop, List.length_set, List.length_replicate]); omega) (by (try simp only [List.length_append, List.length_cons, List.length_nil, List.length_map, List.length_take, List.length_drop, List.length_set, List.length_replicate]); omega)) ?_
      rintro _ _ ⟨v5, rfl, rfl⟩
      refine OpsD.norm [.sl (.slice (some ⟨g4, 0, none⟩) 1 1) 2 74 ([Lbl.d x1]), .bx g2 74 (Lbl.d x1), .sl v5 2 74 ((o ++ [x1]).map Lbl.d)] rfl ?_
      refine od_pu rfl rfl (p_assign rfl) ?_
      refine od_nil rfl ?_
      refine pd_block ?_
      refine pd_seq ?_
      refine jd_region rfl ?_
      refine od_pu rfl rfl (p_add (c := ((k + 1 : Nat) : Int)) rfl rfl (w64eq (by omega) (by omega))) ?_
      refine od_pu rfl rfl (p_move rfl) ?_
      refine od_nil rfl ?_
      exact pd_loop (k + 1, v5, (o ++ [x1])) ⟨sk rfl, sk rfl, sk rfl, sk rfl, sk rfl, sk rfl, sk rfl, trivial⟩ (HSub.lst 2 rfl) ⟨by rw [pickL_snoc hx1 (by simpa using hc3), hf], by have := pickL_len (l.take k) names wanted; (try simp only [List.length_append, List.length_singleton]); (try simp only [List.length_take] at this); omega⟩ (by omega)
    · skip
      refine jd_skip rfl ?_
      refine pd_block ?_
      refine pd_seq ?_
      refine jd_region rfl ?_
      refine od_pu rfl rfl (p_add (c := ((k + 1 : Nat) : Int)) rfl rfl (w64eq (by omega) (by omega))) ?_
      refine od_pu rfl rfl (p_move rfl) ?_
      refine od_nil rfl ?_
      exact pd_loop (k + 1, ov, o) ⟨sk rfl, sk rfl, sk rfl, sk rfl, sk rfl, sk rfl, sk rfl, trivial⟩ (HSub.lst 1 rfl) ⟨by rw [pickL_skip hx1 (by simpa using hc3), hf], by have := pickL_len (l.take k) names wanted; (try simp only [List.length_append, List.length_singleton]); (try simp only [List.length_take] at this); omega⟩ (by omega)
  · replace hc1 := of_decide_eq_false hc1
    refine jd_exit rfl ?_
    refine pd_seq_exit ?_
    refine pd_loop_exit ?_
    refine pd_block_exit ?_
    refine pd_seq ?_
    refine jd_seq [true, true, true, false] [true, true, true, true] rfl rfl rfl ?_
    refine jd_region rfl ?_
    refine od_pu rfl rfl (p_move rfl) ?_
    refine od_pu rfl rfl (p_assign rfl) ?_
    refine od_nil rfl ?_
    refine pd_seq ?_
    refine jd_ret rfl ?_
    refine PD.subH (HSub.less (sub_one (i := 0) rfl)) ?_
    refine PD.subH (HSub.turn (h' := .sl ov 2 74 ((pickL l names wanted).map Lbl.d)) rfl (Hp.eq_sl (show List.map Lbl.d o = List.map Lbl.d (pickL l names wanted) from congrArg _ (by rw [← hf, List.take_of_length_le (by omega)])))) ?_
    exact pd_ret Try.results103 (.cons (ro_tmp rfl) .nil) rfl ⟨_, rfl, rfl⟩

set_option maxHeartbeats 4000000 in
set_option maxRecDepth 100000 in
theorem only_c (l : List Lbl) (names : List ByteArray) (hl : l.length ≤ 1000000) :
    CD Try.prog 39 [] [.sh 2 (l.map Lbl.d), .sh 1 (names.map D.s)] (isOwn 2 74 ((pickL l names true).map Lbl.d)) := by
  refine cd_of_JD Try.func39 rfl (N := 8) rfl rfl (fun C => ?_)
  refine JD.keep [0, 1] [(0, .sh 2 (l.map Lbl.d)), (1, .sh 1 (names.map D.s))] rfl ?_
  refine JD.bd 0 rfl (fun bd0 => ?_)
  have nl0 := bd_len bd0
  refine JD.bd 1 rfl (fun bd1 => ?_)
  have nl1 := bd_len bd1
  refine jd_seq [false] [true] rfl rfl rfl ?_
  refine jd_region rfl ?_
  refine od_pu rfl rfl (p_assign rfl) ?_
  refine od_nil rfl ?_
  refine pd_seq ?_
  refine jd_seq [true, false] [true, true] rfl rfl rfl ?_
  refine jd_region rfl ?_
  refine od_pu rfl rfl (p_move rfl) ?_
  refine od_pu rfl rfl (p_move rfl) ?_
  refine od_step rfl rfl (ef_call [] _ [] rfl rfl (.cons ArgC.id (.cons ArgC.id (.cons ArgC.id .nil))) lend_nil Try.call103 (part_c l names true (by omega)) (.inl rfl)) ?_
  rintro _ _ ⟨_, ⟨v1, rfl, rfl⟩, rfl⟩
  refine OpsD.norm [.sl v1 2 74 ((pickL l names true).map Lbl.d)] rfl ?_
  refine od_pu rfl rfl (p_assign rfl) ?_
  refine od_nil rfl ?_
  refine pd_seq ?_
  refine jd_ret rfl ?_
  refine PD.subH (HSub.less (sub_one (i := 0) rfl)) ?_
  exact pd_ret Try.results39 (.cons (ro_tmp rfl) .nil) rfl ⟨_, rfl, rfl⟩

set_option maxHeartbeats 4000000 in
set_option maxRecDepth 100000 in
theorem without_c (l : List Lbl) (names : List ByteArray) (hl : l.length ≤ 1000000) :
    CD Try.prog 43 [] [.sh 2 (l.map Lbl.d), .sh 1 (names.map D.s)] (isOwn 2 74 ((pickL l names false).map Lbl.d)) := by
  refine cd_of_JD Try.func43 rfl (N := 8) rfl rfl (fun C => ?_)
  refine JD.keep [0, 1] [(0, .sh 2 (l.map Lbl.d)), (1, .sh 1 (names.map D.s))] rfl ?_
  refine JD.bd 0 rfl (fun bd0 => ?_)
  have nl0 := bd_len bd0
  refine JD.bd 1 rfl (fun bd1 => ?_)
  have nl1 := bd_len bd1
  refine jd_seq [false] [true] rfl rfl rfl ?_
  refine jd_region rfl ?_
  refine od_pu rfl rfl (p_assign rfl) ?_
  refine od_nil rfl ?_
  refine pd_seq ?_
  refine jd_seq [true, false] [true, true] rfl rfl rfl ?_
  refine jd_region rfl ?_
  refine od_pu rfl rfl (p_move rfl) ?_
  refine od_pu rfl rfl (p_move rfl) ?_
  refine od_step rfl rfl (ef_call [] _ [] rfl rfl (.cons ArgC.id (.cons ArgC.id (.cons ArgC.id .nil))) lend_nil Try.call103 (part_c l names false (by omega)) (.inl rfl)) ?_
  rintro _ _ ⟨_, ⟨v1, rfl, rfl⟩, rfl⟩
  refine OpsD.norm [.sl v1 2 74 ((pickL l names false).map Lbl.d)] rfl ?_
  refine od_pu rfl rfl (p_assign rfl) ?_
  refine od_nil rfl ?_
  refine pd_seq ?_
  refine jd_ret rfl ?_
  refine PD.subH (HSub.less (sub_one (i := 0) rfl)) ?_
  exact pd_ret Try.results43 (.cons (ro_tmp rfl) .nil) rfl ⟨_, rfl, rfl⟩

set_option maxHeartbeats 4000000 in
set_option maxRecDepth 100000 in
theorem getL_c (l : List Lbl) (name : ByteArray)  :
    CD Try.prog 40 [] [.sh 2 (l.map Lbl.d), .s name] (isR (D.s (getL l name))) := by
  refine cd_of_JD Try.func40 rfl (N := 20) rfl rfl (fun C => ?_)
  refine JD.keep [0, 1] [(0, .sh 2 (l.map Lbl.d)), (1, .s name)] rfl ?_
  refine JD.bd 0 rfl (fun bd0 => ?_)
  have nl0 := bd_len bd0
  refine JD.bd 1 rfl (fun bd1 => ?_)
  have sz1 : name.size ≤ 9223372036854775807 := bd1
  refine jd_seq [false] [true] rfl rfl rfl ?_
  refine jd_region rfl ?_
  refine od_pu rfl rfl (p_assign rfl) ?_
  refine od_nil rfl ?_
  refine pd_seq ?_
  refine jd_seq [true, false] [true, true] rfl rfl rfl ?_
  refine jd_seq [true, false, false] [true, false, true] rfl rfl rfl ?_
  refine jd_region rfl ?_
  refine od_pu rfl rfl (p_move rfl) ?_
  refine od_pu rfl rfl (p_len (n := l.length) rfl Try.runUnderlying32 (by simp only [List.length_map, List.length_cons, List.length_nil])) ?_
  refine od_pu rfl rfl (p_move rfl) ?_
  refine od_nil rfl ?_
  refine pd_seq ?_
  refine jd_block [true, false, true, false] rfl rfl ?_
  refine jd_loop (fun (g : Nat) => [(1, .s name), (7, .sh 2 (l.map Lbl.d)), (8, .v (.int .i64 ((l.length : Nat) : Int))), (9, .v (.int .i64 ((g : Nat) : Int)))]) (fun (g : Nat) => []) (fun (g : Nat) => (getL l name = getL (l.drop g) name)) (fun (g : Nat) => l.length - g) [true, false, true, false, false] 0 rfl rfl ⟨sk rfl, sk rfl, sk rfl, sk rfl, trivial⟩ HSub.rfl' rfl ?_
  rintro k hf
  refine JD.keep [1, 7, 8, 9] [(1, .s name), (7, .sh 2 (l.map Lbl.d)), (8, .v (.int .i64 ((l.length : Nat) : Int))), (9, .v (.int .i64 ((k : Nat) : Int)))] rfl ?_
  refine JD.norm [] rfl ?_
  refine jd_seq [true, false, true, false, false, false] [true, false, true, false, false, true] rfl rfl rfl ?_
  refine jd_region rfl ?_
  refine od_pu rfl rfl (p_lss rfl rfl rfl) ?_
  refine od_nil rfl ?_
  refine pd_seq ?_
  refine jd_seq [true, false, true, false, false, true, false] [true, false, true, false, false, true, true] rfl rfl rfl ?_
  refine jd_cond [true, false, true, false, false, true, false, false] [true, false, true, false, false, true, false, true] rfl rfl rfl rfl (fun hc1 => ?_) (fun hc1 => ?_)
  · replace hc1 := of_decide_eq_true hc1
    refine jd_skip rfl ?_
    refine pd_seq ?_
    refine jd_seq [true, false, true, false, false, true, true, false] [true, false, true, false, false, true, true, true] rfl rfl rfl ?_
    refine jd_block [true, false, true, false, false, true, true, false, false] rfl rfl ?_
    refine jd_seq [true, false, true, false, false, true, true, false, false, false] [true, false, true, false, false, true, true, false, false, true] rfl rfl rfl ?_
    refine jd_region rfl ?_
    obtain ⟨x1, hx1⟩ := get_some l k (by omega)
    refine od_pu rfl rfl (p_indexAddr (k := k) rfl rfl Try.runUnderlying32 Try.sizeOf74 (by first | rfl | omega) (get_map hx1)) ?_
    refine od_pu rfl rfl (p_load_el (d := Lbl.d x1) rfl Try.isAgg74 Try.sizeOf74 rfl rfl) ?_
    refine od_step rfl rfl (ef_alloc (zv := (.agg #[(.string ByteArray.empty), (.string ByteArray.empty)])) Try.zeroValue74 ⟨rfl, rfl, trivial⟩ (Cv.vagg (by decide))) ?_
    rintro _ _ ⟨g2, rfl, rfl⟩
    refine od_step rfl rfl (ef_store_bx (i := 0) (X' := Lbl.d x1) rfl rfl rfl (CellD.agg) Try.sizeOf74 rfl rfl rfl) ?_
    rintro _ _ ⟨rfl, rfl⟩
    refine OpsD.norm [.bx g2 74 (Lbl.d x1)] rfl ?_
    refine od_nil rfl ?_
    refine pd_seq ?_
    refine jd_seq [true, false, true, false, false, true, true, false, false, true, false] [true, false, true, false, false, true, true, false, false, true, true] rfl rfl rfl ?_
    refine jd_region rfl ?_
    refine od_pu rfl rfl (p_fieldAddr rfl fa_74_0 rfl) ?_
    refine od_pu rfl rfl (p_load_bx1 rfl (i := 0) rfl Try.isAgg9 rfl) ?_
    refine od_pu rfl rfl (p_move rfl) ?_
    refine od_pu rfl rfl (p_eqs rfl rfl rfl) ?_
    refine od_nil rfl ?_
    refine pd_seq ?_
    refine jd_cond [true, false, true, false, false, true, true, false, false, true, true, false] [true, false, true, false, false, true, true, false, false, true, true, true] rfl rfl rfl rfl (fun hc3 => ?_) (fun hc3 => ?_)
    · replace hc3 := of_decide_eq_true hc3
      refine jd_seq [true, false, true, false, false, true, true, false, false, true, true, false, false] [true, false, true, false, false, true, true, false, false, true, true, false, true] rfl rfl rfl ?_
      refine jd_region rfl ?_
      refine od_pu rfl rfl (p_fieldAddr rfl fa_74_1 rfl) ?_
      refine od_pu rfl rfl (p_load_bx1 rfl (i := 0) rfl Try.isAgg9 rfl) ?_
      refine od_pu rfl rfl (p_assign rfl) ?_
      refine od_nil rfl ?_
      refine pd_seq ?_
      refine jd_ret rfl ?_
      refine pd_block_ret ?_
      refine pd_seq_ret ?_
      refine pd_loop_ret ?_
      refine pd_block_ret ?_
      refine pd_seq_ret ?_
      exact pd_retH Try.results40 (.cons (ro_cv (ro_tmp rfl) (Cv.eq (congrArg D.s (by exact getL_at hx1 hf hc3)))) .nil) rfl HSub.none ⟨rfl, rfl⟩
    · replace hc3 := of_decide_eq_false hc3
      refine jd_skip rfl ?_
      refine pd_block ?_
      refine pd_seq ?_
      refine jd_region rfl ?_
      refine od_pu rfl rfl (p_add (c := ((k + 1 : Nat) : Int)) rfl rfl (w64eq (by omega) (by omega))) ?_
      refine od_pu rfl rfl (p_move rfl) ?_
      refine od_nil rfl ?_
      exact pd_loop (k + 1) ⟨sk rfl, sk rfl, sk rfl, sk rfl, trivial⟩ HSub.none (getL_next hx1 hf hc3) (by omega)
  · replace hc1 := of_decide_eq_false hc1
    refine jd_exit rfl ?_
    refine pd_seq_exit ?_
    refine pd_loop_exit ?_
    refine pd_block_exit ?_
    refine pd_seq ?_
    refine jd_seq [true, true, false] [true, true, true] rfl rfl rfl ?_
    refine jd_region rfl ?_
    refine od_pu rfl rfl (p_assign rfl) ?_
    refine od_nil rfl ?_
    refine pd_seq ?_
    refine jd_ret rfl ?_
    exact pd_retH Try.results40 (.cons (ro_cv (ro_tmp rfl) (((Cv.str (by first | decide | (unfold maxLen; omega)))).trans (Cv.eq (congrArg D.s (by exact getL_end (by omega) hf))))) .nil) rfl HSub.none ⟨rfl, rfl⟩

set_option maxHeartbeats 4000000 in
set_option maxRecDepth 100000 in
theorem right_c (l : List Lbl)  :
    CD Try.prog 41 [] [.sh 2 (l.map Lbl.d)] (isR (dB (decide (tidyE l = 0) && decide (cmpLs (tidyL l) l = 0)))) := by
  refine cd_of_JD Try.func41 rfl (N := 17) rfl rfl (fun C => ?_)
  refine JD.keep [0] [(0, .sh 2 (l.map Lbl.d))] rfl ?_
  refine JD.bd 0 rfl (fun bd0 => ?_)
  have nl0 := bd_len bd0
  refine jd_seq [false] [true] rfl rfl rfl ?_
  refine jd_region rfl ?_
  refine od_pu rfl rfl (p_assign rfl) ?_
  refine od_nil rfl ?_
  refine pd_seq ?_
  refine jd_seq [true, false] [true, true] rfl rfl rfl ?_
  refine jd_region rfl ?_
  refine od_pu rfl rfl (p_move rfl) ?_
  refine od_step rfl rfl (ef_call [] _ [] rfl rfl (.cons ArgC.id .nil) lend_nil Try.call36 (tidy_c l) (.inl rfl)) ?_
  rintro _ _ ⟨_, ⟨v1, rfl, rfl⟩, rfl⟩
  refine OpsD.norm [.sl v1 2 74 ((tidyL l).map Lbl.d)] rfl ?_
  refine od_pu rfl rfl (p_move rfl) ?_
  refine od_pu rfl rfl (p_extract rfl rfl) ?_
  refine od_pu rfl rfl (p_extract rfl rfl) ?_
  refine od_pu rfl rfl (p_assign rfl) ?_
  refine od_pu rfl rfl (p_assign rfl) ?_
  refine od_nil rfl ?_
  refine pd_seq ?_
  refine jd_seq [true, true, false] [true, true, true] rfl rfl rfl ?_
  refine JD.keep [0, 3, 4, 5, 6, 7, 8, 9] [(0, .sh 2 (l.map Lbl.d)), (3, .ov v1), (4, .v (.int .i64 (tidyE l))), (5, .tup [.ov v1, .v (.int .i64 (tidyE l))]), (6, .sh 2 (l.map Lbl.d)), (7, .tup [.ov v1, .v (.int .i64 (tidyE l))]), (8, .ov v1), (9, .v (.int .i64 (tidyE l)))] rfl ?_
  refine jd_sum 2 ((decide (tidyE l = (0 : Int)) && decide (cmpLs (tidyL l) l = 0))) [.sl v1 2 74 ((tidyL l).map Lbl.d)] (fun _ hQ2 => ?_) ?_
  · skip
    by_cases hg3 : tidyE l = (0 : Int)
    · skip
      refine jd_region rfl ?_
      refine od_pu rfl rfl (p_move rfl) ?_
      refine od_pu rfl rfl (p_eql rfl rfl (decide_eq_true hg3)) ?_
      refine od_pu rfl rfl (p_move rfl) ?_
      refine od_runp rfl rfl rfl rfl rfl (p_move rfl) ?_
      refine od_runp rfl rfl rfl rfl rfl (p_move rfl) ?_
      refine od_run rfl rfl rfl rfl rfl (ef_call [] _ [.sl v1 2 74 ((tidyL l).map Lbl.d)] rfl rfl (.cons (ArgC.own (j := 0) rfl rfl) (.cons ArgC.id .nil)) (lend_cons (j := 0) rfl lend_nil) Try.call44 (sameLs_c (tidyL l) l) (.inr (isR_flat rfl))) ?_
      rintro _ _ ⟨_, ⟨rfl, rfl⟩, rfl⟩
      refine OpsD.norm [.sl v1 2 74 ((tidyL l).map Lbl.d)] rfl ?_
      refine od_pu rfl rfl (p_pick_t rfl rfl) ?_
      refine od_pu rfl rfl (p_assign rfl) ?_
      refine od_nil rfl ?_
      exact PD.sub ((2, .v (.bool (decide (tidyE l = (0 : Int)) && decide (cmpLs (tidyL l) l = 0)))) :: [(0, .sh 2 (l.map Lbl.d)), (3, .ov v1), (4, .v (.int .i64 (tidyE l))), (5, .tup [.ov v1, .v (.int .i64 (tidyE l))]), (6, .sh 2 (l.map Lbl.d)), (7, .tup [.ov v1, .v (.int .i64 (tidyE l))]), (8, .ov v1), (9, .v (.int .i64 (tidyE l)))]) ⟨sc rfl (Cv.eq (congrArg (fun b => D.v (.bool b)) (by first | (simp [hg3]; done) | (simp_all; done)))), sk rfl, sk rfl, sk rfl, sk rfl, sk rfl, sk rfl, sk rfl, sk rfl, trivial⟩ hQ2
    · skip
      refine jd_region rfl ?_
      refine od_pu rfl rfl (p_move rfl) ?_
      refine od_pu rfl rfl (p_eql rfl rfl (decide_eq_false hg3)) ?_
      refine od_pu rfl rfl (p_move rfl) ?_
      refine od_skip rfl rfl rfl rfl rfl (by decide) ?_
      refine od_skip rfl rfl rfl rfl rfl (by decide) ?_
      refine od_skip rfl rfl rfl rfl rfl (by decide) ?_
      refine od_pu rfl rfl (p_pick_f rfl rfl) ?_
      refine od_pu rfl rfl (p_assign rfl) ?_
      refine od_nil rfl ?_
      exact PD.sub ((2, .v (.bool (decide (tidyE l = (0 : Int)) && decide (cmpLs (tidyL l) l = 0)))) :: [(0, .sh 2 (l.map Lbl.d)), (3, .ov v1), (4, .v (.int .i64 (tidyE l))), (5, .tup [.ov v1, .v (.int .i64 (tidyE l))]), (6, .sh 2 (l.map Lbl.d)), (7, .tup [.ov v1, .v (.int .i64 (tidyE l))]), (8, .ov v1), (9, .v (.int .i64 (tidyE l)))]) ⟨sc rfl (Cv.eq (congrArg (fun b => D.v (.bool b)) (by first | (simp [hg3]; done) | (simp_all; done)))), sk rfl, sk rfl, sk rfl, sk rfl, sk rfl, sk rfl, sk rfl, sk rfl, trivial⟩ hQ2
  · skip
    refine pd_seq ?_
    refine jd_ret rfl ?_
    exact pd_retH Try.results41 (.cons (ro_cv (ro_tmp rfl) (Cv.eq (congrArg (fun b => D.v (.bool b)) (by simp [*])))) .nil) rfl HSub.none ⟨rfl, rfl⟩
end Lp
