/- Walks, printed by a program of mine (wip/tools/dw.py): each theorem says what a function of the translation hands back. -/
import Derived.Test.YtjhkajkickngmaaDP
import Derived.Test.YtjhkajkickngmaaDH
set_option linter.unusedSimpArgs false
set_option linter.unusedVariables false
namespace Lp
open Go Go.RowKit Go.Proofs

namespace HdV4
theorem eqp_175_eql (x y : Operand) (a : Addr) (w : World) : (do eqGuard .eql 175 x y (.pointer (some a)) (.pointer none); binOp .eql 175 (.pointer (some a)) (.pointer none) : Sem Value).run Try.prog w = .ok (.bool false) w := by kernel_rfl
theorem eqs_175_neq (d : Nat) (a : Addr) (w : World) : (Op.equalIn (d + 1) 175 (.pointer (some a)) (.pointer (some a))).run Try.prog w = .ok true w := by
  rw [Op.equalIn]
  simp only [Sem.run_bind, run_underlying (show Try.prog.underlying 175 = some (.pointer 178) by kernel_rfl), Result.andThen_ok, Try.sizeOf178]
  simp [sameAddr]
theorem eqt_175_neq (a : Addr) (w : World) : (Op.equal 175 (.pointer (some a)) (.pointer (some a))).run Try.prog w = .ok true w := eqs_175_neq 9999 a w
theorem eqq_175_neq (x y : Operand) (a : Addr) (w : World) : (do eqGuard .neq 175 x y (.pointer (some a)) (.pointer (some a)); binOp .neq 175 (.pointer (some a)) (.pointer (some a)) : Sem Value).run Try.prog w = .ok (.bool false) w := by simp [eqGuard, binOp, eqt_175_neq]
theorem fa_178_0 (b o : Nat) : ∀ w, (Instr.fieldAt 178 (.pointer (some ⟨b, o, none⟩)) 0).run Try.prog w = .ok (.pointer (some ⟨b, o + 0, none⟩)) w := fun _ => by kernel_rfl
theorem fa_178_1 (b o : Nat) : ∀ w, (Instr.fieldAt 178 (.pointer (some ⟨b, o, none⟩)) 1).run Try.prog w = .ok (.pointer (some ⟨b, o + 1, none⟩)) w := fun _ => by kernel_rfl
theorem infz_5 : ∃ i, Try.prog.info? 5 = some i ∧ i.zero = some (.int .u8 0) ∧ i.size = 1 ∧ i.bytes = 1 := infz_of (by kernel_rfl)
theorem und_176 : Try.prog.underlying 176 = some (.slice 5) := by kernel_rfl
end HdV4
open HdV4

theorem cv_up {w : World} {g : Nat} {c : Array Value} (h : w.heap[g]? = some (.cells c 178 (0, 0))) (hc : c.size = 2) : (convert 175 223 (.pointer (some ⟨g, 0, none⟩))).run Try.prog w = .ok (.pointer (some ⟨g, 0, none⟩)) w := by
  simp [convert, run_underlying (show Try.prog.underlying 175 = some _ by kernel_rfl), run_underlying (show Try.prog.underlying 223 = some _ by kernel_rfl), Conv.unsafePointer, Conv.seenAt, viewAt, cellsIn, run_shape, h, hc, World.shape?, Try.sizeOf178]
theorem cv_down {w : World} {g : Nat} {c : Array Value} (h : w.heap[g]? = some (.cells c 178 (0, 0))) (hc : c.size = 2) : (convert 223 175 (.pointer (some ⟨g, 0, none⟩))).run Try.prog w = .ok (.pointer (some ⟨g, 0, none⟩)) w := by
  have e : liesAt Try.prog Try.prog.depth 178 (2 / Try.prog.cellsOf 178) 0 178 1 = true := by kernel_rfl
  simp [convert, run_underlying (show Try.prog.underlying 175 = some _ by kernel_rfl), run_underlying (show Try.prog.underlying 223 = some _ by kernel_rfl), Conv.unsafePointer, Conv.seenAt, viewAt, cellsIn, run_shape, h, hc, World.shape?, Try.sizeOf178, variablesAt, e]
theorem p_upto {ty : TypeId} {K : Kd} {H : List Hp} {t1 t2 : TypeId} {x : Operand} {g i : Nat} {X : D} (ht : (t1 = 175 ∧ t2 = 223) ∨ (t1 = 223 ∧ t2 = 175)) (hx : opD K x = some (.v (.pointer (some ⟨g, 0, none⟩)))) (hm : nth H i = some (.bx g 178 X)) (hX : Nat.beq X.cells.length 2 = true) : Pu Try.prog (.convert t1 t2 x) ty K H (.v (.pointer (some ⟨g, 0, none⟩))) :=
  ⟨fun ρ w F hk _ hH => by
    obtain ⟨u, h1, h2, h3⟩ := hH _ (nth_mem hm)
    have hl := repL_len (D.rep_cells h1 h2)
    have hc : u.cells.size = 2 := by have := Nat.eq_of_beq_eq_true hX; rw [← hl] at this; simpa [vcs] using this
    have e : ev ρ x = _ := hk.op hx
    refine EOp.of_run (v := .pointer (some ⟨g, 0, none⟩)) (w' := w) ?_ ⟨rfl, rfl⟩
    rcases ht with ⟨rfl, rfl⟩ | ⟨rfl, rfl⟩
    · have := run_v (cv_up h3 hc); simpa [execOp, mkOper, e] using this
    · have := run_v (cv_down h3 hc); simpa [execOp, mkOper, e] using this⟩
theorem p_noEscape {ty : TypeId} {K : Kd} {H : List Hp} {x : Operand} {ats : Array TypeId} {v : Value} (hx : opD K x = some (.v v)) : Pu Try.prog (.call { callee := .value (.func 182), args := #[x], argTypes := ats }) ty K H (.v v) :=
  ⟨fun ρ w F hk _ _ => e_ext (vs := [v]) (knows_lkO ρ [x]) (by rw [show (#[x] : Array Operand).toList = [x] from rfl, opvs_lkO ρ [x] [x] (fun _ h => h)]; have e : ev ρ x = v := hk.op hx; simp [e]) (fun w => by
    rw [run_callFunc_extern Try.func182 (by kernel_rfl) (by kernel_rfl) (by kernel_rfl) (e := Extern.AbiNoEscape.same) (by kernel_rfl)]; rfl) ⟨rfl, rfl⟩⟩

set_option maxHeartbeats 4000000 in
set_option maxRecDepth 100000 in
theorem copyCheck_c (g : Nat) (p : Value) (x : D) (hp : p = .pointer none ∨ p = .pointer (some ⟨g, 0, none⟩)) :
    CD Try.prog 168 [.bx g 178 (.agg [.v p, x])] [.v (.pointer (some ⟨g, 0, none⟩))] (fun r H' => r = .tup [] ∧ H' = [.bx g 178 (.agg [.v (.pointer (some ⟨g, 0, none⟩)), x])]) := by
  refine cd_of_JD Try.func168 rfl (N := 20) rfl rfl (fun C => ?_)
  refine JD.keep [0] [(0, .v (.pointer (some ⟨g, 0, none⟩)))] rfl ?_
  rcases hp with rfl | rfl
  · skip
    refine jd_seq [false] [true] rfl rfl rfl ?_
    refine jd_region rfl ?_
    refine od_pu rfl rfl (p_move rfl) ?_
    refine od_pu rfl rfl (p_nilCheck rfl) ?_
    refine od_pu rfl rfl (p_fieldAddr rfl fa_178_0 rfl) ?_
    refine od_pu rfl rfl (p_load_bx1 rfl (i := 0) rfl Try.isAgg175 rfl) ?_
    refine od_pu rfl rfl (p_bin (r := .bool true) rfl rfl (fun _ => by kernel_rfl)) ?_
    refine od_nil rfl ?_
    refine pd_seq ?_
    refine jd_cond_t [true, false] rfl rfl rfl ?_
    refine jd_region rfl ?_
    refine od_pu rfl rfl (p_move rfl) ?_
    refine od_pu rfl rfl (p_move rfl) ?_
    refine od_pu rfl rfl (p_upto (i := 0) (by first | exact .inl ⟨rfl, rfl⟩ | exact .inr ⟨rfl, rfl⟩) rfl rfl rfl) ?_
    refine od_pu rfl rfl (p_noEscape rfl) ?_
    refine od_pu rfl rfl (p_upto (i := 0) (by first | exact .inl ⟨rfl, rfl⟩ | exact .inr ⟨rfl, rfl⟩) rfl rfl rfl) ?_
    refine od_pu rfl rfl (p_nilCheck rfl) ?_
    refine od_pu rfl rfl (p_fieldAddr rfl fa_178_0 rfl) ?_
    refine od_step rfl rfl (ef_store_bx (i := 0) (X' := .agg [.v (.pointer (some ⟨g, 0, none⟩)), x]) rfl rfl rfl (CellD.v rfl) Try.sizeOf175 rfl rfl rfl) ?_
    rintro _ _ ⟨rfl, rfl⟩
    refine OpsD.norm [.bx g 178 (.agg [.v (.pointer (some ⟨g, 0, none⟩)), x])] rfl ?_
    refine od_nil rfl ?_
    exact pd_end Try.results168 .nil rfl ⟨rfl, rfl⟩
  · skip
    refine jd_seq [false] [true] rfl rfl rfl ?_
    refine jd_region rfl ?_
    refine od_pu rfl rfl (p_move rfl) ?_
    refine od_pu rfl rfl (p_nilCheck rfl) ?_
    refine od_pu rfl rfl (p_fieldAddr rfl fa_178_0 rfl) ?_
    refine od_pu rfl rfl (p_load_bx1 rfl (i := 0) rfl Try.isAgg175 rfl) ?_
    refine od_pu rfl rfl (p_bin (r := .bool false) rfl rfl (eqp_175_eql _ _ _)) ?_
    refine od_nil rfl ?_
    refine pd_seq ?_
    refine jd_cond_f [true, true] rfl rfl rfl ?_
    refine jd_seq [true, true, false] [true, true, true] rfl rfl rfl ?_
    refine jd_region rfl ?_
    refine od_pu rfl rfl (p_move rfl) ?_
    refine od_pu rfl rfl (p_nilCheck rfl) ?_
    refine od_pu rfl rfl (p_fieldAddr rfl fa_178_0 rfl) ?_
    refine od_pu rfl rfl (p_load_bx1 rfl (i := 0) rfl Try.isAgg175 rfl) ?_
    refine od_pu rfl rfl (p_move rfl) ?_
    refine od_pu rfl rfl (p_bin (r := .bool false) rfl rfl (eqq_175_neq _ _ _)) ?_
    refine od_nil rfl ?_
    refine pd_seq ?_
    refine JD.keep [19] [(19, .v (.bool false))] rfl ?_
    refine jd_cond_f [true, true, true, true] rfl rfl rfl ?_
    refine jd_skip rfl ?_
    exact pd_end Try.results168 .nil rfl ⟨rfl, rfl⟩

set_option maxHeartbeats 4000000 in
set_option maxRecDepth 100000 in
theorem WriteByte_c (g : Nat) (p v : Value) (bs : List UInt8) (c : UInt8) (hp : p = .pointer none ∨ p = .pointer (some ⟨g, 0, none⟩)) (hl : bs.length ≤ 1000000000000) :
    CD Try.prog 140 [.bx g 178 (.agg [.v p, .ov v]), .sl v 1 5 (bs.map dU8)] [.v (.pointer (some ⟨g, 0, none⟩)), .v (.int .u8 ((c.toNat : Nat) : Int))] (fun r H' => ∃ v', r = .v .nilIface ∧ H' = [.bx g 178 (.agg [.v (.pointer (some ⟨g, 0, none⟩)), .ov v']), .sl v' 1 5 ((bs ++ [c]).map dU8)]) := by
  refine cd_of_JD Try.func140 rfl (N := 17) rfl rfl (fun C => ?_)
  refine JD.keep [0, 1] [(0, .v (.pointer (some ⟨g, 0, none⟩))), (1, .v (.int .u8 ((c.toNat : Nat) : Int)))] rfl ?_
  refine jd_seq [false] [true] rfl rfl rfl ?_
  refine jd_region rfl ?_
  refine od_pu rfl rfl (p_assign rfl) ?_
  refine od_nil rfl ?_
  refine pd_seq ?_
  refine jd_seq [true, false] [true, true] rfl rfl rfl ?_
  refine jd_region rfl ?_
  refine od_pu rfl rfl (p_move rfl) ?_
  refine od_step rfl rfl (ef_call [.bx g 178 (.agg [.v p, .ov v])] [.sl v 1 5 (bs.map dU8)] [] rfl rfl (.cons ArgC.id .nil) lend_nil Try.call168 (copyCheck_c g p (.ov v) hp) (.inl rfl)) ?_
  rintro _ _ ⟨_, ⟨rfl, rfl⟩, rfl⟩
  refine OpsD.norm [.bx g 178 (.agg [.v (.pointer (some ⟨g, 0, none⟩)), .ov v]), .sl v 1 5 (bs.map dU8)] rfl ?_
  refine od_nil rfl ?_
  refine pd_seq ?_
  refine jd_seq [true, true, false] [true, true, true] rfl rfl rfl ?_
  refine jd_region rfl ?_
  refine od_pu rfl rfl (p_move rfl) ?_
  refine od_pu rfl rfl (p_move rfl) ?_
  refine od_pu rfl rfl (p_nilCheck rfl) ?_
  refine od_pu rfl rfl (p_fieldAddr rfl fa_178_1 rfl) ?_
  refine od_pu rfl rfl (p_load_bx1 rfl (i := 0) rfl Try.isAgg176 rfl) ?_
  refine od_pu rfl rfl (p_move rfl) ?_
  refine od_step rfl rfl (ef_buildSlice [.tmp 12] rfl rfl (.cons (CellD.v rfl) .nil) rfl Try.runUnderlying176 Try.sizeOf5 Try.zeroValue5 rfl rfl rfl rfl) ?_
  rintro _ _ ⟨g1, rfl, rfl⟩
  refine od_step rfl rfl (ef_append_m (f := dU8) (l := bs) (l' := [c]) (i := 2) rfl rfl rfl (SrcD.own (j := 0) rfl rfl) und_176 infz_5 rfl rfl (by unfold maxLen; (try simp only [List.length_append, List.length_cons, List.length_nil, List.length_map, List.length_take, List.length_drop, List.length_set, List.length_replicate]); omega) (by (try simp only [List.length_append, List.length_cons, List.length_nil, List.length_map, List.length_take, List.length_drop, List.length_set, List.length_replicate]); omega)) ?_
  rintro _ _ ⟨v2, rfl, rfl⟩
  refine OpsD.norm [.sl (.slice (some ⟨g1, 0, none⟩) 1 1) 1 5 ([.v (.int .u8 ((c.toNat : Nat) : Int))]), .bx g 178 (.agg [.v (.pointer (some ⟨g, 0, none⟩)), .ov v]), .sl v2 1 5 ((bs ++ [c]).map dU8)] rfl ?_
  refine od_pu rfl rfl (p_nilCheck rfl) ?_
  refine od_pu rfl rfl (p_fieldAddr rfl fa_178_1 rfl) ?_
  refine od_step rfl rfl (ef_store_bx (i := 1) (X' := .agg [.v (.pointer (some ⟨g, 0, none⟩)), .ov v2]) rfl rfl rfl (CellD.o) Try.sizeOf176 rfl rfl rfl) ?_
  rintro _ _ ⟨rfl, rfl⟩
  refine OpsD.norm [.sl (.slice (some ⟨g1, 0, none⟩) 1 1) 1 5 ([.v (.int .u8 ((c.toNat : Nat) : Int))]), .bx g 178 (.agg [.v (.pointer (some ⟨g, 0, none⟩)), .ov v2]), .sl v2 1 5 ((bs ++ [c]).map dU8)] rfl ?_
  refine od_nil rfl ?_
  refine pd_seq ?_
  refine JD.keep [4] [(4, .v .nilIface)] rfl ?_
  refine jd_seq [true, true, true, false] [true, true, true, true] rfl rfl rfl ?_
  refine jd_region rfl ?_
  refine od_pu rfl rfl (p_assign rfl) ?_
  refine od_nil rfl ?_
  refine pd_seq ?_
  refine jd_ret rfl ?_
  refine PD.subH (HSub.perm (perm_front (i := 2) rfl)) ?_
  refine PD.norm [.sl v2 1 5 ((bs ++ [c]).map dU8), .sl (.slice (some ⟨g1, 0, none⟩) 1 1) 1 5 ([.v (.int .u8 ((c.toNat : Nat) : Int))]), .bx g 178 (.agg [.v (.pointer (some ⟨g, 0, none⟩)), .ov v2])] rfl ?_
  refine PD.subH (HSub.perm (perm_front (i := 2) rfl)) ?_
  refine PD.norm [.bx g 178 (.agg [.v (.pointer (some ⟨g, 0, none⟩)), .ov v2]), .sl v2 1 5 ((bs ++ [c]).map dU8), .sl (.slice (some ⟨g1, 0, none⟩) 1 1) 1 5 ([.v (.int .u8 ((c.toNat : Nat) : Int))])] rfl ?_
  exact pd_retH Try.results140 (.cons (ro_tmp rfl) .nil) rfl (HSub.fst 2 rfl) ⟨v2, rfl, rfl⟩

set_option maxHeartbeats 4000000 in
set_option maxRecDepth 100000 in
theorem WriteString_c (g : Nat) (p v : Value) (bs : List UInt8) (s : ByteArray) (hp : p = .pointer none ∨ p = .pointer (some ⟨g, 0, none⟩)) (hl : bs.length ≤ 1000000000000) (hs : s.size ≤ 1000000000000) :
    CD Try.prog 142 [.bx g 178 (.agg [.v p, .ov v]), .sl v 1 5 (bs.map dU8)] [.v (.pointer (some ⟨g, 0, none⟩)), .s s] (fun r H' => ∃ v', r = .tup [.v (.int .i64 (s.size : Int)), .v .nilIface] ∧ H' = [.bx g 178 (.agg [.v (.pointer (some ⟨g, 0, none⟩)), .ov v']), .sl v' 1 5 ((bs ++ s.data.toList).map dU8)]) := by
  refine cd_of_JD Try.func142 rfl (N := 19) rfl rfl (fun C => ?_)
  refine JD.keep [0, 1] [(0, .v (.pointer (some ⟨g, 0, none⟩))), (1, .s s)] rfl ?_
  refine JD.bd 1 rfl (fun bd1 => ?_)
  have sz1 : s.size ≤ 9223372036854775807 := bd1
  refine jd_seq [false] [true] rfl rfl rfl ?_
  refine jd_region rfl ?_
  refine od_pu rfl rfl (p_assign rfl) ?_
  refine od_pu rfl rfl (p_assign rfl) ?_
  refine od_nil rfl ?_
  refine pd_seq ?_
  refine jd_seq [true, false] [true, true] rfl rfl rfl ?_
  refine jd_region rfl ?_
  refine od_pu rfl rfl (p_move rfl) ?_
  refine od_step rfl rfl (ef_call [.bx g 178 (.agg [.v p, .ov v])] [.sl v 1 5 (bs.map dU8)] [] rfl rfl (.cons ArgC.id .nil) lend_nil Try.call168 (copyCheck_c g p (.ov v) hp) (.inl rfl)) ?_
  rintro _ _ ⟨_, ⟨rfl, rfl⟩, rfl⟩
  refine OpsD.norm [.bx g 178 (.agg [.v (.pointer (some ⟨g, 0, none⟩)), .ov v]), .sl v 1 5 (bs.map dU8)] rfl ?_
  refine od_nil rfl ?_
  refine pd_seq ?_
  refine jd_seq [true, true, false] [true, true, true] rfl rfl rfl ?_
  refine jd_region rfl ?_
  refine od_pu rfl rfl (p_move rfl) ?_
  refine od_pu rfl rfl (p_move rfl) ?_
  refine od_pu rfl rfl (p_nilCheck rfl) ?_
  refine od_pu rfl rfl (p_fieldAddr rfl fa_178_1 rfl) ?_
  refine od_pu rfl rfl (p_load_bx1 rfl (i := 0) rfl Try.isAgg176 rfl) ?_
  refine od_pu rfl rfl (p_move rfl) ?_
  refine od_step rfl rfl (ef_append_s (i := 1) (bs := bs) (s := s) rfl rfl rfl und_176 (by kernel_rfl) infz_5 (by (try simp only [List.length_append, List.length_cons, List.length_nil]); omega)) ?_
  rintro _ _ ⟨v1, rfl, rfl⟩
  refine OpsD.norm [.bx g 178 (.agg [.v (.pointer (some ⟨g, 0, none⟩)), .ov v]), .sl v1 1 5 ((bs ++ s.data.toList).map dU8)] rfl ?_
  refine od_pu rfl rfl (p_nilCheck rfl) ?_
  refine od_pu rfl rfl (p_fieldAddr rfl fa_178_1 rfl) ?_
  refine od_step rfl rfl (ef_store_bx (i := 0) (X' := .agg [.v (.pointer (some ⟨g, 0, none⟩)), .ov v1]) rfl rfl rfl (CellD.o) Try.sizeOf176 rfl rfl rfl) ?_
  rintro _ _ ⟨rfl, rfl⟩
  refine OpsD.norm [.bx g 178 (.agg [.v (.pointer (some ⟨g, 0, none⟩)), .ov v1]), .sl v1 1 5 ((bs ++ s.data.toList).map dU8)] rfl ?_
  refine od_nil rfl ?_
  refine pd_seq ?_
  refine JD.keep [1, 4, 5] [(1, .s s), (4, .v (.int .i64 0)), (5, .v .nilIface)] rfl ?_
  refine jd_seq [true, true, true, false] [true, true, true, true] rfl rfl rfl ?_
  refine jd_region rfl ?_
  refine od_pu rfl rfl (p_move rfl) ?_
  refine od_pu rfl rfl (p_len_str rfl Try.runUnderlying9) ?_
  refine od_pu rfl rfl (p_assign rfl) ?_
  refine od_pu rfl rfl (p_assign rfl) ?_
  refine od_nil rfl ?_
  refine pd_seq ?_
  refine jd_ret rfl ?_
  exact pd_retH Try.results142 (.cons (ro_tmp rfl) (.cons (ro_tmp rfl) .nil)) rfl (HSub.fst 2 rfl) ⟨v1, rfl, rfl⟩
end Lp
