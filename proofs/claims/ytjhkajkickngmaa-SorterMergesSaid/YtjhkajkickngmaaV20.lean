/- Walks, printed by a program of mine (wip/tools/dw.py): each theorem says what a function of the translation hands back. -/
import Derived.Test.YtjhkajkickngmaaV19
import Derived.Test.YtjhkajkickngmaaV2
import Derived.Test.YtjhkajkickngmaaPLaw18
set_option linter.unusedSimpArgs false
set_option linter.unusedVariables false
namespace Lp
open Go Go.RowKit Go.Proofs

namespace HdV20
theorem bd_34 : ∀ w, ((#[⟨"Labels", 32, 0, false, "", "", 0⟩, ⟨"V", 3, 1, false, "", "", 24⟩] : Array Field).mapM fun f => do pure (f.offset, ← Go.sizeOf f.type) : Sem (Array (Nat × Nat))).run Try.prog w = .ok ([(0, 1), (1, 1)] : List (Nat × Nat)).toArray w := fun _ => by kernel_rfl
theorem bd_59 : ∀ w, ((#[⟨"Runs", 3, 0, false, "", "", 0⟩, ⟨"Merges", 3, 1, false, "", "", 8⟩, ⟨"High", 3, 2, false, "", "", 16⟩] : Array Field).mapM fun f => do pure (f.offset, ← Go.sizeOf f.type) : Sem (Array (Nat × Nat))).run Try.prog w = .ok ([(0, 1), (1, 1), (2, 1)] : List (Nat × Nat)).toArray w := fun _ => by kernel_rfl
theorem eqb_4_neq (x y : Operand) (a b : Bool) (w : World) : (do eqGuard .neq 4 x y (.bool a) (.bool b); binOp .neq 4 (.bool a) (.bool b) : Sem Value).run Try.prog w = .ok (.bool (a != b)) w := by cases a <;> cases b <;> kernel_rfl
theorem fa_34_1 (b o : Nat) : ∀ w, (Instr.fieldAt 34 (.pointer (some ⟨b, o, none⟩)) 1).run Try.prog w = .ok (.pointer (some ⟨b, o + 1, none⟩)) w := fun _ => by kernel_rfl
theorem fa_59_0 (b o : Nat) : ∀ w, (Instr.fieldAt 59 (.pointer (some ⟨b, o, none⟩)) 0).run Try.prog w = .ok (.pointer (some ⟨b, o + 0, none⟩)) w := fun _ => by kernel_rfl
theorem fa_59_1 (b o : Nat) : ∀ w, (Instr.fieldAt 59 (.pointer (some ⟨b, o, none⟩)) 1).run Try.prog w = .ok (.pointer (some ⟨b, o + 1, none⟩)) w := fun _ => by kernel_rfl
theorem fa_59_2 (b o : Nat) : ∀ w, (Instr.fieldAt 59 (.pointer (some ⟨b, o, none⟩)) 2).run Try.prog w = .ok (.pointer (some ⟨b, o + 2, none⟩)) w := fun _ => by kernel_rfl
end HdV20
open HdV20

theorem p_eqrep {ty t' : TypeId} {K : Kd} {H : List Hp} {x y : Operand} {a b : RepD} {q : Bool} (hx : opD K x = some (RepD.d a)) (hy : opD K y = some (RepD.d b)) (hq : decide (a = b) = q) : Pu Try.prog (.binOp .eql 59 x y t') ty K H (.v (.bool q)) :=
  ⟨fun ρ w F hk _ _ => by
    obtain ⟨vs, e, u1, r1, rfl, _, rfl, u2, r2, rfl, _, rfl, u3, r3, rfl, _, rfl, rfl⟩ := hk.op hx
    obtain ⟨vs', e', u4, r4, rfl, _, rfl, u5, r5, rfl, _, rfl, u6, r6, rfl, _, rfl, rfl⟩ := hk.op hy
    refine e_bin (r := .bool q) (knows_lkO ρ [x, y]) (opv2a ρ e) (opv2b ρ e') (fun w => ?_) ⟨rfl, rfl⟩
    subst hq
    obtain ⟨a1, a2, a3⟩ := a
    obtain ⟨b1, b2, b3⟩ := b
    simp [go_sem]
    by_cases h1 : a1 = b1 <;> by_cases h2 : a2 = b2 <;> by_cases h3 : a3 = b3 <;> simp [h1, h2, h3]⟩

set_option maxHeartbeats 4000000 in
set_option maxRecDepth 100000 in
theorem alive18_c   :
    CD Try.prog 29 [] [] (isR (dB true)) := by
  refine cd_of_JD Try.func29 rfl (N := 45) rfl rfl (fun C => ?_)
  refine JD.keep [] [] rfl ?_
  refine jd_seq [false] [true] rfl rfl rfl ?_
  refine jd_region rfl ?_
  refine od_pu rfl rfl (p_assign rfl) ?_
  refine od_nil rfl ?_
  refine pd_seq ?_
  refine jd_seq [true, false] [true, true] rfl rfl rfl ?_
  refine jd_region rfl ?_
  refine od_pu rfl rfl (p_build [1] [.const (.int .i64 3)] (zv := (.agg #[(.slice none 0 0), (.int .i64 0)])) rfl rfl (.cons (CellD.v rfl) .nil) (Try.runUnderlying34) Try.zeroValue34 bd_34 ⟨rfl, rfl, trivial⟩ rfl) ?_
  refine od_pu rfl rfl (p_build [1] [.const (.int .i64 1)] (zv := (.agg #[(.slice none 0 0), (.int .i64 0)])) rfl rfl (.cons (CellD.v rfl) .nil) (Try.runUnderlying34) Try.zeroValue34 bd_34 ⟨rfl, rfl, trivial⟩ rfl) ?_
  refine od_pu rfl rfl (p_build [1] [.const (.int .i64 2)] (zv := (.agg #[(.slice none 0 0), (.int .i64 0)])) rfl rfl (.cons (CellD.v rfl) .nil) (Try.runUnderlying34) Try.zeroValue34 bd_34 ⟨rfl, rfl, trivial⟩ rfl) ?_
  refine od_step rfl rfl (Qu.ef (d := .sh 2 ([(RowD.mk [] 3), (RowD.mk [] 1), (RowD.mk [] 2)].map RowD.d)) ((qu_buildSlice [.tmp 5, .tmp 6, .tmp 7] rfl rfl (.cons CellD.agg (.cons CellD.agg (.cons CellD.agg .nil))) rfl Try.runUnderlying27 Try.sizeOf34 Try.zeroValue34 rfl rfl rfl rfl).cv (Cv.shs (.cons (Cv.agg (.cons (Cv.nil) (.cons Cv.rfl' .nil))) (.cons (Cv.agg (.cons (Cv.nil) (.cons Cv.rfl' .nil))) (.cons (Cv.agg (.cons (Cv.nil) (.cons Cv.rfl' .nil))) .nil)))))) ?_
  rintro _ _ ⟨rfl, rfl⟩
  refine od_step rfl rfl (ef_call [] _ [] rfl rfl (.cons ArgC.id (.cons ArgC.id (.cons ArgC.id (.cons ArgC.id .nil)))) lend_nil Try.call32 (Sort_c 1 32 2 [(RowD.mk [] 3), (RowD.mk [] 1), (RowD.mk [] 2)] (by unfold LightRs; decide) (by first | omega | decide)) (.inl rfl)) ?_
  rintro _ _ ⟨_, ⟨v1, rfl, rfl⟩, rfl⟩
  refine OpsD.norm [.sl v1 2 34 ((sortL 1 32 2 [(RowD.mk [] 3), (RowD.mk [] 1), (RowD.mk [] 2)]).map RowD.d)] rfl ?_
  refine od_pu rfl rfl (p_move rfl) ?_
  refine od_pu rfl rfl (p_extract rfl rfl) ?_
  refine od_pu rfl rfl (p_extract rfl rfl) ?_
  refine od_pu rfl rfl (p_extract rfl rfl) ?_
  refine od_step rfl rfl (ef_alloc (zv := (.agg #[(.int .i64 0), (.int .i64 0), (.int .i64 0)])) Try.zeroValue59 ⟨rfl, rfl, rfl, trivial⟩ (Cv.vagg (by decide))) ?_
  rintro _ _ ⟨g2, rfl, rfl⟩
  refine od_pu rfl rfl (p_assign rfl) ?_
  refine od_step rfl rfl (ef_store_bx (i := 0) (X' := RepD.d (sortP 1 32 2 [(RowD.mk [] 3), (RowD.mk [] 1), (RowD.mk [] 2)])) rfl rfl rfl (CellD.agg) Try.sizeOf59 rfl rfl rfl) ?_
  rintro _ _ ⟨rfl, rfl⟩
  refine OpsD.norm [.bx g2 59 (RepD.d (sortP 1 32 2 [(RowD.mk [] 3), (RowD.mk [] 1), (RowD.mk [] 2)])), .sl v1 2 34 ((sortL 1 32 2 [(RowD.mk [] 3), (RowD.mk [] 1), (RowD.mk [] 2)]).map RowD.d)] rfl ?_
  refine od_pu rfl rfl (p_assign rfl) ?_
  refine od_nil rfl ?_
  refine pd_seq ?_
  refine JD.keep [0, 1, 2, 3] [(0, .v (.bool false)), (1, .ov v1), (2, .v (.pointer (some ⟨g2, 0, none⟩))), (3, .v (.int .i64 (sortE 32 2 [(RowD.mk [] 3), (RowD.mk [] 1), (RowD.mk [] 2)])))] rfl ?_
  refine jd_seq [true, true, false] [true, true, true] rfl rfl rfl ?_
  refine JD.norm [.bx g2 59 (.agg [.v (.int .i64 2), .v (.int .i64 1), .v (.int .i64 32)]), .sl v1 2 34 ([(RowD.mk [] 1), (RowD.mk [] 2), (RowD.mk [] 3)].map RowD.d)] (by rw [show [(RowD.mk [] 3), (RowD.mk [] 1), (RowD.mk [] 2)] = al18 from rfl, al18_L, al18_P]; rfl) ?_
  refine JD.sub [(0, .v (.bool false)), (1, .ov v1), (2, .v (.pointer (some ⟨g2, 0, none⟩))), (3, .v (.int .i64 0))] ⟨sk rfl, sk rfl, sk rfl, sc rfl (Cv.eq (congrArg dI al18_E)), trivial⟩ ?_
  obtain ⟨y1, hy1, ey1⟩ : ∃ x, [(RowD.mk [] 1), (RowD.mk [] 2), (RowD.mk [] 3)][0]? = some x ∧ x = RowD.mk [] 1 := ⟨_, rfl, rfl⟩
  obtain ⟨y3, hy3, ey3⟩ : ∃ x, [(RowD.mk [] 1), (RowD.mk [] 2), (RowD.mk [] 3)][2]? = some x ∧ x = RowD.mk [] 3 := ⟨_, rfl, rfl⟩
  refine JD.keep [1, 2, 3] [(1, .ov v1), (2, .v (.pointer (some ⟨g2, 0, none⟩))), (3, .v (.int .i64 0))] rfl ?_
  refine jd_sum 0 ((((((decide ((0 : Int) = (0 : Int)) && decide ((([(RowD.mk [] 1), (RowD.mk [] 2), (RowD.mk [] 3)].length : Nat) : Int) = (3 : Int))) && decide (y1.v = (1 : Int))) && decide (y3.v = (3 : Int))) && decide ((RepD.mk 2 1 32) = (RepD.mk 2 1 32))) && decide (2 * maxC [(RowD.mk [] 1)] = (32 : Int)))) [.bx g2 59 (.agg [.v (.int .i64 2), .v (.int .i64 1), .v (.int .i64 32)]), .sl v1 2 34 ([(RowD.mk [] 1), (RowD.mk [] 2), (RowD.mk [] 3)].map RowD.d)] (fun _ hQ3 => ?_) ?_
  · skip
    by_cases hg4 : (0 : Int) = (0 : Int)
    · skip
      by_cases hg5 : (([(RowD.mk [] 1), (RowD.mk [] 2), (RowD.mk [] 3)].length : Nat) : Int) = (3 : Int)
      · skip
        by_cases hg6 : y1.v = (1 : Int)
        · skip
          by_cases hg7 : y3.v = (3 : Int)
          · skip
            by_cases hg8 : (RepD.mk 2 1 32) = (RepD.mk 2 1 32)
            · skip
              refine jd_region rfl ?_
              refine od_pu rfl rfl (p_move rfl) ?_
              refine od_pu rfl rfl (p_eql rfl rfl (decide_eq_true hg4)) ?_
              refine od_pu rfl rfl (p_move rfl) ?_
              refine od_runp rfl rfl rfl rfl rfl (p_move rfl) ?_
              refine od_runp rfl rfl rfl rfl rfl (p_len_own (n := [(RowD.mk [] 1), (RowD.mk [] 2), (RowD.mk [] 3)].length) (j := 1) rfl rfl Try.runUnderlying27 (List.length_map _)) ?_
              refine od_runp rfl rfl rfl rfl rfl (p_eql rfl rfl (decide_eq_true hg5)) ?_
              refine od_pu rfl rfl (p_pick_t rfl rfl) ?_
              refine od_pu rfl rfl (p_move rfl) ?_
              refine od_runp rfl rfl rfl rfl rfl (p_move rfl) ?_
              refine od_runp rfl rfl rfl rfl rfl (p_indexAddr_sl (k := 0) (j := 1) rfl rfl rfl Try.runUnderlying27 Try.sizeOf34 (by first | rfl | omega) (get_map hy1)) ?_
              refine od_runp rfl rfl rfl rfl rfl (p_fieldAddr rfl fa_34_1 rfl) ?_
              refine od_runp rfl rfl rfl rfl rfl (p_load_sl1 rfl (i := 1) rfl (get_map hy1) Try.isAgg3 rfl) ?_
              refine od_runp rfl rfl rfl rfl rfl (p_eql rfl rfl (decide_eq_true hg6)) ?_
              refine od_pu rfl rfl (p_pick_t rfl rfl) ?_
              refine od_pu rfl rfl (p_move rfl) ?_
              refine od_runp rfl rfl rfl rfl rfl (p_move rfl) ?_
              refine od_runp rfl rfl rfl rfl rfl (p_indexAddr_sl (k := 2) (j := 1) rfl rfl rfl Try.runUnderlying27 Try.sizeOf34 (by first | rfl | omega) (get_map hy3)) ?_
              refine od_runp rfl rfl rfl rfl rfl (p_fieldAddr rfl fa_34_1 rfl) ?_
              refine od_runp rfl rfl rfl rfl rfl (p_load_sl1 rfl (i := 1) rfl (get_map hy3) Try.isAgg3 rfl) ?_
              refine od_runp rfl rfl rfl rfl rfl (p_eql rfl rfl (decide_eq_true hg7)) ?_
              refine od_pu rfl rfl (p_pick_t rfl rfl) ?_
              refine od_pu rfl rfl (p_move rfl) ?_
              refine od_runp rfl rfl rfl rfl rfl (p_load_bx (d := .agg [.v (.int .i64 2), .v (.int .i64 1), .v (.int .i64 32)]) rfl (i := 0) rfl Try.isAgg59 Try.sizeOf59 rfl rfl) ?_
              refine od_runp rfl rfl rfl rfl rfl (p_build [0, 1, 2] [.const (.int .i64 2), .const (.int .i64 1), .const (.int .i64 32)] (zv := (.agg #[(.int .i64 0), (.int .i64 0), (.int .i64 0)])) rfl rfl (.cons (CellD.v rfl) (.cons (CellD.v rfl) (.cons (CellD.v rfl) .nil))) (Try.runUnderlying59) Try.zeroValue59 bd_59 ⟨rfl, rfl, rfl, trivial⟩ rfl) ?_
              refine od_runp rfl rfl rfl rfl rfl (p_eqrep rfl rfl (decide_eq_true hg8)) ?_
              refine od_pu rfl rfl (p_pick_t rfl rfl) ?_
              refine od_pu rfl rfl (p_move rfl) ?_
              refine od_runp rfl rfl rfl rfl rfl (p_build [1] [.const (.int .i64 1)] (zv := (.agg #[(.slice none 0 0), (.int .i64 0)])) rfl rfl (.cons (CellD.v rfl) .nil) (Try.runUnderlying34) Try.zeroValue34 bd_34 ⟨rfl, rfl, trivial⟩ rfl) ?_
              refine od_run rfl rfl rfl rfl rfl (Qu.ef (d := .sh 2 ([(RowD.mk [] 1)].map RowD.d)) ((qu_buildSlice [.tmp 40] rfl rfl (.cons CellD.agg .nil) rfl Try.runUnderlying27 Try.sizeOf34 Try.zeroValue34 rfl rfl rfl rfl).cv (Cv.shs (.cons (Cv.agg (.cons (Cv.nil) (.cons Cv.rfl' .nil))) .nil)))) ?_
              rintro _ _ ⟨rfl, rfl⟩
              refine od_run rfl rfl rfl rfl rfl (ef_call [] _ [] rfl rfl (.cons ArgC.id (.cons ArgC.id .nil)) lend_nil Try.call31 (Least_c 2 [(RowD.mk [] 1)] (by omega) (by omega) (by unfold LightRs; decide)) (.inl rfl)) ?_
              rintro _ _ ⟨_, ⟨rfl, rfl⟩, rfl⟩
              refine OpsD.norm [.bx g2 59 (.agg [.v (.int .i64 2), .v (.int .i64 1), .v (.int .i64 32)]), .sl v1 2 34 ([(RowD.mk [] 1), (RowD.mk [] 2), (RowD.mk [] 3)].map RowD.d)] rfl ?_
              refine od_runp rfl rfl rfl rfl rfl (p_eql rfl rfl rfl) ?_
              refine od_pu rfl rfl (p_pick_t rfl rfl) ?_
              refine od_pu rfl rfl (p_assign rfl) ?_
              refine od_nil rfl ?_
              exact PD.sub ((0, .v (.bool (((((decide ((0 : Int) = (0 : Int)) && decide ((([(RowD.mk [] 1), (RowD.mk [] 2), (RowD.mk [] 3)].length : Nat) : Int) = (3 : Int))) && decide (y1.v = (1 : Int))) && decide (y3.v = (3 : Int))) && decide ((RepD.mk 2 1 32) = (RepD.mk 2 1 32))) && decide (2 * maxC [(RowD.mk [] 1)] = (32 : Int))))) :: [(1, .ov v1), (2, .v (.pointer (some ⟨g2, 0, none⟩))), (3, .v (.int .i64 0))]) ⟨sc rfl (Cv.eq (congrArg (fun b => D.v (.bool b)) (by first | (simp [hg4, hg5, hg6, hg7, hg8]; done) | (simp_all; done)))), sk rfl, sk rfl, sk rfl, trivial⟩ hQ3
            · skip
              refine jd_region rfl ?_
              refine od_pu rfl rfl (p_move rfl) ?_
              refine od_pu rfl rfl (p_eql rfl rfl (decide_eq_true hg4)) ?_
              refine od_pu rfl rfl (p_move rfl) ?_
              refine od_runp rfl rfl rfl rfl rfl (p_move rfl) ?_
              refine od_runp rfl rfl rfl rfl rfl (p_len_own (n := [(RowD.mk [] 1), (RowD.mk [] 2), (RowD.mk [] 3)].length) (j := 1) rfl rfl Try.runUnderlying27 (List.length_map _)) ?_
              refine od_runp rfl rfl rfl rfl rfl (p_eql rfl rfl (decide_eq_true hg5)) ?_
              refine od_pu rfl rfl (p_pick_t rfl rfl) ?_
              refine od_pu rfl rfl (p_move rfl) ?_
              refine od_runp rfl rfl rfl rfl rfl (p_move rfl) ?_
              refine od_runp rfl rfl rfl rfl rfl (p_indexAddr_sl (k := 0) (j := 1) rfl rfl rfl Try.runUnderlying27 Try.sizeOf34 (by first | rfl | omega) (get_map hy1)) ?_
              refine od_runp rfl rfl rfl rfl rfl (p_fieldAddr rfl fa_34_1 rfl) ?_
              refine od_runp rfl rfl rfl rfl rfl (p_load_sl1 rfl (i := 1) rfl (get_map hy1) Try.isAgg3 rfl) ?_
              refine od_runp rfl rfl rfl rfl rfl (p_eql rfl rfl (decide_eq_true hg6)) ?_
              refine od_pu rfl rfl (p_pick_t rfl rfl) ?_
              refine od_pu rfl rfl (p_move rfl) ?_
              refine od_runp rfl rfl rfl rfl rfl (p_move rfl) ?_
              refine od_runp rfl rfl rfl rfl rfl (p_indexAddr_sl (k := 2) (j := 1) rfl rfl rfl Try.runUnderlying27 Try.sizeOf34 (by first | rfl | omega) (get_map hy3)) ?_
              refine od_runp rfl rfl rfl rfl rfl (p_fieldAddr rfl fa_34_1 rfl) ?_
              refine od_runp rfl rfl rfl rfl rfl (p_load_sl1 rfl (i := 1) rfl (get_map hy3) Try.isAgg3 rfl) ?_
              refine od_runp rfl rfl rfl rfl rfl (p_eql rfl rfl (decide_eq_true hg7)) ?_
              refine od_pu rfl rfl (p_pick_t rfl rfl) ?_
              refine od_pu rfl rfl (p_move rfl) ?_
              refine od_runp rfl rfl rfl rfl rfl (p_load_bx (d := .agg [.v (.int .i64 2), .v (.int .i64 1), .v (.int .i64 32)]) rfl (i := 0) rfl Try.isAgg59 Try.sizeOf59 rfl rfl) ?_
              refine od_runp rfl rfl rfl rfl rfl (p_build [0, 1, 2] [.const (.int .i64 2), .const (.int .i64 1), .const (.int .i64 32)] (zv := (.agg #[(.int .i64 0), (.int .i64 0), (.int .i64 0)])) rfl rfl (.cons (CellD.v rfl) (.cons (CellD.v rfl) (.cons (CellD.v rfl) .nil))) (Try.runUnderlying59) Try.zeroValue59 bd_59 ⟨rfl, rfl, rfl, trivial⟩ rfl) ?_
              refine od_runp rfl rfl rfl rfl rfl (p_eqrep rfl rfl (decide_eq_false hg8)) ?_
              refine od_pu rfl rfl (p_pick_t rfl rfl) ?_
              refine od_pu rfl rfl (p_move rfl) ?_
              refine od_skip rfl rfl rfl rfl rfl (by decide) ?_
              refine od_skip rfl rfl rfl rfl rfl (by decide) ?_
              refine od_skip rfl rfl rfl rfl rfl (by decide) ?_
              refine od_skip rfl rfl rfl rfl rfl (by decide) ?_
              refine od_pu rfl rfl (p_pick_f rfl rfl) ?_
              refine od_pu rfl rfl (p_assign rfl) ?_
              refine od_nil rfl ?_
              exact PD.sub ((0, .v (.bool (((((decide ((0 : Int) = (0 : Int)) && decide ((([(RowD.mk [] 1), (RowD.mk [] 2), (RowD.mk [] 3)].length : Nat) : Int) = (3 : Int))) && decide (y1.v = (1 : Int))) && decide (y3.v = (3 : Int))) && decide ((RepD.mk 2 1 32) = (RepD.mk 2 1 32))) && decide (2 * maxC [(RowD.mk [] 1)] = (32 : Int))))) :: [(1, .ov v1), (2, .v (.pointer (some ⟨g2, 0, none⟩))), (3, .v (.int .i64 0))]) ⟨sc rfl (Cv.eq (congrArg (fun b => D.v (.bool b)) (by first | (simp [hg4, hg5, hg6, hg7, hg8]; done) | (simp_all; done)))), sk rfl, sk rfl, sk rfl, trivial⟩ hQ3
          · skip
            refine jd_region rfl ?_
            refine od_pu rfl rfl (p_move rfl) ?_
            refine od_pu rfl rfl (p_eql rfl rfl (decide_eq_true hg4)) ?_
            refine od_pu rfl rfl (p_move rfl) ?_
            refine od_runp rfl rfl rfl rfl rfl (p_move rfl) ?_
            refine od_runp rfl rfl rfl rfl rfl (p_len_own (n := [(RowD.mk [] 1), (RowD.mk [] 2), (RowD.mk [] 3)].length) (j := 1) rfl rfl Try.runUnderlying27 (List.length_map _)) ?_
            refine od_runp rfl rfl rfl rfl rfl (p_eql rfl rfl (decide_eq_true hg5)) ?_
            refine od_pu rfl rfl (p_pick_t rfl rfl) ?_
            refine od_pu rfl rfl (p_move rfl) ?_
            refine od_runp rfl rfl rfl rfl rfl (p_move rfl) ?_
            refine od_runp rfl rfl rfl rfl rfl (p_indexAddr_sl (k := 0) (j := 1) rfl rfl rfl Try.runUnderlying27 Try.sizeOf34 (by first | rfl | omega) (get_map hy1)) ?_
            refine od_runp rfl rfl rfl rfl rfl (p_fieldAddr rfl fa_34_1 rfl) ?_
            refine od_runp rfl rfl rfl rfl rfl (p_load_sl1 rfl (i := 1) rfl (get_map hy1) Try.isAgg3 rfl) ?_
            refine od_runp rfl rfl rfl rfl rfl (p_eql rfl rfl (decide_eq_true hg6)) ?_
            refine od_pu rfl rfl (p_pick_t rfl rfl) ?_
            refine od_pu rfl rfl (p_move rfl) ?_
            refine od_runp rfl rfl rfl rfl rfl (p_move rfl) ?_
            refine od_runp rfl rfl rfl rfl rfl (p_indexAddr_sl (k := 2) (j := 1) rfl rfl rfl Try.runUnderlying27 Try.sizeOf34 (by first | rfl | omega) (get_map hy3)) ?_
            refine od_runp rfl rfl rfl rfl rfl (p_fieldAddr rfl fa_34_1 rfl) ?_
            refine od_runp rfl rfl rfl rfl rfl (p_load_sl1 rfl (i := 1) rfl (get_map hy3) Try.isAgg3 rfl) ?_
            refine od_runp rfl rfl rfl rfl rfl (p_eql rfl rfl (decide_eq_false hg7)) ?_
            refine od_pu rfl rfl (p_pick_t rfl rfl) ?_
            refine od_pu rfl rfl (p_move rfl) ?_
            refine od_skip rfl rfl rfl rfl rfl (by decide) ?_
            refine od_skip rfl rfl rfl rfl rfl (by decide) ?_
            refine od_skip rfl rfl rfl rfl rfl (by decide) ?_
            refine od_pu rfl rfl (p_pick_f rfl rfl) ?_
            refine od_pu rfl rfl (p_move rfl) ?_
            refine od_skip rfl rfl rfl rfl rfl (by decide) ?_
            refine od_skip rfl rfl rfl rfl rfl (by decide) ?_
            refine od_skip rfl rfl rfl rfl rfl (by decide) ?_
            refine od_skip rfl rfl rfl rfl rfl (by decide) ?_
            refine od_pu rfl rfl (p_pick_f rfl rfl) ?_
            refine od_pu rfl rfl (p_assign rfl) ?_
            refine od_nil rfl ?_
            exact PD.sub ((0, .v (.bool (((((decide ((0 : Int) = (0 : Int)) && decide ((([(RowD.mk [] 1), (RowD.mk [] 2), (RowD.mk [] 3)].length : Nat) : Int) = (3 : Int))) && decide (y1.v = (1 : Int))) && decide (y3.v = (3 : Int))) && decide ((RepD.mk 2 1 32) = (RepD.mk 2 1 32))) && decide (2 * maxC [(RowD.mk [] 1)] = (32 : Int))))) :: [(1, .ov v1), (2, .v (.pointer (some ⟨g2, 0, none⟩))), (3, .v (.int .i64 0))]) ⟨sc rfl (Cv.eq (congrArg (fun b => D.v (.bool b)) (by first | (simp [hg4, hg5, hg6, hg7]; done) | (simp_all; done)))), sk rfl, sk rfl, sk rfl, trivial⟩ hQ3
        · skip
          refine jd_region rfl ?_
          refine od_pu rfl rfl (p_move rfl) ?_
          refine od_pu rfl rfl (p_eql rfl rfl (decide_eq_true hg4)) ?_
          refine od_pu rfl rfl (p_move rfl) ?_
          refine od_runp rfl rfl rfl rfl rfl (p_move rfl) ?_
          refine od_runp rfl rfl rfl rfl rfl (p_len_own (n := [(RowD.mk [] 1), (RowD.mk [] 2), (RowD.mk [] 3)].length) (j := 1) rfl rfl Try.runUnderlying27 (List.length_map _)) ?_
          refine od_runp rfl rfl rfl rfl rfl (p_eql rfl rfl (decide_eq_true hg5)) ?_
          refine od_pu rfl rfl (p_pick_t rfl rfl) ?_
          refine od_pu rfl rfl (p_move rfl) ?_
          refine od_runp rfl rfl rfl rfl rfl (p_move rfl) ?_
          refine od_runp rfl rfl rfl rfl rfl (p_indexAddr_sl (k := 0) (j := 1) rfl rfl rfl Try.runUnderlying27 Try.sizeOf34 (by first | rfl | omega) (get_map hy1)) ?_
          refine od_runp rfl rfl rfl rfl rfl (p_fieldAddr rfl fa_34_1 rfl) ?_
          refine od_runp rfl rfl rfl rfl rfl (p_load_sl1 rfl (i := 1) rfl (get_map hy1) Try.isAgg3 rfl) ?_
          refine od_runp rfl rfl rfl rfl rfl (p_eql rfl rfl (decide_eq_false hg6)) ?_
          refine od_pu rfl rfl (p_pick_t rfl rfl) ?_
          refine od_pu rfl rfl (p_move rfl) ?_
          refine od_skip rfl rfl rfl rfl rfl (by decide) ?_
          refine od_skip rfl rfl rfl rfl rfl (by decide) ?_
          refine od_skip rfl rfl rfl rfl rfl (by decide) ?_
          refine od_skip rfl rfl rfl rfl rfl (by decide) ?_
          refine od_skip rfl rfl rfl rfl rfl (by decide) ?_
          refine od_pu rfl rfl (p_pick_f rfl rfl) ?_
          refine od_pu rfl rfl (p_move rfl) ?_
          refine od_skip rfl rfl rfl rfl rfl (by decide) ?_
          refine od_skip rfl rfl rfl rfl rfl (by decide) ?_
          refine od_skip rfl rfl rfl rfl rfl (by decide) ?_
          refine od_pu rfl rfl (p_pick_f rfl rfl) ?_
          refine od_pu rfl rfl (p_move rfl) ?_
          refine od_skip rfl rfl rfl rfl rfl (by decide) ?_
          refine od_skip rfl rfl rfl rfl rfl (by decide) ?_
          refine od_skip rfl rfl rfl rfl rfl (by decide) ?_
          refine od_skip rfl rfl rfl rfl rfl (by decide) ?_
          refine od_pu rfl rfl (p_pick_f rfl rfl) ?_
          refine od_pu rfl rfl (p_assign rfl) ?_
          refine od_nil rfl ?_
          exact PD.sub ((0, .v (.bool (((((decide ((0 : Int) = (0 : Int)) && decide ((([(RowD.mk [] 1), (RowD.mk [] 2), (RowD.mk [] 3)].length : Nat) : Int) = (3 : Int))) && decide (y1.v = (1 : Int))) && decide (y3.v = (3 : Int))) && decide ((RepD.mk 2 1 32) = (RepD.mk 2 1 32))) && decide (2 * maxC [(RowD.mk [] 1)] = (32 : Int))))) :: [(1, .ov v1), (2, .v (.pointer (some ⟨g2, 0, none⟩))), (3, .v (.int .i64 0))]) ⟨sc rfl (Cv.eq (congrArg (fun b => D.v (.bool b)) (by first | (simp [hg4, hg5, hg6]; done) | (simp_all; done)))), sk rfl, sk rfl, sk rfl, trivial⟩ hQ3
      · skip
        refine jd_region rfl ?_
        refine od_pu rfl rfl (p_move rfl) ?_
        refine od_pu rfl rfl (p_eql rfl rfl (decide_eq_true hg4)) ?_
        refine od_pu rfl rfl (p_move rfl) ?_
        refine od_runp rfl rfl rfl rfl rfl (p_move rfl) ?_
        refine od_runp rfl rfl rfl rfl rfl (p_len_own (n := [(RowD.mk [] 1), (RowD.mk [] 2), (RowD.mk [] 3)].length) (j := 1) rfl rfl Try.runUnderlying27 (List.length_map _)) ?_
        refine od_runp rfl rfl rfl rfl rfl (p_eql rfl rfl (decide_eq_false hg5)) ?_
        refine od_pu rfl rfl (p_pick_t rfl rfl) ?_
        refine od_pu rfl rfl (p_move rfl) ?_
        refine od_skip rfl rfl rfl rfl rfl (by decide) ?_
        refine od_skip rfl rfl rfl rfl rfl (by decide) ?_
        refine od_skip rfl rfl rfl rfl rfl (by decide) ?_
        refine od_skip rfl rfl rfl rfl rfl (by decide) ?_
        refine od_skip rfl rfl rfl rfl rfl (by decide) ?_
        refine od_pu rfl rfl (p_pick_f rfl rfl) ?_
        refine od_pu rfl rfl (p_move rfl) ?_
        refine od_skip rfl rfl rfl rfl rfl (by decide) ?_
        refine od_skip rfl rfl rfl rfl rfl (by decide) ?_
        refine od_skip rfl rfl rfl rfl rfl (by decide) ?_
        refine od_skip rfl rfl rfl rfl rfl (by decide) ?_
        refine od_skip rfl rfl rfl rfl rfl (by decide) ?_
        refine od_pu rfl rfl (p_pick_f rfl rfl) ?_
        refine od_pu rfl rfl (p_move rfl) ?_
        refine od_skip rfl rfl rfl rfl rfl (by decide) ?_
        refine od_skip rfl rfl rfl rfl rfl (by decide) ?_
        refine od_skip rfl rfl rfl rfl rfl (by decide) ?_
        refine od_pu rfl rfl (p_pick_f rfl rfl) ?_
        refine od_pu rfl rfl (p_move rfl) ?_
        refine od_skip rfl rfl rfl rfl rfl (by decide) ?_
        refine od_skip rfl rfl rfl rfl rfl (by decide) ?_
        refine od_skip rfl rfl rfl rfl rfl (by decide) ?_
        refine od_skip rfl rfl rfl rfl rfl (by decide) ?_
        refine od_pu rfl rfl (p_pick_f rfl rfl) ?_
        refine od_pu rfl rfl (p_assign rfl) ?_
        refine od_nil rfl ?_
        exact PD.sub ((0, .v (.bool (((((decide ((0 : Int) = (0 : Int)) && decide ((([(RowD.mk [] 1), (RowD.mk [] 2), (RowD.mk [] 3)].length : Nat) : Int) = (3 : Int))) && decide (y1.v = (1 : Int))) && decide (y3.v = (3 : Int))) && decide ((RepD.mk 2 1 32) = (RepD.mk 2 1 32))) && decide (2 * maxC [(RowD.mk [] 1)] = (32 : Int))))) :: [(1, .ov v1), (2, .v (.pointer (some ⟨g2, 0, none⟩))), (3, .v (.int .i64 0))]) ⟨sc rfl (Cv.eq (congrArg (fun b => D.v (.bool b)) (by first | (simp [hg4, hg5]; done) | (simp_all; done)))), sk rfl, sk rfl, sk rfl, trivial⟩ hQ3
    · skip
      refine jd_region rfl ?_
      refine od_pu rfl rfl (p_move rfl) ?_
      refine od_pu rfl rfl (p_eql rfl rfl (decide_eq_false hg4)) ?_
      refine od_pu rfl rfl (p_move rfl) ?_
      refine od_skip rfl rfl rfl rfl rfl (by decide) ?_
      refine od_skip rfl rfl rfl rfl rfl (by decide) ?_
      refine od_skip rfl rfl rfl rfl rfl (by decide) ?_
      refine od_pu rfl rfl (p_pick_f rfl rfl) ?_
      refine od_pu rfl rfl (p_move rfl) ?_
      refine od_skip rfl rfl rfl rfl rfl (by decide) ?_
      refine od_skip rfl rfl rfl rfl rfl (by decide) ?_
      refine od_skip rfl rfl rfl rfl rfl (by decide) ?_
      refine od_skip rfl rfl rfl rfl rfl (by decide) ?_
      refine od_skip rfl rfl rfl rfl rfl (by decide) ?_
      refine od_pu rfl rfl (p_pick_f rfl rfl) ?_
      refine od_pu rfl rfl (p_move rfl) ?_
      refine od_skip rfl rfl rfl rfl rfl (by decide) ?_
      refine od_skip rfl rfl rfl rfl rfl (by decide) ?_
      refine od_skip rfl rfl rfl rfl rfl (by decide) ?_
      refine od_skip rfl rfl rfl rfl rfl (by decide) ?_
      refine od_skip rfl rfl rfl rfl rfl (by decide) ?_
      refine od_pu rfl rfl (p_pick_f rfl rfl) ?_
      refine od_pu rfl rfl (p_move rfl) ?_
      refine od_skip rfl rfl rfl rfl rfl (by decide) ?_
      refine od_skip rfl rfl rfl rfl rfl (by decide) ?_
      refine od_skip rfl rfl rfl rfl rfl (by decide) ?_
      refine od_pu rfl rfl (p_pick_f rfl rfl) ?_
      refine od_pu rfl rfl (p_move rfl) ?_
      refine od_skip rfl rfl rfl rfl rfl (by decide) ?_
      refine od_skip rfl rfl rfl rfl rfl (by decide) ?_
      refine od_skip rfl rfl rfl rfl rfl (by decide) ?_
      refine od_skip rfl rfl rfl rfl rfl (by decide) ?_
      refine od_pu rfl rfl (p_pick_f rfl rfl) ?_
      refine od_pu rfl rfl (p_assign rfl) ?_
      refine od_nil rfl ?_
      exact PD.sub ((0, .v (.bool (((((decide ((0 : Int) = (0 : Int)) && decide ((([(RowD.mk [] 1), (RowD.mk [] 2), (RowD.mk [] 3)].length : Nat) : Int) = (3 : Int))) && decide (y1.v = (1 : Int))) && decide (y3.v = (3 : Int))) && decide ((RepD.mk 2 1 32) = (RepD.mk 2 1 32))) && decide (2 * maxC [(RowD.mk [] 1)] = (32 : Int))))) :: [(1, .ov v1), (2, .v (.pointer (some ⟨g2, 0, none⟩))), (3, .v (.int .i64 0))]) ⟨sc rfl (Cv.eq (congrArg (fun b => D.v (.bool b)) (by first | (simp [hg4]; done) | (simp_all; done)))), sk rfl, sk rfl, sk rfl, trivial⟩ hQ3
  · skip
    refine pd_seq ?_
    refine jd_ret rfl ?_
    exact pd_retH Try.results29 (.cons (ro_cv (ro_tmp rfl) (Cv.eq (congrArg (fun b => D.v (.bool b)) (by subst ey1; subst ey3; rfl)))) .nil) rfl HSub.none ⟨rfl, rfl⟩

set_option maxHeartbeats 4000000 in
set_option maxRecDepth 100000 in
theorem law_merges_c (order : Int) (l : List RowD) (more : Int) (fan : Int)  :
    CD Try.prog 7 [] [.v (.int .i64 order), .sh 2 (l.map RowD.d), .v (.int .i64 more), .v (.int .i64 fan)] (isR (dB true)) := by
  refine cd_of_JD Try.func7 rfl (N := 129) rfl rfl (fun C => ?_)
  refine JD.keep [0, 1, 2, 3] [(0, .v (.int .i64 order)), (1, .sh 2 (l.map RowD.d)), (2, .v (.int .i64 more)), (3, .v (.int .i64 fan))] rfl ?_
  refine JD.bd 1 rfl (fun bd1 => ?_)
  have nl1 := bd_len bd1
  refine jd_seq [false] [true] rfl rfl rfl ?_
  refine jd_region rfl ?_
  refine od_pu rfl rfl (p_assign rfl) ?_
  refine od_nil rfl ?_
  refine pd_seq ?_
  refine jd_seq [true, false] [true, true] rfl rfl rfl ?_
  refine jd_seq [true, false, false] [true, false, true] rfl rfl rfl ?_
  refine JD.keep [0, 1, 2, 3, 8] [(0, .v (.int .i64 order)), (1, .sh 2 (l.map RowD.d)), (2, .v (.int .i64 more)), (3, .v (.int .i64 fan)), (8, .v (.bool false))] rfl ?_
  refine jd_sum 38 (((((!(lightR l) || decide (more < (0 : Int))) || decide ((2000 : Int) < more)) || decide (fan < (2 : Int))) || decide ((20 : Int) < fan))) [] (fun _ hQ1 => ?_) ?_
  · skip
    rcases Bool.eq_false_or_eq_true (lightR l) with hg2 | hg2
    · skip
      by_cases hg3 : more < (0 : Int)
      · skip
        refine jd_region rfl ?_
        refine od_pu rfl rfl (p_move rfl) ?_
        refine od_step rfl rfl (ef_call [] _ [] rfl rfl (.cons ArgC.id .nil) lend_nil Try.call17 (Light10_c l) (.inl rfl)) ?_
        rintro _ _ ⟨_, ⟨rfl, rfl⟩, rfl⟩
        refine OpsD.norm [] rfl ?_
        refine OpsD.sub ((17, .v (.bool true)) :: [(0, .v (.int .i64 order)), (1, .sh 2 (l.map RowD.d)), (2, .v (.int .i64 more)), (3, .v (.int .i64 fan)), (8, .v (.bool false)), (16, .sh 2 (l.map RowD.d))]) ⟨se rfl (congrArg (fun b => D.v (.bool b)) hg2), sk rfl, sk rfl, sk rfl, sk rfl, sk rfl, sk rfl, trivial⟩ ?_
        refine od_pu rfl rfl (p_not (q := true) rfl) ?_
        refine od_pu rfl rfl (p_move rfl) ?_
        refine od_runp rfl rfl rfl rfl rfl (p_move rfl) ?_
        refine od_runp rfl rfl rfl rfl rfl (p_lss rfl rfl (decide_eq_true hg3)) ?_
        refine od_pu rfl rfl (p_pick_f rfl rfl) ?_
        refine od_pu rfl rfl (p_move rfl) ?_
        refine od_skip rfl rfl rfl rfl rfl (by decide) ?_
        refine od_skip rfl rfl rfl rfl rfl (by decide) ?_
        refine od_pu rfl rfl (p_pick_t rfl rfl) ?_
        refine od_pu rfl rfl (p_move rfl) ?_
        refine od_skip rfl rfl rfl rfl rfl (by decide) ?_
        refine od_skip rfl rfl rfl rfl rfl (by decide) ?_
        refine od_pu rfl rfl (p_pick_t rfl rfl) ?_
        refine od_pu rfl rfl (p_move rfl) ?_
        refine od_skip rfl rfl rfl rfl rfl (by decide) ?_
        refine od_skip rfl rfl rfl rfl rfl (by decide) ?_
        refine od_pu rfl rfl (p_pick_t rfl rfl) ?_
        refine od_pu rfl rfl (p_move rfl) ?_
        refine od_skip rfl rfl rfl rfl rfl (by decide) ?_
        refine od_skip rfl rfl rfl rfl rfl (by decide) ?_
        refine od_pu rfl rfl (p_pick_t rfl rfl) ?_
        refine od_nil rfl ?_
        exact PD.sub ((38, .v (.bool ((((!(lightR l) || decide (more < (0 : Int))) || decide ((2000 : Int) < more)) || decide (fan < (2 : Int))) || decide ((20 : Int) < fan)))) :: [(0, .v (.int .i64 order)), (1, .sh 2 (l.map RowD.d)), (2, .v (.int .i64 more)), (3, .v (.int .i64 fan)), (8, .v (.bool false))]) ⟨sc rfl (Cv.eq (congrArg (fun b => D.v (.bool b)) (by first | (simp [hg2, hg3]; done) | (simp only [hg2, decide_eq_true hg3, Bool.or_true, Bool.true_or, Bool.or_false, Bool.false_or, Bool.and_true, Bool.true_and, Bool.and_false, Bool.false_and]; done) | (simp_all; done)))), sk rfl, sk rfl, sk rfl, sk rfl, sk rfl, trivial⟩ hQ1
      · skip
        by_cases hg4 : (2000 : Int) < more
        · skip
          refine jd_region rfl ?_
          refine od_pu rfl rfl (p_move rfl) ?_
          refine od_step rfl rfl (ef_call [] _ [] rfl rfl (.cons ArgC.id .nil) lend_nil Try.call17 (Light10_c l) (.inl rfl)) ?_
          rintro _ _ ⟨_, ⟨rfl, rfl⟩, rfl⟩
          refine OpsD.norm [] rfl ?_
          refine OpsD.sub ((17, .v (.bool true)) :: [(0, .v (.int .i64 order)), (1, .sh 2 (l.map RowD.d)), (2, .v (.int .i64 more)), (3, .v (.int .i64 fan)), (8, .v (.bool false)), (16, .sh 2 (l.map RowD.d))]) ⟨se rfl (congrArg (fun b => D.v (.bool b)) hg2), sk rfl, sk rfl, sk rfl, sk rfl, sk rfl, sk rfl, trivial⟩ ?_
          refine od_pu rfl rfl (p_not (q := true) rfl) ?_
          refine od_pu rfl rfl (p_move rfl) ?_
          refine od_runp rfl rfl rfl rfl rfl (p_move rfl) ?_
          refine od_runp rfl rfl rfl rfl rfl (p_lss rfl rfl (decide_eq_false hg3)) ?_
          refine od_pu rfl rfl (p_pick_f rfl rfl) ?_
          refine od_pu rfl rfl (p_move rfl) ?_
          refine od_runp rfl rfl rfl rfl rfl (p_move rfl) ?_
          refine od_runp rfl rfl rfl rfl rfl (p_gtr rfl rfl (decide_eq_true hg4)) ?_
          refine od_pu rfl rfl (p_pick_f rfl rfl) ?_
          refine od_pu rfl rfl (p_move rfl) ?_
          refine od_skip rfl rfl rfl rfl rfl (by decide) ?_
          refine od_skip rfl rfl rfl rfl rfl (by decide) ?_
          refine od_pu rfl rfl (p_pick_t rfl rfl) ?_
          refine od_pu rfl rfl (p_move rfl) ?_
          refine od_skip rfl rfl rfl rfl rfl (by decide) ?_
          refine od_skip rfl rfl rfl rfl rfl (by decide) ?_
          refine od_pu rfl rfl (p_pick_t rfl rfl) ?_
          refine od_pu rfl rfl (p_move rfl) ?_
          refine od_skip rfl rfl rfl rfl rfl (by decide) ?_
          refine od_skip rfl rfl rfl rfl rfl (by decide) ?_
          refine od_pu rfl rfl (p_pick_t rfl rfl) ?_
          refine od_nil rfl ?_
          exact PD.sub ((38, .v (.bool ((((!(lightR l) || decide (more < (0 : Int))) || decide ((2000 : Int) < more)) || decide (fan < (2 : Int))) || decide ((20 : Int) < fan)))) :: [(0, .v (.int .i64 order)), (1, .sh 2 (l.map RowD.d)), (2, .v (.int .i64 more)), (3, .v (.int .i64 fan)), (8, .v (.bool false))]) ⟨sc rfl (Cv.eq (congrArg (fun b => D.v (.bool b)) (by first | (simp [hg2, hg3, hg4]; done) | (simp only [hg2, decide_eq_false hg3, decide_eq_true hg4, Bool.or_true, Bool.true_or, Bool.or_false, Bool.false_or, Bool.and_true, Bool.true_and, Bool.and_false, Bool.false_and]; done) | (simp_all; done)))), sk rfl, sk rfl, sk rfl, sk rfl, sk rfl, trivial⟩ hQ1
        · skip
          by_cases hg5 : fan < (2 : Int)
          · skip
            refine jd_region rfl ?_
            refine od_pu rfl rfl (p_move rfl) ?_
            refine od_step rfl rfl (ef_call [] _ [] rfl rfl (.cons ArgC.id .nil) lend_nil Try.call17 (Light10_c l) (.inl rfl)) ?_
            rintro _ _ ⟨_, ⟨rfl, rfl⟩, rfl⟩
            refine OpsD.norm [] rfl ?_
            refine OpsD.sub ((17, .v (.bool true)) :: [(0, .v (.int .i64 order)), (1, .sh 2 (l.map RowD.d)), (2, .v (.int .i64 more)), (3, .v (.int .i64 fan)), (8, .v (.bool false)), (16, .sh 2 (l.map RowD.d))]) ⟨se rfl (congrArg (fun b => D.v (.bool b)) hg2), sk rfl, sk rfl, sk rfl, sk rfl, sk rfl, sk rfl, trivial⟩ ?_
            refine od_pu rfl rfl (p_not (q := true) rfl) ?_
            refine od_pu rfl rfl (p_move rfl) ?_
            refine od_runp rfl rfl rfl rfl rfl (p_move rfl) ?_
            refine od_runp rfl rfl rfl rfl rfl (p_lss rfl rfl (decide_eq_false hg3)) ?_
            refine od_pu rfl rfl (p_pick_f rfl rfl) ?_
            refine od_pu rfl rfl (p_move rfl) ?_
            refine od_runp rfl rfl rfl rfl rfl (p_move rfl) ?_
            refine od_runp rfl rfl rfl rfl rfl (p_gtr rfl rfl (decide_eq_false hg4)) ?_
            refine od_pu rfl rfl (p_pick_f rfl rfl) ?_
            refine od_pu rfl rfl (p_move rfl) ?_
            refine od_runp rfl rfl rfl rfl rfl (p_move rfl) ?_
            refine od_runp rfl rfl rfl rfl rfl (p_lss rfl rfl (decide_eq_true hg5)) ?_
            refine od_pu rfl rfl (p_pick_f rfl rfl) ?_
            refine od_pu rfl rfl (p_move rfl) ?_
            refine od_skip rfl rfl rfl rfl rfl (by decide) ?_
            refine od_skip rfl rfl rfl rfl rfl (by decide) ?_
            refine od_pu rfl rfl (p_pick_t rfl rfl) ?_
            refine od_pu rfl rfl (p_move rfl) ?_
            refine od_skip rfl rfl rfl rfl rfl (by decide) ?_
            refine od_skip rfl rfl rfl rfl rfl (by decide) ?_
            refine od_pu rfl rfl (p_pick_t rfl rfl) ?_
            refine od_nil rfl ?_
            exact PD.sub ((38, .v (.bool ((((!(lightR l) || decide (more < (0 : Int))) || decide ((2000 : Int) < more)) || decide (fan < (2 : Int))) || decide ((20 : Int) < fan)))) :: [(0, .v (.int .i64 order)), (1, .sh 2 (l.map RowD.d)), (2, .v (.int .i64 more)), (3, .v (.int .i64 fan)), (8, .v (.bool false))]) ⟨sc rfl (Cv.eq (congrArg (fun b => D.v (.bool b)) (by first | (simp [hg2, hg3, hg4, hg5]; done) | (simp only [hg2, decide_eq_false hg3, decide_eq_false hg4, decide_eq_true hg5, Bool.or_true, Bool.true_or, Bool.or_false, Bool.false_or, Bool.and_true, Bool.true_and, Bool.and_false, Bool.false_and]; done) | (simp_all; done)))), sk rfl, sk rfl, sk rfl, sk rfl, sk rfl, trivial⟩ hQ1
          · skip
            by_cases hg6 : (20 : Int) < fan
            · skip
              refine jd_region rfl ?_
              refine od_pu rfl rfl (p_move rfl) ?_
              refine od_step rfl rfl (ef_call [] _ [] rfl rfl (.cons ArgC.id .nil) lend_nil Try.call17 (Light10_c l) (.inl rfl)) ?_
              rintro _ _ ⟨_, ⟨rfl, rfl⟩, rfl⟩
              refine OpsD.norm [] rfl ?_
              refine OpsD.sub ((17, .v (.bool true)) :: [(0, .v (.int .i64 order)), (1, .sh 2 (l.map RowD.d)), (2, .v (.int .i64 more)), (3, .v (.int .i64 fan)), (8, .v (.bool false)), (16, .sh 2 (l.map RowD.d))]) ⟨se rfl (congrArg (fun b => D.v (.bool b)) hg2), sk rfl, sk rfl, sk rfl, sk rfl, sk rfl, sk rfl, trivial⟩ ?_
              refine od_pu rfl rfl (p_not (q := true) rfl) ?_
              refine od_pu rfl rfl (p_move rfl) ?_
              refine od_runp rfl rfl rfl rfl rfl (p_move rfl) ?_
              refine od_runp rfl rfl rfl rfl rfl (p_lss rfl rfl (decide_eq_false hg3)) ?_
              refine od_pu rfl rfl (p_pick_f rfl rfl) ?_
              refine od_pu rfl rfl (p_move rfl) ?_
              refine od_runp rfl rfl rfl rfl rfl (p_move rfl) ?_
              refine od_runp rfl rfl rfl rfl rfl (p_gtr rfl rfl (decide_eq_false hg4)) ?_
              refine od_pu rfl rfl (p_pick_f rfl rfl) ?_
              refine od_pu rfl rfl (p_move rfl) ?_
              refine od_runp rfl rfl rfl rfl rfl (p_move rfl) ?_
              refine od_runp rfl rfl rfl rfl rfl (p_lss rfl rfl (decide_eq_false hg5)) ?_
              refine od_pu rfl rfl (p_pick_f rfl rfl) ?_
              refine od_pu rfl rfl (p_move rfl) ?_
              refine od_runp rfl rfl rfl rfl rfl (p_move rfl) ?_
              refine od_runp rfl rfl rfl rfl rfl (p_gtr rfl rfl (decide_eq_true hg6)) ?_
              refine od_pu rfl rfl (p_pick_f rfl rfl) ?_
              refine od_pu rfl rfl (p_move rfl) ?_
              refine od_skip rfl rfl rfl rfl rfl (by decide) ?_
              refine od_skip rfl rfl rfl rfl rfl (by decide) ?_
              refine od_pu rfl rfl (p_pick_t rfl rfl) ?_
              refine od_nil rfl ?_
              exact PD.sub ((38, .v (.bool ((((!(lightR l) || decide (more < (0 : Int))) || decide ((2000 : Int) < more)) || decide (fan < (2 : Int))) || decide ((20 : Int) < fan)))) :: [(0, .v (.int .i64 order)), (1, .sh 2 (l.map RowD.d)), (2, .v (.int .i64 more)), (3, .v (.int .i64 fan)), (8, .v (.bool false))]) ⟨sc rfl (Cv.eq (congrArg (fun b => D.v (.bool b)) (by first | (simp [hg2, hg3, hg4, hg5, hg6]; done) | (simp only [hg2, decide_eq_false hg3, decide_eq_false hg4, decide_eq_false hg5, decide_eq_true hg6, Bool.or_true, Bool.true_or, Bool.or_false, Bool.false_or, Bool.and_true, Bool.true_and, Bool.and_false, Bool.false_and]; done) | (simp_all; done)))), sk rfl, sk rfl, sk rfl, sk rfl, sk rfl, trivial⟩ hQ1
            · skip
              refine jd_region rfl ?_
              refine od_pu rfl rfl (p_move rfl) ?_
              refine od_step rfl rfl (ef_call [] _ [] rfl rfl (.cons ArgC.id .nil) lend_nil Try.call17 (Light10_c l) (.inl rfl)) ?_
              rintro _ _ ⟨_, ⟨rfl, rfl⟩, rfl⟩
              refine OpsD.norm [] rfl ?_
              refine OpsD.sub ((17, .v (.bool true)) :: [(0, .v (.int .i64 order)), (1, .sh 2 (l.map RowD.d)), (2, .v (.int .i64 more)), (3, .v (.int .i64 fan)), (8, .v (.bool false)), (16, .sh 2 (l.map RowD.d))]) ⟨se rfl (congrArg (fun b => D.v (.bool b)) hg2), sk rfl, sk rfl, sk rfl, sk rfl, sk rfl, sk rfl, trivial⟩ ?_
              refine od_pu rfl rfl (p_not (q := true) rfl) ?_
              refine od_pu rfl rfl (p_move rfl) ?_
              refine od_runp rfl rfl rfl rfl rfl (p_move rfl) ?_
              refine od_runp rfl rfl rfl rfl rfl (p_lss rfl rfl (decide_eq_false hg3)) ?_
              refine od_pu rfl rfl (p_pick_f rfl rfl) ?_
              refine od_pu rfl rfl (p_move rfl) ?_
              refine od_runp rfl rfl rfl rfl rfl (p_move rfl) ?_
              refine od_runp rfl rfl rfl rfl rfl (p_gtr rfl rfl (decide_eq_false hg4)) ?_
              refine od_pu rfl rfl (p_pick_f rfl rfl) ?_
              refine od_pu rfl rfl (p_move rfl) ?_
              refine od_runp rfl rfl rfl rfl rfl (p_move rfl) ?_
              refine od_runp rfl rfl rfl rfl rfl (p_lss rfl rfl (decide_eq_false hg5)) ?_
              refine od_pu rfl rfl (p_pick_f rfl rfl) ?_
              refine od_pu rfl rfl (p_move rfl) ?_
              refine od_runp rfl rfl rfl rfl rfl (p_move rfl) ?_
              refine od_runp rfl rfl rfl rfl rfl (p_gtr rfl rfl (decide_eq_false hg6)) ?_
              refine od_pu rfl rfl (p_pick_f rfl rfl) ?_
              refine od_pu rfl rfl (p_move rfl) ?_
              refine od_run rfl rfl rfl rfl rfl (ef_call [] _ [] rfl rfl (.nil) lend_nil Try.call29 (alive18_c) (.inl rfl)) ?_
              rintro _ _ ⟨_, ⟨rfl, rfl⟩, rfl⟩
              refine OpsD.norm [] rfl ?_
              refine od_runp rfl rfl rfl rfl rfl (p_not (q := true) rfl) ?_
              refine od_pu rfl rfl (p_pick_f rfl rfl) ?_
              refine od_nil rfl ?_
              exact PD.sub ((38, .v (.bool ((((!(lightR l) || decide (more < (0 : Int))) || decide ((2000 : Int) < more)) || decide (fan < (2 : Int))) || decide ((20 : Int) < fan)))) :: [(0, .v (.int .i64 order)), (1, .sh 2 (l.map RowD.d)), (2, .v (.int .i64 more)), (3, .v (.int .i64 fan)), (8, .v (.bool false))]) ⟨sc rfl (Cv.eq (congrArg (fun b => D.v (.bool b)) (by first | (simp [hg2, hg3, hg4, hg5, hg6]; done) | (simp only [hg2, decide_eq_false hg3, decide_eq_false hg4, decide_eq_false hg5, decide_eq_false hg6, Bool.or_true, Bool.true_or, Bool.or_false, Bool.false_or, Bool.and_true, Bool.true_and, Bool.and_false, Bool.false_and]; done) | (simp_all; done)))), sk rfl, sk rfl, sk rfl, sk rfl, sk rfl, trivial⟩ hQ1
    · skip
      refine jd_region rfl ?_
      refine od_pu rfl rfl (p_move rfl) ?_
      refine od_step rfl rfl (ef_call [] _ [] rfl rfl (.cons ArgC.id .nil) lend_nil Try.call17 (Light10_c l) (.inl rfl)) ?_
      rintro _ _ ⟨_, ⟨rfl, rfl⟩, rfl⟩
      refine OpsD.norm [] rfl ?_
      refine OpsD.sub ((17, .v (.bool false)) :: [(0, .v (.int .i64 order)), (1, .sh 2 (l.map RowD.d)), (2, .v (.int .i64 more)), (3, .v (.int .i64 fan)), (8, .v (.bool false)), (16, .sh 2 (l.map RowD.d))]) ⟨se rfl (congrArg (fun b => D.v (.bool b)) hg2), sk rfl, sk rfl, sk rfl, sk rfl, sk rfl, sk rfl, trivial⟩ ?_
      refine od_pu rfl rfl (p_not (q := false) rfl) ?_
      refine od_pu rfl rfl (p_move rfl) ?_
      refine od_skip rfl rfl rfl rfl rfl (by decide) ?_
      refine od_skip rfl rfl rfl rfl rfl (by decide) ?_
      refine od_pu rfl rfl (p_pick_t rfl rfl) ?_
      refine od_pu rfl rfl (p_move rfl) ?_
      refine od_skip rfl rfl rfl rfl rfl (by decide) ?_
      refine od_skip rfl rfl rfl rfl rfl (by decide) ?_
      refine od_pu rfl rfl (p_pick_t rfl rfl) ?_
      refine od_pu rfl rfl (p_move rfl) ?_
      refine od_skip rfl rfl rfl rfl rfl (by decide) ?_
      refine od_skip rfl rfl rfl rfl rfl (by decide) ?_
      refine od_pu rfl rfl (p_pick_t rfl rfl) ?_
      refine od_pu rfl rfl (p_move rfl) ?_
      refine od_skip rfl rfl rfl rfl rfl (by decide) ?_
      refine od_skip rfl rfl rfl rfl rfl (by decide) ?_
      refine od_pu rfl rfl (p_pick_t rfl rfl) ?_
      refine od_pu rfl rfl (p_move rfl) ?_
      refine od_skip rfl rfl rfl rfl rfl (by decide) ?_
      refine od_skip rfl rfl rfl rfl rfl (by decide) ?_
      refine od_pu rfl rfl (p_pick_t rfl rfl) ?_
      refine od_nil rfl ?_
      exact PD.sub ((38, .v (.bool ((((!(lightR l) || decide (more < (0 : Int))) || decide ((2000 : Int) < more)) || decide (fan < (2 : Int))) || decide ((20 : Int) < fan)))) :: [(0, .v (.int .i64 order)), (1, .sh 2 (l.map RowD.d)), (2, .v (.int .i64 more)), (3, .v (.int .i64 fan)), (8, .v (.bool false))]) ⟨sc rfl (Cv.eq (congrArg (fun b => D.v (.bool b)) (by first | (simp [hg2]; done) | (simp only [hg2, Bool.or_true, Bool.true_or, Bool.or_false, Bool.false_or, Bool.and_true, Bool.true_and, Bool.and_false, Bool.false_and]; done) | (simp_all; done)))), sk rfl, sk rfl, sk rfl, sk rfl, sk rfl, trivial⟩ hQ1
  · skip
    refine pd_seq ?_
    refine jd_cond [true, false, true, false] [true, false, true, true] rfl rfl rfl rfl (fun hc7 => ?_) (fun hc7 => ?_)
    · simp only [Bool.and_eq_true, Bool.or_eq_true, Bool.not_eq_true', Bool.not_eq_false', Bool.and_eq_false_iff, Bool.or_eq_false_iff, decide_eq_true_eq, decide_eq_false_iff_not, Decidable.not_not, ne_eq] at hc7
      refine jd_seq [true, false, true, false, false] [true, false, true, false, true] rfl rfl rfl ?_
      refine jd_region rfl ?_
      refine od_step rfl rfl (ef_call [] _ [] rfl rfl (.nil) lend_nil Try.call29 (alive18_c) (.inl rfl)) ?_
      rintro _ _ ⟨_, ⟨rfl, rfl⟩, rfl⟩
      refine OpsD.norm [] rfl ?_
      refine od_pu rfl rfl (p_assign rfl) ?_
      refine od_nil rfl ?_
      refine pd_seq ?_
      refine jd_ret rfl ?_
      refine pd_seq_ret ?_
      exact pd_retH Try.results7 (.cons (ro_tmp rfl) .nil) rfl HSub.none ⟨rfl, rfl⟩
    · simp only [Bool.and_eq_true, Bool.or_eq_true, Bool.not_eq_true', Bool.not_eq_false', Bool.and_eq_false_iff, Bool.or_eq_false_iff, decide_eq_true_eq, decide_eq_false_iff_not, Decidable.not_not, ne_eq] at hc7
      have hlr : lightR l = true := by have h := hc7; first | exact h.1.1.1.1.1 | exact h.1.1.1.1 | exact h.1.1.1 | exact h.1.1 | exact h.1 | exact h
      have hL := maxC_light hlr
      have hll := lightR_len hlr
      have hmb := maxC_bd hL l.length
      rw [List.take_of_length_le (Nat.le_refl _)] at hmb
      have hmul := mulbd (a := fan) (by omega) (by omega) hmb.1 hmb.2
      have Dn := done18' (o := order) (room := fan * maxC l + more) (fan := fan) (l := l) hL (by omega) (by omega) (by omega) (by omega) (by omega)
      have dE := Dn.E
      have dl := Dn.len
      have d0 := Dn.nr0
      have d1 := Dn.nr1
      have d2 := Dn.nr2
      have d3 := Dn.nm
      have d4 := Dn.hi
      have d5 := Dn.lo
      refine jd_skip rfl ?_
      refine pd_seq ?_
      refine jd_seq [true, true, false] [true, true, true] rfl rfl rfl ?_
      refine jd_region rfl ?_
      refine od_pu rfl rfl (p_move rfl) ?_
      refine od_pu rfl rfl (p_move rfl) ?_
      refine od_step rfl rfl (ef_call [] _ [] rfl rfl (.cons ArgC.id (.cons ArgC.id .nil)) lend_nil Try.call31 (Least_c fan l (by omega) (by omega) hL) (.inl rfl)) ?_
      rintro _ _ ⟨_, ⟨rfl, rfl⟩, rfl⟩
      refine OpsD.norm [] rfl ?_
      refine od_pu rfl rfl (p_move rfl) ?_
      refine od_pu rfl rfl (p_add (c := (fan * maxC l + more)) rfl rfl (w64eq (by omega) (by omega))) ?_
      refine od_pu rfl rfl (p_assign rfl) ?_
      refine od_nil rfl ?_
      refine pd_seq ?_
      refine jd_seq [true, true, true, false] [true, true, true, true] rfl rfl rfl ?_
      refine jd_region rfl ?_
      refine od_pu rfl rfl (p_move rfl) ?_
      refine od_pu rfl rfl (p_move rfl) ?_
      refine od_pu rfl rfl (p_move rfl) ?_
      refine od_pu rfl rfl (p_move rfl) ?_
      refine od_step rfl rfl (ef_call [] _ [] rfl rfl (.cons ArgC.id (.cons ArgC.id (.cons ArgC.id (.cons ArgC.id .nil)))) lend_nil Try.call32 (Sort_c order (fan * maxC l + more) fan l hL (by first | omega | decide)) (.inl rfl)) ?_
      rintro _ _ ⟨_, ⟨v8, rfl, rfl⟩, rfl⟩
      refine OpsD.norm [.sl v8 2 34 ((sortL order (fan * maxC l + more) fan l).map RowD.d)] rfl ?_
      refine od_pu rfl rfl (p_move rfl) ?_
      refine od_pu rfl rfl (p_extract rfl rfl) ?_
      refine od_pu rfl rfl (p_extract rfl rfl) ?_
      refine od_pu rfl rfl (p_extract rfl rfl) ?_
      refine od_step rfl rfl (ef_alloc (zv := (.agg #[(.int .i64 0), (.int .i64 0), (.int .i64 0)])) Try.zeroValue59 ⟨rfl, rfl, rfl, trivial⟩ (Cv.vagg (by decide))) ?_
      rintro _ _ ⟨g9, rfl, rfl⟩
      refine od_pu rfl rfl (p_assign rfl) ?_
      refine od_step rfl rfl (ef_store_bx (i := 0) (X' := RepD.d (sortP order (fan * maxC l + more) fan l)) rfl rfl rfl (CellD.agg) Try.sizeOf59 rfl rfl rfl) ?_
      rintro _ _ ⟨rfl, rfl⟩
      refine OpsD.norm [.bx g9 59 (RepD.d (sortP order (fan * maxC l + more) fan l)), .sl v8 2 34 ((sortL order (fan * maxC l + more) fan l).map RowD.d)] rfl ?_
      refine od_pu rfl rfl (p_assign rfl) ?_
      refine od_nil rfl ?_
      refine pd_seq ?_
      refine JD.keep [1, 3, 8, 9, 10, 11, 12] [(1, .sh 2 (l.map RowD.d)), (3, .v (.int .i64 fan)), (8, .v (.bool false)), (9, .v (.int .i64 (fan * maxC l + more))), (10, .ov v8), (11, .v (.pointer (some ⟨g9, 0, none⟩))), (12, .v (.int .i64 (sortE (fan * maxC l + more) fan l)))] rfl ?_
      refine jd_seq [true, true, true, true, false] [true, true, true, true, true] rfl rfl rfl ?_
      refine jd_seq [true, true, true, true, false, false] [true, true, true, true, false, true] rfl rfl rfl ?_
      refine JD.keep [1, 3, 8, 9, 10, 11, 12] [(1, .sh 2 (l.map RowD.d)), (3, .v (.int .i64 fan)), (8, .v (.bool false)), (9, .v (.int .i64 (fan * maxC l + more))), (10, .ov v8), (11, .v (.pointer (some ⟨g9, 0, none⟩))), (12, .v (.int .i64 (sortE (fan * maxC l + more) fan l)))] rfl ?_
      refine jd_sum 84 (((((decide (sortE (fan * maxC l + more) fan l ≠ (0 : Int)) || decide ((((sortL order (fan * maxC l + more) fan l).length : Nat) : Int) ≠ ((l.length : Nat) : Int))) || decide (((l.length : Nat) : Int) < (sortP order (fan * maxC l + more) fan l).nr)) || (decide ((sortP order (fan * maxC l + more) fan l).nr = (0 : Int)) != decide (((l.length : Nat) : Int) = (0 : Int)))) || decide ((fan * maxC l + more) < (sortP order (fan * maxC l + more) fan l).hi))) [.bx g9 59 (RepD.d (sortP order (fan * maxC l + more) fan l)), .sl v8 2 34 ((sortL order (fan * maxC l + more) fan l).map RowD.d)] (fun _ hQ10 => ?_) ?_
      · skip
        by_cases hg11 : sortE (fan * maxC l + more) fan l ≠ (0 : Int)
        · skip
          refine jd_region rfl ?_
          refine od_pu rfl rfl (p_move rfl) ?_
          refine od_pu rfl rfl (p_neq rfl rfl (decide_eq_true hg11)) ?_
          refine od_pu rfl rfl (p_move rfl) ?_
          refine od_skip rfl rfl rfl rfl rfl (by decide) ?_
          refine od_skip rfl rfl rfl rfl rfl (by decide) ?_
          refine od_skip rfl rfl rfl rfl rfl (by decide) ?_
          refine od_skip rfl rfl rfl rfl rfl (by decide) ?_
          refine od_skip rfl rfl rfl rfl rfl (by decide) ?_
          refine od_pu rfl rfl (p_pick_t rfl rfl) ?_
          refine od_pu rfl rfl (p_move rfl) ?_
          refine od_skip rfl rfl rfl rfl rfl (by decide) ?_
          refine od_skip rfl rfl rfl rfl rfl (by decide) ?_
          refine od_skip rfl rfl rfl rfl rfl (by decide) ?_
          refine od_skip rfl rfl rfl rfl rfl (by decide) ?_
          refine od_skip rfl rfl rfl rfl rfl (by decide) ?_
          refine od_pu rfl rfl (p_pick_t rfl rfl) ?_
          refine od_pu rfl rfl (p_move rfl) ?_
          refine od_skip rfl rfl rfl rfl rfl (by decide) ?_
          refine od_skip rfl rfl rfl rfl rfl (by decide) ?_
          refine od_skip rfl rfl rfl rfl rfl (by decide) ?_
          refine od_skip rfl rfl rfl rfl rfl (by decide) ?_
          refine od_skip rfl rfl rfl rfl rfl (by decide) ?_
          refine od_skip rfl rfl rfl rfl rfl (by decide) ?_
          refine od_skip rfl rfl rfl rfl rfl (by decide) ?_
          refine od_pu rfl rfl (p_pick_t rfl rfl) ?_
          refine od_pu rfl rfl (p_move rfl) ?_
          refine od_skip rfl rfl rfl rfl rfl (by decide) ?_
          refine od_skip rfl rfl rfl rfl rfl (by decide) ?_
          refine od_skip rfl rfl rfl rfl rfl (by decide) ?_
          refine od_skip rfl rfl rfl rfl rfl (by decide) ?_
          refine od_pu rfl rfl (p_pick_t rfl rfl) ?_
          refine od_nil rfl ?_
          exact PD.sub ((84, .v (.bool ((((decide (sortE (fan * maxC l + more) fan l ≠ (0 : Int)) || decide ((((sortL order (fan * maxC l + more) fan l).length : Nat) : Int) ≠ ((l.length : Nat) : Int))) || decide (((l.length : Nat) : Int) < (sortP order (fan * maxC l + more) fan l).nr)) || (decide ((sortP order (fan * maxC l + more) fan l).nr = (0 : Int)) != decide (((l.length : Nat) : Int) = (0 : Int)))) || decide ((fan * maxC l + more) < (sortP order (fan * maxC l + more) fan l).hi)))) :: [(1, .sh 2 (l.map RowD.d)), (3, .v (.int .i64 fan)), (8, .v (.bool false)), (9, .v (.int .i64 (fan * maxC l + more))), (10, .ov v8), (11, .v (.pointer (some ⟨g9, 0, none⟩))), (12, .v (.int .i64 (sortE (fan * maxC l + more) fan l)))]) ⟨sc rfl (Cv.eq (congrArg (fun b => D.v (.bool b)) (by first | (simp [hg11]; done) | (simp only [decide_eq_true hg11, Bool.or_true, Bool.true_or, Bool.or_false, Bool.false_or, Bool.and_true, Bool.true_and, Bool.and_false, Bool.false_and]; done) | (simp_all; done)))), sk rfl, sk rfl, sk rfl, sk rfl, sk rfl, sk rfl, sk rfl, trivial⟩ hQ10
        · skip
          by_cases hg12 : (((sortL order (fan * maxC l + more) fan l).length : Nat) : Int) ≠ ((l.length : Nat) : Int)
          · skip
            refine jd_region rfl ?_
            refine od_pu rfl rfl (p_move rfl) ?_
            refine od_pu rfl rfl (p_neq rfl rfl (decide_eq_false hg11)) ?_
            refine od_pu rfl rfl (p_move rfl) ?_
            refine od_runp rfl rfl rfl rfl rfl (p_move rfl) ?_
            refine od_runp rfl rfl rfl rfl rfl (p_len_own (n := (sortL order (fan * maxC l + more) fan l).length) (j := 1) rfl rfl Try.runUnderlying27 (List.length_map _)) ?_
            refine od_runp rfl rfl rfl rfl rfl (p_move rfl) ?_
            refine od_runp rfl rfl rfl rfl rfl (p_len (n := l.length) rfl Try.runUnderlying27 (by simp only [List.length_map, List.length_cons, List.length_nil])) ?_
            refine od_runp rfl rfl rfl rfl rfl (p_neq rfl rfl (decide_eq_true hg12)) ?_
            refine od_pu rfl rfl (p_pick_f rfl rfl) ?_
            refine od_pu rfl rfl (p_move rfl) ?_
            refine od_skip rfl rfl rfl rfl rfl (by decide) ?_
            refine od_skip rfl rfl rfl rfl rfl (by decide) ?_
            refine od_skip rfl rfl rfl rfl rfl (by decide) ?_
            refine od_skip rfl rfl rfl rfl rfl (by decide) ?_
            refine od_skip rfl rfl rfl rfl rfl (by decide) ?_
            refine od_pu rfl rfl (p_pick_t rfl rfl) ?_
            refine od_pu rfl rfl (p_move rfl) ?_
            refine od_skip rfl rfl rfl rfl rfl (by decide) ?_
            refine od_skip rfl rfl rfl rfl rfl (by decide) ?_
            refine od_skip rfl rfl rfl rfl rfl (by decide) ?_
            refine od_skip rfl rfl rfl rfl rfl (by decide) ?_
            refine od_skip rfl rfl rfl rfl rfl (by decide) ?_
            refine od_skip rfl rfl rfl rfl rfl (by decide) ?_
            refine od_skip rfl rfl rfl rfl rfl (by decide) ?_
            refine od_pu rfl rfl (p_pick_t rfl rfl) ?_
            refine od_pu rfl rfl (p_move rfl) ?_
            refine od_skip rfl rfl rfl rfl rfl (by decide) ?_
            refine od_skip rfl rfl rfl rfl rfl (by decide) ?_
            refine od_skip rfl rfl rfl rfl rfl (by decide) ?_
            refine od_skip rfl rfl rfl rfl rfl (by decide) ?_
            refine od_pu rfl rfl (p_pick_t rfl rfl) ?_
            refine od_nil rfl ?_
            exact PD.sub ((84, .v (.bool ((((decide (sortE (fan * maxC l + more) fan l ≠ (0 : Int)) || decide ((((sortL order (fan * maxC l + more) fan l).length : Nat) : Int) ≠ ((l.length : Nat) : Int))) || decide (((l.length : Nat) : Int) < (sortP order (fan * maxC l + more) fan l).nr)) || (decide ((sortP order (fan * maxC l + more) fan l).nr = (0 : Int)) != decide (((l.length : Nat) : Int) = (0 : Int)))) || decide ((fan * maxC l + more) < (sortP order (fan * maxC l + more) fan l).hi)))) :: [(1, .sh 2 (l.map RowD.d)), (3, .v (.int .i64 fan)), (8, .v (.bool false)), (9, .v (.int .i64 (fan * maxC l + more))), (10, .ov v8), (11, .v (.pointer (some ⟨g9, 0, none⟩))), (12, .v (.int .i64 (sortE (fan * maxC l + more) fan l)))]) ⟨sc rfl (Cv.eq (congrArg (fun b => D.v (.bool b)) (by first | (simp [hg11, hg12]; done) | (simp only [decide_eq_false hg11, decide_eq_true hg12, Bool.or_true, Bool.true_or, Bool.or_false, Bool.false_or, Bool.and_true, Bool.true_and, Bool.and_false, Bool.false_and]; done) | (simp_all; done)))), sk rfl, sk rfl, sk rfl, sk rfl, sk rfl, sk rfl, sk rfl, trivial⟩ hQ10
          · skip
            by_cases hg13 : ((l.length : Nat) : Int) < (sortP order (fan * maxC l + more) fan l).nr
            · skip
              refine jd_region rfl ?_
              refine od_pu rfl rfl (p_move rfl) ?_
              refine od_pu rfl rfl (p_neq rfl rfl (decide_eq_false hg11)) ?_
              refine od_pu rfl rfl (p_move rfl) ?_
              refine od_runp rfl rfl rfl rfl rfl (p_move rfl) ?_
              refine od_runp rfl rfl rfl rfl rfl (p_len_own (n := (sortL order (fan * maxC l + more) fan l).length) (j := 1) rfl rfl Try.runUnderlying27 (List.length_map _)) ?_
              refine od_runp rfl rfl rfl rfl rfl (p_move rfl) ?_
              refine od_runp rfl rfl rfl rfl rfl (p_len (n := l.length) rfl Try.runUnderlying27 (by simp only [List.length_map, List.length_cons, List.length_nil])) ?_
              refine od_runp rfl rfl rfl rfl rfl (p_neq rfl rfl (decide_eq_false hg12)) ?_
              refine od_pu rfl rfl (p_pick_f rfl rfl) ?_
              refine od_pu rfl rfl (p_move rfl) ?_
              refine od_runp rfl rfl rfl rfl rfl (p_fieldAddr rfl fa_59_0 rfl) ?_
              refine od_runp rfl rfl rfl rfl rfl (p_load_bx1 rfl (i := 0) rfl Try.isAgg3 rfl) ?_
              refine od_runp rfl rfl rfl rfl rfl (p_move rfl) ?_
              refine od_runp rfl rfl rfl rfl rfl (p_len (n := l.length) rfl Try.runUnderlying27 (by simp only [List.length_map, List.length_cons, List.length_nil])) ?_
              refine od_runp rfl rfl rfl rfl rfl (p_gtr rfl rfl (decide_eq_true hg13)) ?_
              refine od_pu rfl rfl (p_pick_f rfl rfl) ?_
              refine od_pu rfl rfl (p_move rfl) ?_
              refine od_skip rfl rfl rfl rfl rfl (by decide) ?_
              refine od_skip rfl rfl rfl rfl rfl (by decide) ?_
              refine od_skip rfl rfl rfl rfl rfl (by decide) ?_
              refine od_skip rfl rfl rfl rfl rfl (by decide) ?_
              refine od_skip rfl rfl rfl rfl rfl (by decide) ?_
              refine od_skip rfl rfl rfl rfl rfl (by decide) ?_
              refine od_skip rfl rfl rfl rfl rfl (by decide) ?_
              refine od_pu rfl rfl (p_pick_t rfl rfl) ?_
              refine od_pu rfl rfl (p_move rfl) ?_
              refine od_skip rfl rfl rfl rfl rfl (by decide) ?_
              refine od_skip rfl rfl rfl rfl rfl (by decide) ?_
              refine od_skip rfl rfl rfl rfl rfl (by decide) ?_
              refine od_skip rfl rfl rfl rfl rfl (by decide) ?_
              refine od_pu rfl rfl (p_pick_t rfl rfl) ?_
              refine od_nil rfl ?_
              exact PD.sub ((84, .v (.bool ((((decide (sortE (fan * maxC l + more) fan l ≠ (0 : Int)) || decide ((((sortL order (fan * maxC l + more) fan l).length : Nat) : Int) ≠ ((l.length : Nat) : Int))) || decide (((l.length : Nat) : Int) < (sortP order (fan * maxC l + more) fan l).nr)) || (decide ((sortP order (fan * maxC l + more) fan l).nr = (0 : Int)) != decide (((l.length : Nat) : Int) = (0 : Int)))) || decide ((fan * maxC l + more) < (sortP order (fan * maxC l + more) fan l).hi)))) :: [(1, .sh 2 (l.map RowD.d)), (3, .v (.int .i64 fan)), (8, .v (.bool false)), (9, .v (.int .i64 (fan * maxC l + more))), (10, .ov v8), (11, .v (.pointer (some ⟨g9, 0, none⟩))), (12, .v (.int .i64 (sortE (fan * maxC l + more) fan l)))]) ⟨sc rfl (Cv.eq (congrArg (fun b => D.v (.bool b)) (by first | (simp [hg11, hg12, hg13]; done) | (simp only [decide_eq_false hg11, decide_eq_false hg12, decide_eq_true hg13, Bool.or_true, Bool.true_or, Bool.or_false, Bool.false_or, Bool.and_true, Bool.true_and, Bool.and_false, Bool.false_and]; done) | (simp_all; done)))), sk rfl, sk rfl, sk rfl, sk rfl, sk rfl, sk rfl, sk rfl, trivial⟩ hQ10
            · skip
              rcases Bool.eq_false_or_eq_true ((decide ((sortP order (fan * maxC l + more) fan l).nr = (0 : Int)) != decide (((l.length : Nat) : Int) = (0 : Int)))) with hg14 | hg14
              · skip
                refine jd_region rfl ?_
                refine od_pu rfl rfl (p_move rfl) ?_
                refine od_pu rfl rfl (p_neq rfl rfl (decide_eq_false hg11)) ?_
                refine od_pu rfl rfl (p_move rfl) ?_
                refine od_runp rfl rfl rfl rfl rfl (p_move rfl) ?_
                refine od_runp rfl rfl rfl rfl rfl (p_len_own (n := (sortL order (fan * maxC l + more) fan l).length) (j := 1) rfl rfl Try.runUnderlying27 (List.length_map _)) ?_
                refine od_runp rfl rfl rfl rfl rfl (p_move rfl) ?_
                refine od_runp rfl rfl rfl rfl rfl (p_len (n := l.length) rfl Try.runUnderlying27 (by simp only [List.length_map, List.length_cons, List.length_nil])) ?_
                refine od_runp rfl rfl rfl rfl rfl (p_neq rfl rfl (decide_eq_false hg12)) ?_
                refine od_pu rfl rfl (p_pick_f rfl rfl) ?_
                refine od_pu rfl rfl (p_move rfl) ?_
                refine od_runp rfl rfl rfl rfl rfl (p_fieldAddr rfl fa_59_0 rfl) ?_
                refine od_runp rfl rfl rfl rfl rfl (p_load_bx1 rfl (i := 0) rfl Try.isAgg3 rfl) ?_
                refine od_runp rfl rfl rfl rfl rfl (p_move rfl) ?_
                refine od_runp rfl rfl rfl rfl rfl (p_len (n := l.length) rfl Try.runUnderlying27 (by simp only [List.length_map, List.length_cons, List.length_nil])) ?_
                refine od_runp rfl rfl rfl rfl rfl (p_gtr rfl rfl (decide_eq_false hg13)) ?_
                refine od_pu rfl rfl (p_pick_f rfl rfl) ?_
                refine od_pu rfl rfl (p_move rfl) ?_
                refine od_runp rfl rfl rfl rfl rfl (p_fieldAddr rfl fa_59_0 rfl) ?_
                refine od_runp rfl rfl rfl rfl rfl (p_load_bx1 rfl (i := 0) rfl Try.isAgg3 rfl) ?_
                refine od_runp rfl rfl rfl rfl rfl (p_eql rfl rfl rfl) ?_
                refine od_runp rfl rfl rfl rfl rfl (p_move rfl) ?_
                refine od_runp rfl rfl rfl rfl rfl (p_len (n := l.length) rfl Try.runUnderlying27 (by simp only [List.length_map, List.length_cons, List.length_nil])) ?_
                refine od_runp rfl rfl rfl rfl rfl (p_eql rfl rfl rfl) ?_
                refine od_runp rfl rfl rfl rfl rfl ((p_bin rfl rfl (eqb_4_neq _ _ _ _)).cv (Cv.eq (congrArg (fun b => D.v (.bool b)) hg14))) ?_
                refine od_pu rfl rfl (p_pick_f rfl rfl) ?_
                refine od_pu rfl rfl (p_move rfl) ?_
                refine od_skip rfl rfl rfl rfl rfl (by decide) ?_
                refine od_skip rfl rfl rfl rfl rfl (by decide) ?_
                refine od_skip rfl rfl rfl rfl rfl (by decide) ?_
                refine od_skip rfl rfl rfl rfl rfl (by decide) ?_
                refine od_pu rfl rfl (p_pick_t rfl rfl) ?_
                refine od_nil rfl ?_
                exact PD.sub ((84, .v (.bool ((((decide (sortE (fan * maxC l + more) fan l ≠ (0 : Int)) || decide ((((sortL order (fan * maxC l + more) fan l).length : Nat) : Int) ≠ ((l.length : Nat) : Int))) || decide (((l.length : Nat) : Int) < (sortP order (fan * maxC l + more) fan l).nr)) || (decide ((sortP order (fan * maxC l + more) fan l).nr = (0 : Int)) != decide (((l.length : Nat) : Int) = (0 : Int)))) || decide ((fan * maxC l + more) < (sortP order (fan * maxC l + more) fan l).hi)))) :: [(1, .sh 2 (l.map RowD.d)), (3, .v (.int .i64 fan)), (8, .v (.bool false)), (9, .v (.int .i64 (fan * maxC l + more))), (10, .ov v8), (11, .v (.pointer (some ⟨g9, 0, none⟩))), (12, .v (.int .i64 (sortE (fan * maxC l + more) fan l)))]) ⟨sc rfl (Cv.eq (congrArg (fun b => D.v (.bool b)) (by first | (simp [hg11, hg12, hg13, hg14]; done) | (simp only [decide_eq_false hg11, decide_eq_false hg12, decide_eq_false hg13, hg14, Bool.or_true, Bool.true_or, Bool.or_false, Bool.false_or, Bool.and_true, Bool.true_and, Bool.and_false, Bool.false_and]; done) | (simp_all; done)))), sk rfl, sk rfl, sk rfl, sk rfl, sk rfl, sk rfl, sk rfl, trivial⟩ hQ10
              · skip
                refine jd_region rfl ?_
                refine od_pu rfl rfl (p_move rfl) ?_
                refine od_pu rfl rfl (p_neq rfl rfl (decide_eq_false hg11)) ?_
                refine od_pu rfl rfl (p_move rfl) ?_
                refine od_runp rfl rfl rfl rfl rfl (p_move rfl) ?_
                refine od_runp rfl rfl rfl rfl rfl (p_len_own (n := (sortL order (fan * maxC l + more) fan l).length) (j := 1) rfl rfl Try.runUnderlying27 (List.length_map _)) ?_
                refine od_runp rfl rfl rfl rfl rfl (p_move rfl) ?_
                refine od_runp rfl rfl rfl rfl rfl (p_len (n := l.length) rfl Try.runUnderlying27 (by simp only [List.length_map, List.length_cons, List.length_nil])) ?_
                refine od_runp rfl rfl rfl rfl rfl (p_neq rfl rfl (decide_eq_false hg12)) ?_
                refine od_pu rfl rfl (p_pick_f rfl rfl) ?_
                refine od_pu rfl rfl (p_move rfl) ?_
                refine od_runp rfl rfl rfl rfl rfl (p_fieldAddr rfl fa_59_0 rfl) ?_
                refine od_runp rfl rfl rfl rfl rfl (p_load_bx1 rfl (i := 0) rfl Try.isAgg3 rfl) ?_
                refine od_runp rfl rfl rfl rfl rfl (p_move rfl) ?_
                refine od_runp rfl rfl rfl rfl rfl (p_len (n := l.length) rfl Try.runUnderlying27 (by simp only [List.length_map, List.length_cons, List.length_nil])) ?_
                refine od_runp rfl rfl rfl rfl rfl (p_gtr rfl rfl (decide_eq_false hg13)) ?_
                refine od_pu rfl rfl (p_pick_f rfl rfl) ?_
                refine od_pu rfl rfl (p_move rfl) ?_
                refine od_runp rfl rfl rfl rfl rfl (p_fieldAddr rfl fa_59_0 rfl) ?_
                refine od_runp rfl rfl rfl rfl rfl (p_load_bx1 rfl (i := 0) rfl Try.isAgg3 rfl) ?_
                refine od_runp rfl rfl rfl rfl rfl (p_eql rfl rfl rfl) ?_
                refine od_runp rfl rfl rfl rfl rfl (p_move rfl) ?_
                refine od_runp rfl rfl rfl rfl rfl (p_len (n := l.length) rfl Try.runUnderlying27 (by simp only [List.length_map, List.length_cons, List.length_nil])) ?_
                refine od_runp rfl rfl rfl rfl rfl (p_eql rfl rfl rfl) ?_
                refine od_runp rfl rfl rfl rfl rfl ((p_bin rfl rfl (eqb_4_neq _ _ _ _)).cv (Cv.eq (congrArg (fun b => D.v (.bool b)) hg14))) ?_
                refine od_pu rfl rfl (p_pick_f rfl rfl) ?_
                refine od_pu rfl rfl (p_move rfl) ?_
                refine od_runp rfl rfl rfl rfl rfl (p_fieldAddr rfl fa_59_2 rfl) ?_
                refine od_runp rfl rfl rfl rfl rfl (p_load_bx1 rfl (i := 0) rfl Try.isAgg3 rfl) ?_
                refine od_runp rfl rfl rfl rfl rfl (p_move rfl) ?_
                refine od_runp rfl rfl rfl rfl rfl (p_gtr rfl rfl rfl) ?_
                refine od_pu rfl rfl (p_pick_f rfl rfl) ?_
                refine od_nil rfl ?_
                exact PD.sub ((84, .v (.bool ((((decide (sortE (fan * maxC l + more) fan l ≠ (0 : Int)) || decide ((((sortL order (fan * maxC l + more) fan l).length : Nat) : Int) ≠ ((l.length : Nat) : Int))) || decide (((l.length : Nat) : Int) < (sortP order (fan * maxC l + more) fan l).nr)) || (decide ((sortP order (fan * maxC l + more) fan l).nr = (0 : Int)) != decide (((l.length : Nat) : Int) = (0 : Int)))) || decide ((fan * maxC l + more) < (sortP order (fan * maxC l + more) fan l).hi)))) :: [(1, .sh 2 (l.map RowD.d)), (3, .v (.int .i64 fan)), (8, .v (.bool false)), (9, .v (.int .i64 (fan * maxC l + more))), (10, .ov v8), (11, .v (.pointer (some ⟨g9, 0, none⟩))), (12, .v (.int .i64 (sortE (fan * maxC l + more) fan l)))]) ⟨sc rfl (Cv.eq (congrArg (fun b => D.v (.bool b)) (by first | (simp [hg11, hg12, hg13, hg14]; done) | (simp only [decide_eq_false hg11, decide_eq_false hg12, decide_eq_false hg13, hg14, Bool.or_true, Bool.true_or, Bool.or_false, Bool.false_or, Bool.and_true, Bool.true_and, Bool.and_false, Bool.false_and]; done) | (simp_all; done)))), sk rfl, sk rfl, sk rfl, sk rfl, sk rfl, sk rfl, sk rfl, trivial⟩ hQ10
      · skip
        refine pd_seq ?_
        refine jd_cond [true, true, true, true, false, true, false] [true, true, true, true, false, true, true] rfl rfl rfl rfl (fun hc15 => ?_) (fun hc15 => ?_)
        · simp only [Bool.and_eq_true, Bool.or_eq_true, Bool.not_eq_true', Bool.not_eq_false', Bool.and_eq_false_iff, Bool.or_eq_false_iff, decide_eq_true_eq, decide_eq_false_iff_not, Decidable.not_not, ne_eq] at hc15
          exfalso; exact merges_dead Dn hc15
        · simp only [Bool.and_eq_true, Bool.or_eq_true, Bool.not_eq_true', Bool.not_eq_false', Bool.and_eq_false_iff, Bool.or_eq_false_iff, decide_eq_true_eq, decide_eq_false_iff_not, Decidable.not_not, ne_eq] at hc15
          refine jd_skip rfl ?_
          refine pd_seq ?_
          refine jd_seq [true, true, true, true, true, false] [true, true, true, true, true, true] rfl rfl rfl ?_
          refine jd_region rfl ?_
          refine od_pu rfl rfl (p_assign rfl) ?_
          refine od_nil rfl ?_
          refine pd_seq ?_
          refine jd_seq [true, true, true, true, true, true, false] [true, true, true, true, true, true, true] rfl rfl rfl ?_
          refine jd_seq [true, true, true, true, true, true, false, false] [true, true, true, true, true, true, false, true] rfl rfl rfl ?_
          refine jd_region rfl ?_
          refine od_pu rfl rfl (p_fieldAddr rfl fa_59_0 rfl) ?_
          refine od_pu rfl rfl (p_load_bx1 rfl (i := 0) rfl Try.isAgg3 rfl) ?_
          refine od_pu rfl rfl (p_gtr rfl rfl rfl) ?_
          refine od_nil rfl ?_
          refine pd_seq ?_
          refine jd_join (fun (g : Int) => [(1, .sh 2 (l.map RowD.d)), (3, .v (.int .i64 fan)), (8, .v (.bool false)), (11, .v (.pointer (some ⟨g9, 0, none⟩))), (13, .v (.int .i64 g))]) (fun (g : Int) => [.bx g9 59 (RepD.d (sortP order (fan * maxC l + more) fan l)), .sl v8 2 34 ((sortL order (fan * maxC l + more) fan l).map RowD.d)]) (fun (g : Int) => ((sortP order (fan * maxC l + more) fan l).nm = g)) (fun _ hQ16 => ?_) ?_
          · skip
            refine jd_cond [true, true, true, true, true, true, false, true, false] [true, true, true, true, true, true, false, true, true] rfl rfl rfl rfl (fun hc17 => ?_) (fun hc17 => ?_)
            · replace hc17 := of_decide_eq_true hc17
              refine jd_region rfl ?_
              refine od_pu rfl rfl (p_fieldAddr rfl fa_59_0 rfl) ?_
              refine od_pu rfl rfl (p_load_bx1 rfl (i := 0) rfl Try.isAgg3 rfl) ?_
              refine od_pu rfl rfl (p_sub (c := ((sortP order (fan * maxC l + more) fan l).nr - 1)) rfl rfl (w64eq (by omega) (by omega))) ?_
              refine od_pu rfl rfl (p_move rfl) ?_
              refine od_pu rfl rfl (p_add (c := (((sortP order (fan * maxC l + more) fan l).nr - 1) + fan)) rfl rfl (w64eq (by omega) (by omega))) ?_
              refine od_pu rfl rfl (p_sub (c := ((((sortP order (fan * maxC l + more) fan l).nr - 1) + fan) - 2)) rfl rfl (w64eq (by omega) (by omega))) ?_
              refine od_pu rfl rfl (p_move rfl) ?_
              refine od_pu rfl rfl (p_sub (c := (fan - 1)) rfl rfl (w64eq (by omega) (by omega))) ?_
              have ht18 := tdiv_bd18 ((((sortP order (fan * maxC l + more) fan l).nr - 1) + fan) - 2) (fan - 1) (by omega) (by omega) (by omega)
              refine od_pu rfl rfl (p_quo (c := (Int.tdiv ((((sortP order (fan * maxC l + more) fan l).nr - 1) + fan) - 2) (fan - 1))) rfl rfl (by omega) (w64eq rfl (by omega))) ?_
              refine od_pu rfl rfl (p_assign rfl) ?_
              refine od_nil rfl ?_
              exact PD.sub [(1, .sh 2 (l.map RowD.d)), (3, .v (.int .i64 fan)), (8, .v (.bool false)), (11, .v (.pointer (some ⟨g9, 0, none⟩))), (13, .v (.int .i64 (Int.tdiv ((((sortP order (fan * maxC l + more) fan l).nr - 1) + fan) - 2) (fan - 1))))] ⟨sk rfl, sk rfl, sk rfl, sk rfl, sk rfl, trivial⟩ (hQ16 (Int.tdiv ((((sortP order (fan * maxC l + more) fan l).nr - 1) + fan) - 2) (fan - 1)) (by rw [d3, if_pos (by assumption)]))
            · replace hc17 := of_decide_eq_false hc17
              refine jd_skip rfl ?_
              exact PD.sub [(1, .sh 2 (l.map RowD.d)), (3, .v (.int .i64 fan)), (8, .v (.bool false)), (11, .v (.pointer (some ⟨g9, 0, none⟩))), (13, .v (.int .i64 0))] ⟨sk rfl, sk rfl, sk rfl, sk rfl, sk rfl, trivial⟩ (hQ16 0 (by rw [d3, if_neg (by assumption)]))
          · skip
            rintro w hw
            refine PD.keep [1, 3, 8, 11, 13] [(1, .sh 2 (l.map RowD.d)), (3, .v (.int .i64 fan)), (8, .v (.bool false)), (11, .v (.pointer (some ⟨g9, 0, none⟩))), (13, .v (.int .i64 w))] rfl ?_
            refine PD.norm [.bx g9 59 (RepD.d (sortP order (fan * maxC l + more) fan l)), .sl v8 2 34 ((sortL order (fan * maxC l + more) fan l).map RowD.d)] rfl ?_
            refine pd_seq ?_
            refine jd_seq [true, true, true, true, true, true, true, false] [true, true, true, true, true, true, true, true] rfl rfl rfl ?_
            refine jd_region rfl ?_
            refine od_pu rfl rfl (p_assign rfl) ?_
            refine od_nil rfl ?_
            refine pd_seq ?_
            refine jd_seq [true, true, true, true, true, true, true, true, false] [true, true, true, true, true, true, true, true, true] rfl rfl rfl ?_
            refine jd_seq [true, true, true, true, true, true, true, true, false, false] [true, true, true, true, true, true, true, true, false, true] rfl rfl rfl ?_
            refine jd_region rfl ?_
            refine od_pu rfl rfl (p_assign rfl) ?_
            refine od_nil rfl ?_
            refine pd_seq ?_
            refine jd_block [true, true, true, true, true, true, true, true, false, true, false] rfl rfl ?_
            refine jd_loop (fun (g : Nat) => [(1, .sh 2 (l.map RowD.d)), (3, .v (.int .i64 fan)), (8, .v (.bool false)), (11, .v (.pointer (some ⟨g9, 0, none⟩))), (13, .v (.int .i64 w)), (14, .v (.int .i64 (maxC (l.take g)))), (15, .v (.int .i64 ((g : Nat) : Int)))]) (fun (g : Nat) => [.bx g9 59 (RepD.d (sortP order (fan * maxC l + more) fan l)), .sl v8 2 34 ((sortL order (fan * maxC l + more) fan l).map RowD.d)]) (fun (g : Nat) => (g ≤ l.length)) (fun (g : Nat) => l.length - g) [true, true, true, true, true, true, true, true, false, true, false, false] 0 rfl rfl ⟨sk rfl, sk rfl, sk rfl, sk rfl, sk rfl, sc rfl (Cv.eq (congrArg dI (by simp [maxC]))), sk rfl, trivial⟩ HSub.rfl' (Nat.zero_le _) ?_
            rintro k hkl
            refine JD.keep [1, 3, 8, 11, 13, 14, 15] [(1, .sh 2 (l.map RowD.d)), (3, .v (.int .i64 fan)), (8, .v (.bool false)), (11, .v (.pointer (some ⟨g9, 0, none⟩))), (13, .v (.int .i64 w)), (14, .v (.int .i64 (maxC (l.take k)))), (15, .v (.int .i64 ((k : Nat) : Int)))] rfl ?_
            refine JD.norm [.bx g9 59 (RepD.d (sortP order (fan * maxC l + more) fan l)), .sl v8 2 34 ((sortL order (fan * maxC l + more) fan l).map RowD.d)] rfl ?_
            refine jd_seq [true, true, true, true, true, true, true, true, false, true, false, false, false] [true, true, true, true, true, true, true, true, false, true, false, false, true] rfl rfl rfl ?_
            refine jd_seq [true, true, true, true, true, true, true, true, false, true, false, false, false, false] [true, true, true, true, true, true, true, true, false, true, false, false, false, true] rfl rfl rfl ?_
            refine jd_region rfl ?_
            refine od_pu rfl rfl (p_move rfl) ?_
            refine od_pu rfl rfl (p_move rfl) ?_
            refine od_pu rfl rfl (p_len (n := l.length) rfl Try.runUnderlying27 (by simp only [List.length_map, List.length_cons, List.length_nil])) ?_
            refine od_pu rfl rfl (p_lss rfl rfl rfl) ?_
            refine od_nil rfl ?_
            refine pd_seq ?_
            refine jd_cond [true, true, true, true, true, true, true, true, false, true, false, false, false, true, false] [true, true, true, true, true, true, true, true, false, true, false, false, false, true, true] rfl rfl rfl rfl (fun hc19 => ?_) (fun hc19 => ?_)
            · replace hc19 := of_decide_eq_true hc19
              refine jd_skip rfl ?_
              refine pd_seq ?_
              refine jd_seq [true, true, true, true, true, true, true, true, false, true, false, false, true, false] [true, true, true, true, true, true, true, true, false, true, false, false, true, true] rfl rfl rfl ?_
              refine jd_block [true, true, true, true, true, true, true, true, false, true, false, false, true, false, false] rfl rfl ?_
              refine jd_region rfl ?_
              refine od_pu rfl rfl (p_move rfl) ?_
              refine od_pu rfl rfl (p_move rfl) ?_
              refine od_pu rfl rfl (p_move rfl) ?_
              obtain ⟨x1, hx1⟩ := get_some l k (by omega)
              refine od_pu rfl rfl (p_indexAddr (k := k) rfl rfl Try.runUnderlying27 Try.sizeOf34 (by first | rfl | omega) (get_map hx1)) ?_
              refine od_pu rfl rfl (p_load_el (d := RowD.d x1) rfl Try.isAgg34 Try.sizeOf34 rfl rfl) ?_
              refine od_step rfl rfl (ef_call [] _ [] rfl rfl (.cons ArgC.id .nil) lend_nil Try.call33 (cost_c x1 (hL x1 (mem_get hx1))) (.inl rfl)) ?_
              rintro _ _ ⟨_, ⟨rfl, rfl⟩, rfl⟩
              refine OpsD.norm [.bx g9 59 (RepD.d (sortP order (fan * maxC l + more) fan l)), .sl v8 2 34 ((sortL order (fan * maxC l + more) fan l).map RowD.d)] rfl ?_
              refine od_pu rfl rfl (p_max rfl rfl rfl) ?_
              refine od_pu rfl rfl (p_assign rfl) ?_
              refine od_nil rfl ?_
              refine pd_block ?_
              refine pd_seq ?_
              refine jd_region rfl ?_
              refine od_pu rfl rfl (p_move rfl) ?_
              refine od_pu rfl rfl (p_add (c := ((k + 1 : Nat) : Int)) rfl rfl (w64eq (by omega) (by omega))) ?_
              refine od_pu rfl rfl (p_assign rfl) ?_
              refine od_nil rfl ?_
              exact pd_loop (k + 1) ⟨sk rfl, sk rfl, sk rfl, sk rfl, sk rfl, sc rfl (Cv.eq (congrArg dI (by rw [maxC_snoc hx1]))), sk rfl, trivial⟩ HSub.rfl' (by show k + 1 ≤ l.length; omega) (by omega)
            · replace hc19 := of_decide_eq_false hc19
              have hkk : l.take k = l := List.take_of_length_le (by omega)
              have hmul2 := hmul
              rw [← hkk] at hmul2
              refine jd_exit rfl ?_
              refine pd_seq_exit ?_
              refine pd_loop_exit ?_
              refine pd_block_exit ?_
              refine pd_seq ?_
              refine jd_seq [true, true, true, true, true, true, true, true, true, false] [true, true, true, true, true, true, true, true, true, true] rfl rfl rfl ?_
              refine JD.keep [1, 3, 11, 13, 14, 15, 97, 98, 99, 100] [(1, .sh 2 (l.map RowD.d)), (3, .v (.int .i64 fan)), (11, .v (.pointer (some ⟨g9, 0, none⟩))), (13, .v (.int .i64 w)), (14, .v (.int .i64 (maxC (l.take k)))), (15, .v (.int .i64 ((k : Nat) : Int))), (97, .v (.int .i64 ((k : Nat) : Int))), (98, .sh 2 (l.map RowD.d)), (99, .v (.int .i64 ((l.length : Nat) : Int))), (100, .v (.bool (decide (((k : Nat) : Int) < ((l.length : Nat) : Int)))))] rfl ?_
              refine jd_sum 8 (((decide ((sortP order (fan * maxC l + more) fan l).nm = w) && decide ((maxC (l.take k)) ≤ (sortP order (fan * maxC l + more) fan l).hi)) && decide (fan * maxC l = (fan * (maxC (l.take k)))))) [.bx g9 59 (RepD.d (sortP order (fan * maxC l + more) fan l)), .sl v8 2 34 ((sortL order (fan * maxC l + more) fan l).map RowD.d)] (fun _ hQ20 => ?_) ?_
              · skip
                by_cases hg21 : (sortP order (fan * maxC l + more) fan l).nm = w
                · skip
                  by_cases hg22 : (maxC (l.take k)) ≤ (sortP order (fan * maxC l + more) fan l).hi
                  · skip
                    refine jd_region rfl ?_
                    refine od_pu rfl rfl (p_fieldAddr rfl fa_59_1 rfl) ?_
                    refine od_pu rfl rfl (p_load_bx1 rfl (i := 0) rfl Try.isAgg3 rfl) ?_
                    refine od_pu rfl rfl (p_move rfl) ?_
                    refine od_pu rfl rfl (p_eql rfl rfl (decide_eq_true hg21)) ?_
                    refine od_pu rfl rfl (p_move rfl) ?_
                    refine od_runp rfl rfl rfl rfl rfl (p_fieldAddr rfl fa_59_2 rfl) ?_
                    refine od_runp rfl rfl rfl rfl rfl (p_load_bx1 rfl (i := 0) rfl Try.isAgg3 rfl) ?_
                    refine od_runp rfl rfl rfl rfl rfl (p_move rfl) ?_
                    refine od_runp rfl rfl rfl rfl rfl (p_geq rfl rfl (decide_eq_true hg22)) ?_
                    refine od_pu rfl rfl (p_pick_t rfl rfl) ?_
                    refine od_pu rfl rfl (p_move rfl) ?_
                    refine od_runp rfl rfl rfl rfl rfl (p_move rfl) ?_
                    refine od_runp rfl rfl rfl rfl rfl (p_move rfl) ?_
                    refine od_run rfl rfl rfl rfl rfl (ef_call [] _ [] rfl rfl (.cons ArgC.id (.cons ArgC.id .nil)) lend_nil Try.call31 (Least_c fan l (by omega) (by omega) hL) (.inl rfl)) ?_
                    rintro _ _ ⟨_, ⟨rfl, rfl⟩, rfl⟩
                    refine OpsD.norm [.bx g9 59 (RepD.d (sortP order (fan * maxC l + more) fan l)), .sl v8 2 34 ((sortL order (fan * maxC l + more) fan l).map RowD.d)] rfl ?_
                    refine od_runp rfl rfl rfl rfl rfl (p_move rfl) ?_
                    refine od_runp rfl rfl rfl rfl rfl (p_move rfl) ?_
                    refine od_runp rfl rfl rfl rfl rfl (p_mul (c := (fan * (maxC (l.take k)))) rfl rfl (w64eq (by omega) (by omega))) ?_
                    refine od_runp rfl rfl rfl rfl rfl (p_eql rfl rfl rfl) ?_
                    refine od_pu rfl rfl (p_pick_t rfl rfl) ?_
                    refine od_pu rfl rfl (p_assign rfl) ?_
                    refine od_nil rfl ?_
                    exact PD.sub ((8, .v (.bool ((decide ((sortP order (fan * maxC l + more) fan l).nm = w) && decide ((maxC (l.take k)) ≤ (sortP order (fan * maxC l + more) fan l).hi)) && decide (fan * maxC l = (fan * (maxC (l.take k))))))) :: [(1, .sh 2 (l.map RowD.d)), (3, .v (.int .i64 fan)), (11, .v (.pointer (some ⟨g9, 0, none⟩))), (13, .v (.int .i64 w)), (14, .v (.int .i64 (maxC (l.take k)))), (15, .v (.int .i64 ((k : Nat) : Int))), (97, .v (.int .i64 ((k : Nat) : Int))), (98, .sh 2 (l.map RowD.d)), (99, .v (.int .i64 ((l.length : Nat) : Int))), (100, .v (.bool (decide (((k : Nat) : Int) < ((l.length : Nat) : Int)))))]) ⟨sc rfl (Cv.eq (congrArg (fun b => D.v (.bool b)) (by first | (simp [hc19, hg21, hg22]; done) | (simp only [decide_eq_false hc19, decide_eq_true hg21, decide_eq_true hg22, Bool.or_true, Bool.true_or, Bool.or_false, Bool.false_or, Bool.and_true, Bool.true_and, Bool.and_false, Bool.false_and]; done) | (simp_all; done)))), sk rfl, sk rfl, sk rfl, sk rfl, sk rfl, sk rfl, sk rfl, sk rfl, sk rfl, sk rfl, trivial⟩ hQ20
                  · skip
                    refine jd_region rfl ?_
                    refine od_pu rfl rfl (p_fieldAddr rfl fa_59_1 rfl) ?_
                    refine od_pu rfl rfl (p_load_bx1 rfl (i := 0) rfl Try.isAgg3 rfl) ?_
                    refine od_pu rfl rfl (p_move rfl) ?_
                    refine od_pu rfl rfl (p_eql rfl rfl (decide_eq_true hg21)) ?_
                    refine od_pu rfl rfl (p_move rfl) ?_
                    refine od_runp rfl rfl rfl rfl rfl (p_fieldAddr rfl fa_59_2 rfl) ?_
                    refine od_runp rfl rfl rfl rfl rfl (p_load_bx1 rfl (i := 0) rfl Try.isAgg3 rfl) ?_
                    refine od_runp rfl rfl rfl rfl rfl (p_move rfl) ?_
                    refine od_runp rfl rfl rfl rfl rfl (p_geq rfl rfl (decide_eq_false hg22)) ?_
                    refine od_pu rfl rfl (p_pick_t rfl rfl) ?_
                    refine od_pu rfl rfl (p_move rfl) ?_
                    refine od_skip rfl rfl rfl rfl rfl (by decide) ?_
                    refine od_skip rfl rfl rfl rfl rfl (by decide) ?_
                    refine od_skip rfl rfl rfl rfl rfl (by decide) ?_
                    refine od_skip rfl rfl rfl rfl rfl (by decide) ?_
                    refine od_skip rfl rfl rfl rfl rfl (by decide) ?_
                    refine od_skip rfl rfl rfl rfl rfl (by decide) ?_
                    refine od_skip rfl rfl rfl rfl rfl (by decide) ?_
                    refine od_pu rfl rfl (p_pick_f rfl rfl) ?_
                    refine od_pu rfl rfl (p_assign rfl) ?_
                    refine od_nil rfl ?_
                    exact PD.sub ((8, .v (.bool ((decide ((sortP order (fan * maxC l + more) fan l).nm = w) && decide ((maxC (l.take k)) ≤ (sortP order (fan * maxC l + more) fan l).hi)) && decide (fan * maxC l = (fan * (maxC (l.take k))))))) :: [(1, .sh 2 (l.map RowD.d)), (3, .v (.int .i64 fan)), (11, .v (.pointer (some ⟨g9, 0, none⟩))), (13, .v (.int .i64 w)), (14, .v (.int .i64 (maxC (l.take k)))), (15, .v (.int .i64 ((k : Nat) : Int))), (97, .v (.int .i64 ((k : Nat) : Int))), (98, .sh 2 (l.map RowD.d)), (99, .v (.int .i64 ((l.length : Nat) : Int))), (100, .v (.bool (decide (((k : Nat) : Int) < ((l.length : Nat) : Int)))))]) ⟨sc rfl (Cv.eq (congrArg (fun b => D.v (.bool b)) (by first | (simp [hc19, hg21, hg22]; done) | (simp only [decide_eq_false hc19, decide_eq_true hg21, decide_eq_false hg22, Bool.or_true, Bool.true_or, Bool.or_false, Bool.false_or, Bool.and_true, Bool.true_and, Bool.and_false, Bool.false_and]; done) | (simp_all; done)))), sk rfl, sk rfl, sk rfl, sk rfl, sk rfl, sk rfl, sk rfl, sk rfl, sk rfl, sk rfl, trivial⟩ hQ20
                · skip
                  refine jd_region rfl ?_
                  refine od_pu rfl rfl (p_fieldAddr rfl fa_59_1 rfl) ?_
                  refine od_pu rfl rfl (p_load_bx1 rfl (i := 0) rfl Try.isAgg3 rfl) ?_
                  refine od_pu rfl rfl (p_move rfl) ?_
                  refine od_pu rfl rfl (p_eql rfl rfl (decide_eq_false hg21)) ?_
                  refine od_pu rfl rfl (p_move rfl) ?_
                  refine od_skip rfl rfl rfl rfl rfl (by decide) ?_
                  refine od_skip rfl rfl rfl rfl rfl (by decide) ?_
                  refine od_skip rfl rfl rfl rfl rfl (by decide) ?_
                  refine od_skip rfl rfl rfl rfl rfl (by decide) ?_
                  refine od_pu rfl rfl (p_pick_f rfl rfl) ?_
                  refine od_pu rfl rfl (p_move rfl) ?_
                  refine od_skip rfl rfl rfl rfl rfl (by decide) ?_
                  refine od_skip rfl rfl rfl rfl rfl (by decide) ?_
                  refine od_skip rfl rfl rfl rfl rfl (by decide) ?_
                  refine od_skip rfl rfl rfl rfl rfl (by decide) ?_
                  refine od_skip rfl rfl rfl rfl rfl (by decide) ?_
                  refine od_skip rfl rfl rfl rfl rfl (by decide) ?_
                  refine od_skip rfl rfl rfl rfl rfl (by decide) ?_
                  refine od_pu rfl rfl (p_pick_f rfl rfl) ?_
                  refine od_pu rfl rfl (p_assign rfl) ?_
                  refine od_nil rfl ?_
                  exact PD.sub ((8, .v (.bool ((decide ((sortP order (fan * maxC l + more) fan l).nm = w) && decide ((maxC (l.take k)) ≤ (sortP order (fan * maxC l + more) fan l).hi)) && decide (fan * maxC l = (fan * (maxC (l.take k))))))) :: [(1, .sh 2 (l.map RowD.d)), (3, .v (.int .i64 fan)), (11, .v (.pointer (some ⟨g9, 0, none⟩))), (13, .v (.int .i64 w)), (14, .v (.int .i64 (maxC (l.take k)))), (15, .v (.int .i64 ((k : Nat) : Int))), (97, .v (.int .i64 ((k : Nat) : Int))), (98, .sh 2 (l.map RowD.d)), (99, .v (.int .i64 ((l.length : Nat) : Int))), (100, .v (.bool (decide (((k : Nat) : Int) < ((l.length : Nat) : Int)))))]) ⟨sc rfl (Cv.eq (congrArg (fun b => D.v (.bool b)) (by first | (simp [hc19, hg21]; done) | (simp only [decide_eq_false hc19, decide_eq_false hg21, Bool.or_true, Bool.true_or, Bool.or_false, Bool.false_or, Bool.and_true, Bool.true_and, Bool.and_false, Bool.false_and]; done) | (simp_all; done)))), sk rfl, sk rfl, sk rfl, sk rfl, sk rfl, sk rfl, sk rfl, sk rfl, sk rfl, sk rfl, trivial⟩ hQ20
              · skip
                refine pd_seq ?_
                refine JD.keep [8] [(8, .v (.bool ((decide ((sortP order (fan * maxC l + more) fan l).nm = w) && decide ((maxC (l.take k)) ≤ (sortP order (fan * maxC l + more) fan l).hi)) && decide (fan * maxC l = (fan * (maxC (l.take k)))))))] rfl ?_
                refine jd_ret rfl ?_
                exact pd_retH Try.results7 (.cons (ro_cv (ro_tmp rfl) (Cv.eq (congrArg (fun b => D.v (.bool b)) (by rw [hkk, hw]; simp; omega)))) .nil) rfl HSub.none ⟨rfl, rfl⟩
end Lp
