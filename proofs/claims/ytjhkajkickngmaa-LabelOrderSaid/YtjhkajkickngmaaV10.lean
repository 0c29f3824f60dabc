/- Walks, printed by a program of mine (wip/tools/dw.py): each theorem says what a function of the translation hands back. -/
import Derived.Test.YtjhkajkickngmaaV2
import Derived.Test.YtjhkajkickngmaaV7
import Derived.Test.YtjhkajkickngmaaV9
import Derived.Test.YtjhkajkickngmaaPLaw2
set_option linter.unusedSimpArgs false
set_option linter.unusedVariables false
namespace Lp
open Go Go.RowKit Go.Proofs

namespace HdV10
theorem bd_74 : ∀ w, ((#[⟨"Name", 9, 0, false, "", "", 0⟩, ⟨"Value", 9, 1, false, "", "", 16⟩] : Array Field).mapM fun f => do pure (f.offset, ← Go.sizeOf f.type) : Sem (Array (Nat × Nat))).run Try.prog w = .ok ([(0, 1), (1, 1)] : List (Nat × Nat)).toArray w := fun _ => by kernel_rfl
end HdV10
open HdV10

set_option maxHeartbeats 4000000 in
set_option maxRecDepth 100000 in
theorem alive2_c   :
    CD Try.prog 35 [] [] (isR (dB true)) := by
  refine cd_of_JD Try.func35 rfl (N := 31) rfl rfl (fun C => ?_)
  refine JD.keep [] [] rfl ?_
  have hal : (tidyL [Lbl.mk (⟨#[98]⟩ : ByteArray) (⟨#[120]⟩ : ByteArray), Lbl.mk (⟨#[97]⟩ : ByteArray) (⟨#[121]⟩ : ByteArray)]).length = 2 := al_len
  refine jd_seq [false] [true] rfl rfl rfl ?_
  refine jd_region rfl ?_
  refine od_pu rfl rfl (p_assign rfl) ?_
  refine od_nil rfl ?_
  refine pd_seq ?_
  refine jd_seq [true, false] [true, true] rfl rfl rfl ?_
  refine jd_region rfl ?_
  refine od_pu rfl rfl (p_build [0, 1] [.const (.string (⟨#[98]⟩ : ByteArray)), .const (.string (⟨#[120]⟩ : ByteArray))] (zv := (.agg #[(.string ByteArray.empty), (.string ByteArray.empty)])) rfl rfl (.cons (CellD.v rfl) (.cons (CellD.v rfl) .nil)) (Try.runUnderlying74) Try.zeroValue74 bd_74 ⟨rfl, rfl, trivial⟩ rfl) ?_
  refine od_pu rfl rfl (p_build [0, 1] [.const (.string (⟨#[97]⟩ : ByteArray)), .const (.string (⟨#[121]⟩ : ByteArray))] (zv := (.agg #[(.string ByteArray.empty), (.string ByteArray.empty)])) rfl rfl (.cons (CellD.v rfl) (.cons (CellD.v rfl) .nil)) (Try.runUnderlying74) Try.zeroValue74 bd_74 ⟨rfl, rfl, trivial⟩ rfl) ?_
  refine od_step rfl rfl (ef_buildSlice [.tmp 4, .tmp 5] rfl rfl (.cons CellD.agg (.cons CellD.agg .nil)) rfl Try.runUnderlying32 Try.sizeOf74 Try.zeroValue74 rfl rfl rfl rfl) ?_
  rintro _ _ ⟨g1, rfl, rfl⟩
  refine OpsD.subH (HSub.turn (h' := .sl (.slice (some ⟨g1, 0, none⟩) 2 2) 2 74 ([(Lbl.mk (⟨#[98]⟩ : ByteArray) (⟨#[120]⟩ : ByteArray)), (Lbl.mk (⟨#[97]⟩ : ByteArray) (⟨#[121]⟩ : ByteArray))].map Lbl.d)) rfl (Hp.cvs_sl (.cons (Cv.agg (.cons ((Cv.str (by first | decide | (unfold maxLen; omega)))) (.cons ((Cv.str (by first | decide | (unfold maxLen; omega)))) .nil))) (.cons (Cv.agg (.cons ((Cv.str (by first | decide | (unfold maxLen; omega)))) (.cons ((Cv.str (by first | decide | (unfold maxLen; omega)))) .nil))) .nil)))) ?_
  refine od_step rfl rfl (ef_call [] _ [.sl (.slice (some ⟨g1, 0, none⟩) 2 2) 2 74 ([(Lbl.mk (⟨#[98]⟩ : ByteArray) (⟨#[120]⟩ : ByteArray)), (Lbl.mk (⟨#[97]⟩ : ByteArray) (⟨#[121]⟩ : ByteArray))].map Lbl.d)] rfl rfl (.cons (ArgC.own (j := 0) rfl rfl) .nil) (lend_cons (j := 0) rfl lend_nil) Try.call36 (tidy_c [(Lbl.mk (⟨#[98]⟩ : ByteArray) (⟨#[120]⟩ : ByteArray)), (Lbl.mk (⟨#[97]⟩ : ByteArray) (⟨#[121]⟩ : ByteArray))]) (.inr (fun _ _ ⟨_, e1, e2⟩ => by subst e1; subst e2; exact ⟨rfl, fun x hx => by rcases hx with _ | ⟨_, hx⟩ <;> first | exact flatL_map (fun _ => rfl) _ | (cases hx; exact flatL_map (fun _ => rfl) _) | cases hx⟩))) ?_
  rintro _ _ ⟨_, ⟨v2, rfl, rfl⟩, rfl⟩
  refine OpsD.norm [.sl v2 2 74 ((tidyL [(Lbl.mk (⟨#[98]⟩ : ByteArray) (⟨#[120]⟩ : ByteArray)), (Lbl.mk (⟨#[97]⟩ : ByteArray) (⟨#[121]⟩ : ByteArray))]).map Lbl.d), .sl (.slice (some ⟨g1, 0, none⟩) 2 2) 2 74 ([(Lbl.mk (⟨#[98]⟩ : ByteArray) (⟨#[120]⟩ : ByteArray)), (Lbl.mk (⟨#[97]⟩ : ByteArray) (⟨#[121]⟩ : ByteArray))].map Lbl.d)] rfl ?_
  refine od_pu rfl rfl (p_move rfl) ?_
  refine od_pu rfl rfl (p_extract rfl rfl) ?_
  refine od_pu rfl rfl (p_extract rfl rfl) ?_
  refine od_pu rfl rfl (p_assign rfl) ?_
  refine od_pu rfl rfl (p_assign rfl) ?_
  refine od_nil rfl ?_
  refine pd_seq ?_
  refine jd_seq [true, true, false] [true, true, true] rfl rfl rfl ?_
  refine JD.keep [1, 2, 3, 4, 5, 6, 7, 8, 9] [(1, .ov v2), (2, .v (.int .i64 (tidyE [(Lbl.mk (⟨#[98]⟩ : ByteArray) (⟨#[120]⟩ : ByteArray)), (Lbl.mk (⟨#[97]⟩ : ByteArray) (⟨#[121]⟩ : ByteArray))]))), (3, .tup [.ov v2, .v (.int .i64 (tidyE [(Lbl.mk (⟨#[98]⟩ : ByteArray) (⟨#[120]⟩ : ByteArray)), (Lbl.mk (⟨#[97]⟩ : ByteArray) (⟨#[121]⟩ : ByteArray))]))]), (4, .agg [.v (.string (⟨#[98]⟩ : ByteArray)), .v (.string (⟨#[120]⟩ : ByteArray))]), (5, .agg [.v (.string (⟨#[97]⟩ : ByteArray)), .v (.string (⟨#[121]⟩ : ByteArray))]), (6, .ov (.slice (some ⟨g1, 0, none⟩) 2 2)), (7, .tup [.ov v2, .v (.int .i64 (tidyE [(Lbl.mk (⟨#[98]⟩ : ByteArray) (⟨#[120]⟩ : ByteArray)), (Lbl.mk (⟨#[97]⟩ : ByteArray) (⟨#[121]⟩ : ByteArray))]))]), (8, .ov v2), (9, .v (.int .i64 (tidyE [(Lbl.mk (⟨#[98]⟩ : ByteArray) (⟨#[120]⟩ : ByteArray)), (Lbl.mk (⟨#[97]⟩ : ByteArray) (⟨#[121]⟩ : ByteArray))])))] rfl ?_
  refine jd_sum 0 (((((decide (tidyE [(Lbl.mk (⟨#[98]⟩ : ByteArray) (⟨#[120]⟩ : ByteArray)), (Lbl.mk (⟨#[97]⟩ : ByteArray) (⟨#[121]⟩ : ByteArray))] = (0 : Int)) && decide ((((tidyL [(Lbl.mk (⟨#[98]⟩ : ByteArray) (⟨#[120]⟩ : ByteArray)), (Lbl.mk (⟨#[97]⟩ : ByteArray) (⟨#[121]⟩ : ByteArray))]).length : Nat) : Int) = (2 : Int))) && decide ((textB (tidyL [(Lbl.mk (⟨#[98]⟩ : ByteArray) (⟨#[120]⟩ : ByteArray)), (Lbl.mk (⟨#[97]⟩ : ByteArray) (⟨#[121]⟩ : ByteArray))])) = (⟨#[123, 97, 61, 34, 121, 34, 44, 98, 61, 34, 120, 34, 125]⟩ : ByteArray))) && decide ((getL (tidyL [(Lbl.mk (⟨#[98]⟩ : ByteArray) (⟨#[120]⟩ : ByteArray)), (Lbl.mk (⟨#[97]⟩ : ByteArray) (⟨#[121]⟩ : ByteArray))]) (⟨#[98]⟩ : ByteArray)) = (⟨#[120]⟩ : ByteArray))) && (decide (tidyE (tidyL [(Lbl.mk (⟨#[98]⟩ : ByteArray) (⟨#[120]⟩ : ByteArray)), (Lbl.mk (⟨#[97]⟩ : ByteArray) (⟨#[121]⟩ : ByteArray))]) = 0) && decide (cmpLs (tidyL (tidyL [(Lbl.mk (⟨#[98]⟩ : ByteArray) (⟨#[120]⟩ : ByteArray)), (Lbl.mk (⟨#[97]⟩ : ByteArray) (⟨#[121]⟩ : ByteArray))])) (tidyL [(Lbl.mk (⟨#[98]⟩ : ByteArray) (⟨#[120]⟩ : ByteArray)), (Lbl.mk (⟨#[97]⟩ : ByteArray) (⟨#[121]⟩ : ByteArray))]) = 0)))) [.sl v2 2 74 ((tidyL [(Lbl.mk (⟨#[98]⟩ : ByteArray) (⟨#[120]⟩ : ByteArray)), (Lbl.mk (⟨#[97]⟩ : ByteArray) (⟨#[121]⟩ : ByteArray))]).map Lbl.d), .sl (.slice (some ⟨g1, 0, none⟩) 2 2) 2 74 ([(Lbl.mk (⟨#[98]⟩ : ByteArray) (⟨#[120]⟩ : ByteArray)), (Lbl.mk (⟨#[97]⟩ : ByteArray) (⟨#[121]⟩ : ByteArray))].map Lbl.d)] (fun _ hQ3 => ?_) ?_
  · skip
    by_cases hg4 : tidyE [(Lbl.mk (⟨#[98]⟩ : ByteArray) (⟨#[120]⟩ : ByteArray)), (Lbl.mk (⟨#[97]⟩ : ByteArray) (⟨#[121]⟩ : ByteArray))] = (0 : Int)
    · skip
      by_cases hg5 : (((tidyL [(Lbl.mk (⟨#[98]⟩ : ByteArray) (⟨#[120]⟩ : ByteArray)), (Lbl.mk (⟨#[97]⟩ : ByteArray) (⟨#[121]⟩ : ByteArray))]).length : Nat) : Int) = (2 : Int)
      · skip
        by_cases hg6 : (textB (tidyL [(Lbl.mk (⟨#[98]⟩ : ByteArray) (⟨#[120]⟩ : ByteArray)), (Lbl.mk (⟨#[97]⟩ : ByteArray) (⟨#[121]⟩ : ByteArray))])) = (⟨#[123, 97, 61, 34, 121, 34, 44, 98, 61, 34, 120, 34, 125]⟩ : ByteArray)
        · skip
          by_cases hg7 : (getL (tidyL [(Lbl.mk (⟨#[98]⟩ : ByteArray) (⟨#[120]⟩ : ByteArray)), (Lbl.mk (⟨#[97]⟩ : ByteArray) (⟨#[121]⟩ : ByteArray))]) (⟨#[98]⟩ : ByteArray)) = (⟨#[120]⟩ : ByteArray)
          · skip
            refine jd_region rfl ?_
            refine od_pu rfl rfl (p_move rfl) ?_
            refine od_pu rfl rfl (p_eql rfl rfl (decide_eq_true hg4)) ?_
            refine od_pu rfl rfl (p_move rfl) ?_
            refine od_runp rfl rfl rfl rfl rfl (p_move rfl) ?_
            refine od_runp rfl rfl rfl rfl rfl (p_len_own (n := (tidyL [(Lbl.mk (⟨#[98]⟩ : ByteArray) (⟨#[120]⟩ : ByteArray)), (Lbl.mk (⟨#[97]⟩ : ByteArray) (⟨#[121]⟩ : ByteArray))]).length) (j := 0) rfl rfl Try.runUnderlying32 (List.length_map _)) ?_
            refine od_runp rfl rfl rfl rfl rfl (p_eql rfl rfl (decide_eq_true hg5)) ?_
            refine od_pu rfl rfl (p_pick_t rfl rfl) ?_
            refine od_pu rfl rfl (p_move rfl) ?_
            refine od_runp rfl rfl rfl rfl rfl (p_move rfl) ?_
            refine od_run rfl rfl rfl rfl rfl (ef_call [] _ [.sl v2 2 74 ((tidyL [(Lbl.mk (⟨#[98]⟩ : ByteArray) (⟨#[120]⟩ : ByteArray)), (Lbl.mk (⟨#[97]⟩ : ByteArray) (⟨#[121]⟩ : ByteArray))]).map Lbl.d)] rfl rfl (.cons (ArgC.own (j := 0) rfl rfl) .nil) (lend_cons (j := 0) rfl lend_nil) Try.call42 (Text_c (tidyL [(Lbl.mk (⟨#[98]⟩ : ByteArray) (⟨#[120]⟩ : ByteArray)), (Lbl.mk (⟨#[97]⟩ : ByteArray) (⟨#[121]⟩ : ByteArray))]) (by omega) al_size) (.inr (isR_flat rfl))) ?_
            rintro _ _ ⟨_, ⟨rfl, rfl⟩, rfl⟩
            refine OpsD.norm [.sl v2 2 74 ((tidyL [(Lbl.mk (⟨#[98]⟩ : ByteArray) (⟨#[120]⟩ : ByteArray)), (Lbl.mk (⟨#[97]⟩ : ByteArray) (⟨#[121]⟩ : ByteArray))]).map Lbl.d), .sl (.slice (some ⟨g1, 0, none⟩) 2 2) 2 74 ([(Lbl.mk (⟨#[98]⟩ : ByteArray) (⟨#[120]⟩ : ByteArray)), (Lbl.mk (⟨#[97]⟩ : ByteArray) (⟨#[121]⟩ : ByteArray))].map Lbl.d)] rfl ?_
            refine od_runp rfl rfl rfl rfl rfl (p_eqs rfl rfl (decide_eq_true hg6)) ?_
            refine od_pu rfl rfl (p_pick_t rfl rfl) ?_
            refine od_pu rfl rfl (p_move rfl) ?_
            refine od_runp rfl rfl rfl rfl rfl (p_move rfl) ?_
            refine od_run rfl rfl rfl rfl rfl (ef_call [] _ [.sl v2 2 74 ((tidyL [(Lbl.mk (⟨#[98]⟩ : ByteArray) (⟨#[120]⟩ : ByteArray)), (Lbl.mk (⟨#[97]⟩ : ByteArray) (⟨#[121]⟩ : ByteArray))]).map Lbl.d)] rfl rfl (.cons (ArgC.own (j := 0) rfl rfl) (.cons (ArgC.cv (Cv.str (by first | decide | (unfold maxLen; omega)))) .nil)) (lend_cons (j := 0) rfl lend_nil) Try.call40 (getL_c (tidyL [(Lbl.mk (⟨#[98]⟩ : ByteArray) (⟨#[120]⟩ : ByteArray)), (Lbl.mk (⟨#[97]⟩ : ByteArray) (⟨#[121]⟩ : ByteArray))]) (⟨#[98]⟩ : ByteArray)) (.inr (isR_flat rfl))) ?_
            rintro _ _ ⟨_, ⟨rfl, rfl⟩, rfl⟩
            refine OpsD.norm [.sl v2 2 74 ((tidyL [(Lbl.mk (⟨#[98]⟩ : ByteArray) (⟨#[120]⟩ : ByteArray)), (Lbl.mk (⟨#[97]⟩ : ByteArray) (⟨#[121]⟩ : ByteArray))]).map Lbl.d), .sl (.slice (some ⟨g1, 0, none⟩) 2 2) 2 74 ([(Lbl.mk (⟨#[98]⟩ : ByteArray) (⟨#[120]⟩ : ByteArray)), (Lbl.mk (⟨#[97]⟩ : ByteArray) (⟨#[121]⟩ : ByteArray))].map Lbl.d)] rfl ?_
            refine od_runp rfl rfl rfl rfl rfl (p_eqs rfl rfl (decide_eq_true hg7)) ?_
            refine od_pu rfl rfl (p_pick_t rfl rfl) ?_
            refine od_pu rfl rfl (p_move rfl) ?_
            refine od_runp rfl rfl rfl rfl rfl (p_move rfl) ?_
            refine od_run rfl rfl rfl rfl rfl (ef_call [] _ [.sl v2 2 74 ((tidyL [(Lbl.mk (⟨#[98]⟩ : ByteArray) (⟨#[120]⟩ : ByteArray)), (Lbl.mk (⟨#[97]⟩ : ByteArray) (⟨#[121]⟩ : ByteArray))]).map Lbl.d)] rfl rfl (.cons (ArgC.own (j := 0) rfl rfl) .nil) (lend_cons (j := 0) rfl lend_nil) Try.call41 (right_c (tidyL [(Lbl.mk (⟨#[98]⟩ : ByteArray) (⟨#[120]⟩ : ByteArray)), (Lbl.mk (⟨#[97]⟩ : ByteArray) (⟨#[121]⟩ : ByteArray))])) (.inr (isR_flat rfl))) ?_
            rintro _ _ ⟨_, ⟨rfl, rfl⟩, rfl⟩
            refine OpsD.norm [.sl v2 2 74 ((tidyL [(Lbl.mk (⟨#[98]⟩ : ByteArray) (⟨#[120]⟩ : ByteArray)), (Lbl.mk (⟨#[97]⟩ : ByteArray) (⟨#[121]⟩ : ByteArray))]).map Lbl.d), .sl (.slice (some ⟨g1, 0, none⟩) 2 2) 2 74 ([(Lbl.mk (⟨#[98]⟩ : ByteArray) (⟨#[120]⟩ : ByteArray)), (Lbl.mk (⟨#[97]⟩ : ByteArray) (⟨#[121]⟩ : ByteArray))].map Lbl.d)] rfl ?_
            refine od_pu rfl rfl (p_pick_t rfl rfl) ?_
            refine od_pu rfl rfl (p_assign rfl) ?_
            refine od_nil rfl ?_
            exact PD.sub ((0, .v (.bool ((((decide (tidyE [(Lbl.mk (⟨#[98]⟩ : ByteArray) (⟨#[120]⟩ : ByteArray)), (Lbl.mk (⟨#[97]⟩ : ByteArray) (⟨#[121]⟩ : ByteArray))] = (0 : Int)) && decide ((((tidyL [(Lbl.mk (⟨#[98]⟩ : ByteArray) (⟨#[120]⟩ : ByteArray)), (Lbl.mk (⟨#[97]⟩ : ByteArray) (⟨#[121]⟩ : ByteArray))]).length : Nat) : Int) = (2 : Int))) && decide ((textB (tidyL [(Lbl.mk (⟨#[98]⟩ : ByteArray) (⟨#[120]⟩ : ByteArray)), (Lbl.mk (⟨#[97]⟩ : ByteArray) (⟨#[121]⟩ : ByteArray))])) = (⟨#[123, 97, 61, 34, 121, 34, 44, 98, 61, 34, 120, 34, 125]⟩ : ByteArray))) && decide ((getL (tidyL [(Lbl.mk (⟨#[98]⟩ : ByteArray) (⟨#[120]⟩ : ByteArray)), (Lbl.mk (⟨#[97]⟩ : ByteArray) (⟨#[121]⟩ : ByteArray))]) (⟨#[98]⟩ : ByteArray)) = (⟨#[120]⟩ : ByteArray))) && (decide (tidyE (tidyL [(Lbl.mk (⟨#[98]⟩ : ByteArray) (⟨#[120]⟩ : ByteArray)), (Lbl.mk (⟨#[97]⟩ : ByteArray) (⟨#[121]⟩ : ByteArray))]) = 0) && decide (cmpLs (tidyL (tidyL [(Lbl.mk (⟨#[98]⟩ : ByteArray) (⟨#[120]⟩ : ByteArray)), (Lbl.mk (⟨#[97]⟩ : ByteArray) (⟨#[121]⟩ : ByteArray))])) (tidyL [(Lbl.mk (⟨#[98]⟩ : ByteArray) (⟨#[120]⟩ : ByteArray)), (Lbl.mk (⟨#[97]⟩ : ByteArray) (⟨#[121]⟩ : ByteArray))]) = 0))))) :: [(1, .ov v2), (2, .v (.int .i64 (tidyE [(Lbl.mk (⟨#[98]⟩ : ByteArray) (⟨#[120]⟩ : ByteArray)), (Lbl.mk (⟨#[97]⟩ : ByteArray) (⟨#[121]⟩ : ByteArray))]))), (3, .tup [.ov v2, .v (.int .i64 (tidyE [(Lbl.mk (⟨#[98]⟩ : ByteArray) (⟨#[120]⟩ : ByteArray)), (Lbl.mk (⟨#[97]⟩ : ByteArray) (⟨#[121]⟩ : ByteArray))]))]), (4, .agg [.v (.string (⟨#[98]⟩ : ByteArray)), .v (.string (⟨#[120]⟩ : ByteArray))]), (5, .agg [.v (.string (⟨#[97]⟩ : ByteArray)), .v (.string (⟨#[121]⟩ : ByteArray))]), (6, .ov (.slice (some ⟨g1, 0, none⟩) 2 2)), (7, .tup [.ov v2, .v (.int .i64 (tidyE [(Lbl.mk (⟨#[98]⟩ : ByteArray) (⟨#[120]⟩ : ByteArray)), (Lbl.mk (⟨#[97]⟩ : ByteArray) (⟨#[121]⟩ : ByteArray))]))]), (8, .ov v2), (9, .v (.int .i64 (tidyE [(Lbl.mk (⟨#[98]⟩ : ByteArray) (⟨#[120]⟩ : ByteArray)), (Lbl.mk (⟨#[97]⟩ : ByteArray) (⟨#[121]⟩ : ByteArray))])))]) ⟨sc rfl (Cv.eq (congrArg (fun b => D.v (.bool b)) (by first | (simp [hg4, hg5, hg6, hg7]; done) | (simp_all; done)))), sk rfl, sk rfl, sk rfl, sk rfl, sk rfl, sk rfl, sk rfl, sk rfl, sk rfl, trivial⟩ hQ3
          · skip
            refine jd_region rfl ?_
            refine od_pu rfl rfl (p_move rfl) ?_
            refine od_pu rfl rfl (p_eql rfl rfl (decide_eq_true hg4)) ?_
            refine od_pu rfl rfl (p_move rfl) ?_
            refine od_runp rfl rfl rfl rfl rfl (p_move rfl) ?_
            refine od_runp rfl rfl rfl rfl rfl (p_len_own (n := (tidyL [(Lbl.mk (⟨#[98]⟩ : ByteArray) (⟨#[120]⟩ : ByteArray)), (Lbl.mk (⟨#[97]⟩ : ByteArray) (⟨#[121]⟩ : ByteArray))]).length) (j := 0) rfl rfl Try.runUnderlying32 (List.length_map _)) ?_
            refine od_runp rfl rfl rfl rfl rfl (p_eql rfl rfl (decide_eq_true hg5)) ?_
            refine od_pu rfl rfl (p_pick_t rfl rfl) ?_
            refine od_pu rfl rfl (p_move rfl) ?_
            refine od_runp rfl rfl rfl rfl rfl (p_move rfl) ?_
            refine od_run rfl rfl rfl rfl rfl (ef_call [] _ [.sl v2 2 74 ((tidyL [(Lbl.mk (⟨#[98]⟩ : ByteArray) (⟨#[120]⟩ : ByteArray)), (Lbl.mk (⟨#[97]⟩ : ByteArray) (⟨#[121]⟩ : ByteArray))]).map Lbl.d)] rfl rfl (.cons (ArgC.own (j := 0) rfl rfl) .nil) (lend_cons (j := 0) rfl lend_nil) Try.call42 (Text_c (tidyL [(Lbl.mk (⟨#[98]⟩ : ByteArray) (⟨#[120]⟩ : ByteArray)), (Lbl.mk (⟨#[97]⟩ : ByteArray) (⟨#[121]⟩ : ByteArray))]) (by omega) al_size) (.inr (isR_flat rfl))) ?_
            rintro _ _ ⟨_, ⟨rfl, rfl⟩, rfl⟩
            refine OpsD.norm [.sl v2 2 74 ((tidyL [(Lbl.mk (⟨#[98]⟩ : ByteArray) (⟨#[120]⟩ : ByteArray)), (Lbl.mk (⟨#[97]⟩ : ByteArray) (⟨#[121]⟩ : ByteArray))]).map Lbl.d), .sl (.slice (some ⟨g1, 0, none⟩) 2 2) 2 74 ([(Lbl.mk (⟨#[98]⟩ : ByteArray) (⟨#[120]⟩ : ByteArray)), (Lbl.mk (⟨#[97]⟩ : ByteArray) (⟨#[121]⟩ : ByteArray))].map Lbl.d)] rfl ?_
            refine od_runp rfl rfl rfl rfl rfl (p_eqs rfl rfl (decide_eq_true hg6)) ?_
            refine od_pu rfl rfl (p_pick_t rfl rfl) ?_
            refine od_pu rfl rfl (p_move rfl) ?_
            refine od_runp rfl rfl rfl rfl rfl (p_move rfl) ?_
            refine od_run rfl rfl rfl rfl rfl (ef_call [] _ [.sl v2 2 74 ((tidyL [(Lbl.mk (⟨#[98]⟩ : ByteArray) (⟨#[120]⟩ : ByteArray)), (Lbl.mk (⟨#[97]⟩ : ByteArray) (⟨#[121]⟩ : ByteArray))]).map Lbl.d)] rfl rfl (.cons (ArgC.own (j := 0) rfl rfl) (.cons (ArgC.cv (Cv.str (by first | decide | (unfold maxLen; omega)))) .nil)) (lend_cons (j := 0) rfl lend_nil) Try.call40 (getL_c (tidyL [(Lbl.mk (⟨#[98]⟩ : ByteArray) (⟨#[120]⟩ : ByteArray)), (Lbl.mk (⟨#[97]⟩ : ByteArray) (⟨#[121]⟩ : ByteArray))]) (⟨#[98]⟩ : ByteArray)) (.inr (isR_flat rfl))) ?_
            rintro _ _ ⟨_, ⟨rfl, rfl⟩, rfl⟩
            refine OpsD.norm [.sl v2 2 74 ((tidyL [(Lbl.mk (⟨#[98]⟩ : ByteArray) (⟨#[120]⟩ : ByteArray)), (Lbl.mk (⟨#[97]⟩ : ByteArray) (⟨#[121]⟩ : ByteArray))]).map Lbl.d), .sl (.slice (some ⟨g1, 0, none⟩) 2 2) 2 74 ([(Lbl.mk (⟨#[98]⟩ : ByteArray) (⟨#[120]⟩ : ByteArray)), (Lbl.mk (⟨#[97]⟩ : ByteArray) (⟨#[121]⟩ : ByteArray))].map Lbl.d)] rfl ?_
            refine od_runp rfl rfl rfl rfl rfl (p_eqs rfl rfl (decide_eq_false hg7)) ?_
            refine od_pu rfl rfl (p_pick_t rfl rfl) ?_
            refine od_pu rfl rfl (p_move rfl) ?_
            refine od_skip rfl rfl rfl rfl rfl (by decide) ?_
            refine od_skip rfl rfl rfl rfl rfl (by decide) ?_
            refine od_pu rfl rfl (p_pick_f rfl rfl) ?_
            refine od_pu rfl rfl (p_assign rfl) ?_
            refine od_nil rfl ?_
            exact PD.sub ((0, .v (.bool ((((decide (tidyE [(Lbl.mk (⟨#[98]⟩ : ByteArray) (⟨#[120]⟩ : ByteArray)), (Lbl.mk (⟨#[97]⟩ : ByteArray) (⟨#[121]⟩ : ByteArray))] = (0 : Int)) && decide ((((tidyL [(Lbl.mk (⟨#[98]⟩ : ByteArray) (⟨#[120]⟩ : ByteArray)), (Lbl.mk (⟨#[97]⟩ : ByteArray) (⟨#[121]⟩ : ByteArray))]).length : Nat) : Int) = (2 : Int))) && decide ((textB (tidyL [(Lbl.mk (⟨#[98]⟩ : ByteArray) (⟨#[120]⟩ : ByteArray)), (Lbl.mk (⟨#[97]⟩ : ByteArray) (⟨#[121]⟩ : ByteArray))])) = (⟨#[123, 97, 61, 34, 121, 34, 44, 98, 61, 34, 120, 34, 125]⟩ : ByteArray))) && decide ((getL (tidyL [(Lbl.mk (⟨#[98]⟩ : ByteArray) (⟨#[120]⟩ : ByteArray)), (Lbl.mk (⟨#[97]⟩ : ByteArray) (⟨#[121]⟩ : ByteArray))]) (⟨#[98]⟩ : ByteArray)) = (⟨#[120]⟩ : ByteArray))) && (decide (tidyE (tidyL [(Lbl.mk (⟨#[98]⟩ : ByteArray) (⟨#[120]⟩ : ByteArray)), (Lbl.mk (⟨#[97]⟩ : ByteArray) (⟨#[121]⟩ : ByteArray))]) = 0) && decide (cmpLs (tidyL (tidyL [(Lbl.mk (⟨#[98]⟩ : ByteArray) (⟨#[120]⟩ : ByteArray)), (Lbl.mk (⟨#[97]⟩ : ByteArray) (⟨#[121]⟩ : ByteArray))])) (tidyL [(Lbl.mk (⟨#[98]⟩ : ByteArray) (⟨#[120]⟩ : ByteArray)), (Lbl.mk (⟨#[97]⟩ : ByteArray) (⟨#[121]⟩ : ByteArray))]) = 0))))) :: [(1, .ov v2), (2, .v (.int .i64 (tidyE [(Lbl.mk (⟨#[98]⟩ : ByteArray) (⟨#[120]⟩ : ByteArray)), (Lbl.mk (⟨#[97]⟩ : ByteArray) (⟨#[121]⟩ : ByteArray))]))), (3, .tup [.ov v2, .v (.int .i64 (tidyE [(Lbl.mk (⟨#[98]⟩ : ByteArray) (⟨#[120]⟩ : ByteArray)), (Lbl.mk (⟨#[97]⟩ : ByteArray) (⟨#[121]⟩ : ByteArray))]))]), (4, .agg [.v (.string (⟨#[98]⟩ : ByteArray)), .v (.string (⟨#[120]⟩ : ByteArray))]), (5, .agg [.v (.string (⟨#[97]⟩ : ByteArray)), .v (.string (⟨#[121]⟩ : ByteArray))]), (6, .ov (.slice (some ⟨g1, 0, none⟩) 2 2)), (7, .tup [.ov v2, .v (.int .i64 (tidyE [(Lbl.mk (⟨#[98]⟩ : ByteArray) (⟨#[120]⟩ : ByteArray)), (Lbl.mk (⟨#[97]⟩ : ByteArray) (⟨#[121]⟩ : ByteArray))]))]), (8, .ov v2), (9, .v (.int .i64 (tidyE [(Lbl.mk (⟨#[98]⟩ : ByteArray) (⟨#[120]⟩ : ByteArray)), (Lbl.mk (⟨#[97]⟩ : ByteArray) (⟨#[121]⟩ : ByteArray))])))]) ⟨sc rfl (Cv.eq (congrArg (fun b => D.v (.bool b)) (by first | (simp [hg4, hg5, hg6, hg7]; done) | (simp_all; done)))), sk rfl, sk rfl, sk rfl, sk rfl, sk rfl, sk rfl, sk rfl, sk rfl, sk rfl, trivial⟩ hQ3
        · skip
          refine jd_region rfl ?_
          refine od_pu rfl rfl (p_move rfl) ?_
          refine od_pu rfl rfl (p_eql rfl rfl (decide_eq_true hg4)) ?_
          refine od_pu rfl rfl (p_move rfl) ?_
          refine od_runp rfl rfl rfl rfl rfl (p_move rfl) ?_
          refine od_runp rfl rfl rfl rfl rfl (p_len_own (n := (tidyL [(Lbl.mk (⟨#[98]⟩ : ByteArray) (⟨#[120]⟩ : ByteArray)), (Lbl.mk (⟨#[97]⟩ : ByteArray) (⟨#[121]⟩ : ByteArray))]).length) (j := 0) rfl rfl Try.runUnderlying32 (List.length_map _)) ?_
          refine od_runp rfl rfl rfl rfl rfl (p_eql rfl rfl (decide_eq_true hg5)) ?_
          refine od_pu rfl rfl (p_pick_t rfl rfl) ?_
          refine od_pu rfl rfl (p_move rfl) ?_
          refine od_runp rfl rfl rfl rfl rfl (p_move rfl) ?_
          refine od_run rfl rfl rfl rfl rfl (ef_call [] _ [.sl v2 2 74 ((tidyL [(Lbl.mk (⟨#[98]⟩ : ByteArray) (⟨#[120]⟩ : ByteArray)), (Lbl.mk (⟨#[97]⟩ : ByteArray) (⟨#[121]⟩ : ByteArray))]).map Lbl.d)] rfl rfl (.cons (ArgC.own (j := 0) rfl rfl) .nil) (lend_cons (j := 0) rfl lend_nil) Try.call42 (Text_c (tidyL [(Lbl.mk (⟨#[98]⟩ : ByteArray) (⟨#[120]⟩ : ByteArray)), (Lbl.mk (⟨#[97]⟩ : ByteArray) (⟨#[121]⟩ : ByteArray))]) (by omega) al_size) (.inr (isR_flat rfl))) ?_
          rintro _ _ ⟨_, ⟨rfl, rfl⟩, rfl⟩
          refine OpsD.norm [.sl v2 2 74 ((tidyL [(Lbl.mk (⟨#[98]⟩ : ByteArray) (⟨#[120]⟩ : ByteArray)), (Lbl.mk (⟨#[97]⟩ : ByteArray) (⟨#[121]⟩ : ByteArray))]).map Lbl.d), .sl (.slice (some ⟨g1, 0, none⟩) 2 2) 2 74 ([(Lbl.mk (⟨#[98]⟩ : ByteArray) (⟨#[120]⟩ : ByteArray)), (Lbl.mk (⟨#[97]⟩ : ByteArray) (⟨#[121]⟩ : ByteArray))].map Lbl.d)] rfl ?_
          refine od_runp rfl rfl rfl rfl rfl (p_eqs rfl rfl (decide_eq_false hg6)) ?_
          refine od_pu rfl rfl (p_pick_t rfl rfl) ?_
          refine od_pu rfl rfl (p_move rfl) ?_
          refine od_skip rfl rfl rfl rfl rfl (by decide) ?_
          refine od_skip rfl rfl rfl rfl rfl (by decide) ?_
          refine od_skip rfl rfl rfl rfl rfl (by decide) ?_
          refine od_pu rfl rfl (p_pick_f rfl rfl) ?_
          refine od_pu rfl rfl (p_move rfl) ?_
          refine od_skip rfl rfl rfl rfl rfl (by decide) ?_
          refine od_skip rfl rfl rfl rfl rfl (by decide) ?_
          refine od_pu rfl rfl (p_pick_f rfl rfl) ?_
          refine od_pu rfl rfl (p_assign rfl) ?_
          refine od_nil rfl ?_
          exact PD.sub ((0, .v (.bool ((((decide (tidyE [(Lbl.mk (⟨#[98]⟩ : ByteArray) (⟨#[120]⟩ : ByteArray)), (Lbl.mk (⟨#[97]⟩ : ByteArray) (⟨#[121]⟩ : ByteArray))] = (0 : Int)) && decide ((((tidyL [(Lbl.mk (⟨#[98]⟩ : ByteArray) (⟨#[120]⟩ : ByteArray)), (Lbl.mk (⟨#[97]⟩ : ByteArray) (⟨#[121]⟩ : ByteArray))]).length : Nat) : Int) = (2 : Int))) && decide ((textB (tidyL [(Lbl.mk (⟨#[98]⟩ : ByteArray) (⟨#[120]⟩ : ByteArray)), (Lbl.mk (⟨#[97]⟩ : ByteArray) (⟨#[121]⟩ : ByteArray))])) = (⟨#[123, 97, 61, 34, 121, 34, 44, 98, 61, 34, 120, 34, 125]⟩ : ByteArray))) && decide ((getL (tidyL [(Lbl.mk (⟨#[98]⟩ : ByteArray) (⟨#[120]⟩ : ByteArray)), (Lbl.mk (⟨#[97]⟩ : ByteArray) (⟨#[121]⟩ : ByteArray))]) (⟨#[98]⟩ : ByteArray)) = (⟨#[120]⟩ : ByteArray))) && (decide (tidyE (tidyL [(Lbl.mk (⟨#[98]⟩ : ByteArray) (⟨#[120]⟩ : ByteArray)), (Lbl.mk (⟨#[97]⟩ : ByteArray) (⟨#[121]⟩ : ByteArray))]) = 0) && decide (cmpLs (tidyL (tidyL [(Lbl.mk (⟨#[98]⟩ : ByteArray) (⟨#[120]⟩ : ByteArray)), (Lbl.mk (⟨#[97]⟩ : ByteArray) (⟨#[121]⟩ : ByteArray))])) (tidyL [(Lbl.mk (⟨#[98]⟩ : ByteArray) (⟨#[120]⟩ : ByteArray)), (Lbl.mk (⟨#[97]⟩ : ByteArray) (⟨#[121]⟩ : ByteArray))]) = 0))))) :: [(1, .ov v2), (2, .v (.int .i64 (tidyE [(Lbl.mk (⟨#[98]⟩ : ByteArray) (⟨#[120]⟩ : ByteArray)), (Lbl.mk (⟨#[97]⟩ : ByteArray) (⟨#[121]⟩ : ByteArray))]))), (3, .tup [.ov v2, .v (.int .i64 (tidyE [(Lbl.mk (⟨#[98]⟩ : ByteArray) (⟨#[120]⟩ : ByteArray)), (Lbl.mk (⟨#[97]⟩ : ByteArray) (⟨#[121]⟩ : ByteArray))]))]), (4, .agg [.v (.string (⟨#[98]⟩ : ByteArray)), .v (.string (⟨#[120]⟩ : ByteArray))]), (5, .agg [.v (.string (⟨#[97]⟩ : ByteArray)), .v (.string (⟨#[121]⟩ : ByteArray))]), (6, .ov (.slice (some ⟨g1, 0, none⟩) 2 2)), (7, .tup [.ov v2, .v (.int .i64 (tidyE [(Lbl.mk (⟨#[98]⟩ : ByteArray) (⟨#[120]⟩ : ByteArray)), (Lbl.mk (⟨#[97]⟩ : ByteArray) (⟨#[121]⟩ : ByteArray))]))]), (8, .ov v2), (9, .v (.int .i64 (tidyE [(Lbl.mk (⟨#[98]⟩ : ByteArray) (⟨#[120]⟩ : ByteArray)), (Lbl.mk (⟨#[97]⟩ : ByteArray) (⟨#[121]⟩ : ByteArray))])))]) ⟨sc rfl (Cv.eq (congrArg (fun b => D.v (.bool b)) (by first | (simp [hg4, hg5, hg6]; done) | (simp_all; done)))), sk rfl, sk rfl, sk rfl, sk rfl, sk rfl, sk rfl, sk rfl, sk rfl, sk rfl, trivial⟩ hQ3
      · skip
        refine jd_region rfl ?_
        refine od_pu rfl rfl (p_move rfl) ?_
        refine od_pu rfl rfl (p_eql rfl rfl (decide_eq_true hg4)) ?_
        refine od_pu rfl rfl (p_move rfl) ?_
        refine od_runp rfl rfl rfl rfl rfl (p_move rfl) ?_
        refine od_runp rfl rfl rfl rfl rfl (p_len_own (n := (tidyL [(Lbl.mk (⟨#[98]⟩ : ByteArray) (⟨#[120]⟩ : ByteArray)), (Lbl.mk (⟨#[97]⟩ : ByteArray) (⟨#[121]⟩ : ByteArray))]).length) (j := 0) rfl rfl Try.runUnderlying32 (List.length_map _)) ?_
        refine od_runp rfl rfl rfl rfl rfl (p_eql rfl rfl (decide_eq_false hg5)) ?_
        refine od_pu rfl rfl (p_pick_t rfl rfl) ?_
        refine od_pu rfl rfl (p_move rfl) ?_
        refine od_skip rfl rfl rfl rfl rfl (by decide) ?_
        refine od_skip rfl rfl rfl rfl rfl (by decide) ?_
        refine od_skip rfl rfl rfl rfl rfl (by decide) ?_
        refine od_pu rfl rfl (p_pick_f rfl rfl) ?_
        refine od_pu rfl rfl (p_move rfl) ?_
        refine od_skip rfl rfl rfl rfl rfl (by decide) ?_
        refine od_skip rfl rfl rfl rfl rfl (by decide) ?_
        refine od_skip rfl rfl rfl rfl rfl (by decide) ?_
        refine od_pu rfl rfl (p_pick_f rfl rfl) ?_
        refine od_pu rfl rfl (p_move rfl) ?_
        refine od_skip rfl rfl rfl rfl rfl (by decide) ?_
        refine od_skip rfl rfl rfl rfl rfl (by decide) ?_
        refine od_pu rfl rfl (p_pick_f rfl rfl) ?_
        refine od_pu rfl rfl (p_assign rfl) ?_
        refine od_nil rfl ?_
        exact PD.sub ((0, .v (.bool ((((decide (tidyE [(Lbl.mk (⟨#[98]⟩ : ByteArray) (⟨#[120]⟩ : ByteArray)), (Lbl.mk (⟨#[97]⟩ : ByteArray) (⟨#[121]⟩ : ByteArray))] = (0 : Int)) && decide ((((tidyL [(Lbl.mk (⟨#[98]⟩ : ByteArray) (⟨#[120]⟩ : ByteArray)), (Lbl.mk (⟨#[97]⟩ : ByteArray) (⟨#[121]⟩ : ByteArray))]).length : Nat) : Int) = (2 : Int))) && decide ((textB (tidyL [(Lbl.mk (⟨#[98]⟩ : ByteArray) (⟨#[120]⟩ : ByteArray)), (Lbl.mk (⟨#[97]⟩ : ByteArray) (⟨#[121]⟩ : ByteArray))])) = (⟨#[123, 97, 61, 34, 121, 34, 44, 98, 61, 34, 120, 34, 125]⟩ : ByteArray))) && decide ((getL (tidyL [(Lbl.mk (⟨#[98]⟩ : ByteArray) (⟨#[120]⟩ : ByteArray)), (Lbl.mk (⟨#[97]⟩ : ByteArray) (⟨#[121]⟩ : ByteArray))]) (⟨#[98]⟩ : ByteArray)) = (⟨#[120]⟩ : ByteArray))) && (decide (tidyE (tidyL [(Lbl.mk (⟨#[98]⟩ : ByteArray) (⟨#[120]⟩ : ByteArray)), (Lbl.mk (⟨#[97]⟩ : ByteArray) (⟨#[121]⟩ : ByteArray))]) = 0) && decide (cmpLs (tidyL (tidyL [(Lbl.mk (⟨#[98]⟩ : ByteArray) (⟨#[120]⟩ : ByteArray)), (Lbl.mk (⟨#[97]⟩ : ByteArray) (⟨#[121]⟩ : ByteArray))])) (tidyL [(Lbl.mk (⟨#[98]⟩ : ByteArray) (⟨#[120]⟩ : ByteArray)), (Lbl.mk (⟨#[97]⟩ : ByteArray) (⟨#[121]⟩ : ByteArray))]) = 0))))) :: [(1, .ov v2), (2, .v (.int .i64 (tidyE [(Lbl.mk (⟨#[98]⟩ : ByteArray) (⟨#[120]⟩ : ByteArray)), (Lbl.mk (⟨#[97]⟩ : ByteArray) (⟨#[121]⟩ : ByteArray))]))), (3, .tup [.ov v2, .v (.int .i64 (tidyE [(Lbl.mk (⟨#[98]⟩ : ByteArray) (⟨#[120]⟩ : ByteArray)), (Lbl.mk (⟨#[97]⟩ : ByteArray) (⟨#[121]⟩ : ByteArray))]))]), (4, .agg [.v (.string (⟨#[98]⟩ : ByteArray)), .v (.string (⟨#[120]⟩ : ByteArray))]), (5, .agg [.v (.string (⟨#[97]⟩ : ByteArray)), .v (.string (⟨#[121]⟩ : ByteArray))]), (6, .ov (.slice (some ⟨g1, 0, none⟩) 2 2)), (7, .tup [.ov v2, .v (.int .i64 (tidyE [(Lbl.mk (⟨#[98]⟩ : ByteArray) (⟨#[120]⟩ : ByteArray)), (Lbl.mk (⟨#[97]⟩ : ByteArray) (⟨#[121]⟩ : ByteArray))]))]), (8, .ov v2), (9, .v (.int .i64 (tidyE [(Lbl.mk (⟨#[98]⟩ : ByteArray) (⟨#[120]⟩ : ByteArray)), (Lbl.mk (⟨#[97]⟩ : ByteArray) (⟨#[121]⟩ : ByteArray))])))]) ⟨sc rfl (Cv.eq (congrArg (fun b => D.v (.bool b)) (by first | (simp [hg4, hg5]; done) | (simp_all; done)))), sk rfl, sk rfl, sk rfl, sk rfl, sk rfl, sk rfl, sk rfl, sk rfl, sk rfl, trivial⟩ hQ3
    · skip
      refine jd_region rfl ?_
      refine od_pu rfl rfl (p_move rfl) ?_
      refine od_pu rfl rfl (p_eql rfl rfl (decide_eq_false hg4)) ?_
      refine od_pu rfl rfl (p_move rfl) ?_
      refine od_skip rfl rfl rfl rfl rfl (by decide) ?_
      refine od_skip rfl rfl rfl rfl rfl (by decide) ?_
      refine od_skip rfl rfl rfl rfl rfl (by decide) ?_
      refine od_pu rfl rfl (p_pick_f rfl rfl) ?_
      refine od_pu rfl rfl (p_move rfl) ?_
      refine od_skip rfl rfl rfl rfl rfl (by decide) ?_
      refine od_skip rfl rfl rfl rfl rfl (by decide) ?_
      refine od_skip rfl rfl rfl rfl rfl (by decide) ?_
      refine od_pu rfl rfl (p_pick_f rfl rfl) ?_
      refine od_pu rfl rfl (p_move rfl) ?_
      refine od_skip rfl rfl rfl rfl rfl (by decide) ?_
      refine od_skip rfl rfl rfl rfl rfl (by decide) ?_
      refine od_skip rfl rfl rfl rfl rfl (by decide) ?_
      refine od_pu rfl rfl (p_pick_f rfl rfl) ?_
      refine od_pu rfl rfl (p_move rfl) ?_
      refine od_skip rfl rfl rfl rfl rfl (by decide) ?_
      refine od_skip rfl rfl rfl rfl rfl (by decide) ?_
      refine od_pu rfl rfl (p_pick_f rfl rfl) ?_
      refine od_pu rfl rfl (p_assign rfl) ?_
      refine od_nil rfl ?_
      exact PD.sub ((0, .v (.bool ((((decide (tidyE [(Lbl.mk (⟨#[98]⟩ : ByteArray) (⟨#[120]⟩ : ByteArray)), (Lbl.mk (⟨#[97]⟩ : ByteArray) (⟨#[121]⟩ : ByteArray))] = (0 : Int)) && decide ((((tidyL [(Lbl.mk (⟨#[98]⟩ : ByteArray) (⟨#[120]⟩ : ByteArray)), (Lbl.mk (⟨#[97]⟩ : ByteArray) (⟨#[121]⟩ : ByteArray))]).length : Nat) : Int) = (2 : Int))) && decide ((textB (tidyL [(Lbl.mk (⟨#[98]⟩ : ByteArray) (⟨#[120]⟩ : ByteArray)), (Lbl.mk (⟨#[97]⟩ : ByteArray) (⟨#[121]⟩ : ByteArray))])) = (⟨#[123, 97, 61, 34, 121, 34, 44, 98, 61, 34, 120, 34, 125]⟩ : ByteArray))) && decide ((getL (tidyL [(Lbl.mk (⟨#[98]⟩ : ByteArray) (⟨#[120]⟩ : ByteArray)), (Lbl.mk (⟨#[97]⟩ : ByteArray) (⟨#[121]⟩ : ByteArray))]) (⟨#[98]⟩ : ByteArray)) = (⟨#[120]⟩ : ByteArray))) && (decide (tidyE (tidyL [(Lbl.mk (⟨#[98]⟩ : ByteArray) (⟨#[120]⟩ : ByteArray)), (Lbl.mk (⟨#[97]⟩ : ByteArray) (⟨#[121]⟩ : ByteArray))]) = 0) && decide (cmpLs (tidyL (tidyL [(Lbl.mk (⟨#[98]⟩ : ByteArray) (⟨#[120]⟩ : ByteArray)), (Lbl.mk (⟨#[97]⟩ : ByteArray) (⟨#[121]⟩ : ByteArray))])) (tidyL [(Lbl.mk (⟨#[98]⟩ : ByteArray) (⟨#[120]⟩ : ByteArray)), (Lbl.mk (⟨#[97]⟩ : ByteArray) (⟨#[121]⟩ : ByteArray))]) = 0))))) :: [(1, .ov v2), (2, .v (.int .i64 (tidyE [(Lbl.mk (⟨#[98]⟩ : ByteArray) (⟨#[120]⟩ : ByteArray)), (Lbl.mk (⟨#[97]⟩ : ByteArray) (⟨#[121]⟩ : ByteArray))]))), (3, .tup [.ov v2, .v (.int .i64 (tidyE [(Lbl.mk (⟨#[98]⟩ : ByteArray) (⟨#[120]⟩ : ByteArray)), (Lbl.mk (⟨#[97]⟩ : ByteArray) (⟨#[121]⟩ : ByteArray))]))]), (4, .agg [.v (.string (⟨#[98]⟩ : ByteArray)), .v (.string (⟨#[120]⟩ : ByteArray))]), (5, .agg [.v (.string (⟨#[97]⟩ : ByteArray)), .v (.string (⟨#[121]⟩ : ByteArray))]), (6, .ov (.slice (some ⟨g1, 0, none⟩) 2 2)), (7, .tup [.ov v2, .v (.int .i64 (tidyE [(Lbl.mk (⟨#[98]⟩ : ByteArray) (⟨#[120]⟩ : ByteArray)), (Lbl.mk (⟨#[97]⟩ : ByteArray) (⟨#[121]⟩ : ByteArray))]))]), (8, .ov v2), (9, .v (.int .i64 (tidyE [(Lbl.mk (⟨#[98]⟩ : ByteArray) (⟨#[120]⟩ : ByteArray)), (Lbl.mk (⟨#[97]⟩ : ByteArray) (⟨#[121]⟩ : ByteArray))])))]) ⟨sc rfl (Cv.eq (congrArg (fun b => D.v (.bool b)) (by first | (simp [hg4]; done) | (simp_all; done)))), sk rfl, sk rfl, sk rfl, sk rfl, sk rfl, sk rfl, sk rfl, sk rfl, sk rfl, trivial⟩ hQ3
  · skip
    refine pd_seq ?_
    refine JD.keep [0] [(0, .v (.bool ((((decide (tidyE [(Lbl.mk (⟨#[98]⟩ : ByteArray) (⟨#[120]⟩ : ByteArray)), (Lbl.mk (⟨#[97]⟩ : ByteArray) (⟨#[121]⟩ : ByteArray))] = (0 : Int)) && decide ((((tidyL [(Lbl.mk (⟨#[98]⟩ : ByteArray) (⟨#[120]⟩ : ByteArray)), (Lbl.mk (⟨#[97]⟩ : ByteArray) (⟨#[121]⟩ : ByteArray))]).length : Nat) : Int) = (2 : Int))) && decide ((textB (tidyL [(Lbl.mk (⟨#[98]⟩ : ByteArray) (⟨#[120]⟩ : ByteArray)), (Lbl.mk (⟨#[97]⟩ : ByteArray) (⟨#[121]⟩ : ByteArray))])) = (⟨#[123, 97, 61, 34, 121, 34, 44, 98, 61, 34, 120, 34, 125]⟩ : ByteArray))) && decide ((getL (tidyL [(Lbl.mk (⟨#[98]⟩ : ByteArray) (⟨#[120]⟩ : ByteArray)), (Lbl.mk (⟨#[97]⟩ : ByteArray) (⟨#[121]⟩ : ByteArray))]) (⟨#[98]⟩ : ByteArray)) = (⟨#[120]⟩ : ByteArray))) && (decide (tidyE (tidyL [(Lbl.mk (⟨#[98]⟩ : ByteArray) (⟨#[120]⟩ : ByteArray)), (Lbl.mk (⟨#[97]⟩ : ByteArray) (⟨#[121]⟩ : ByteArray))]) = 0) && decide (cmpLs (tidyL (tidyL [(Lbl.mk (⟨#[98]⟩ : ByteArray) (⟨#[120]⟩ : ByteArray)), (Lbl.mk (⟨#[97]⟩ : ByteArray) (⟨#[121]⟩ : ByteArray))])) (tidyL [(Lbl.mk (⟨#[98]⟩ : ByteArray) (⟨#[120]⟩ : ByteArray)), (Lbl.mk (⟨#[97]⟩ : ByteArray) (⟨#[121]⟩ : ByteArray))]) = 0)))))] rfl ?_
    refine jd_ret rfl ?_
    exact pd_retH Try.results35 (.cons (ro_cv (ro_tmp rfl) (Cv.eq (congrArg (fun b => D.v (.bool b)) (by exact al_all)))) .nil) rfl HSub.none ⟨rfl, rfl⟩

set_option maxHeartbeats 4000000 in
set_option maxRecDepth 100000 in
theorem picks_c (l : List Lbl) (names : List ByteArray)  :
    CD Try.prog 11 [] [.sh 2 (l.map Lbl.d), .sh 1 (names.map D.s)] (isR (dB true)) := by
  refine cd_of_JD Try.func11 rfl (N := 74) rfl rfl (fun C => ?_)
  refine JD.keep [0, 1] [(0, .sh 2 (l.map Lbl.d)), (1, .sh 1 (names.map D.s))] rfl ?_
  refine JD.bd 0 rfl (fun bd0 => ?_)
  have nl0 := bd_len bd0
  refine JD.bd 1 rfl (fun bd1 => ?_)
  have nl1 := bd_len bd1
  have hp1 := pickL_len l names true
  have hp2 := pickL_len l names false
  refine jd_seq [false] [true] rfl rfl rfl ?_
  refine jd_region rfl ?_
  refine od_pu rfl rfl (p_assign rfl) ?_
  refine od_nil rfl ?_
  refine pd_seq ?_
  refine jd_seq [true, false] [true, true] rfl rfl rfl ?_
  refine jd_seq [true, false, false] [true, false, true] rfl rfl rfl ?_
  refine JD.keep [0, 1, 4] [(0, .sh 2 (l.map Lbl.d)), (1, .sh 1 (names.map D.s)), (4, .v (.bool false))] rfl ?_
  refine jd_sum 18 ((!(lightL l) || decide ((10 : Int) < ((names.length : Nat) : Int)))) [] (fun _ hQ1 => ?_) ?_
  · skip
    rcases Bool.eq_false_or_eq_true (lightL l) with hg2 | hg2
    · skip
      by_cases hg3 : (10 : Int) < ((names.length : Nat) : Int)
      · skip
        refine jd_region rfl ?_
        refine od_pu rfl rfl (p_move rfl) ?_
        refine od_step rfl rfl (ef_call [] _ [] rfl rfl (.cons ArgC.id .nil) lend_nil Try.call34 (Light2_c l) (.inl rfl)) ?_
        rintro _ _ ⟨_, ⟨rfl, rfl⟩, rfl⟩
        refine OpsD.norm [] rfl ?_
        refine OpsD.sub ((8, .v (.bool true)) :: [(0, .sh 2 (l.map Lbl.d)), (1, .sh 1 (names.map D.s)), (4, .v (.bool false)), (7, .sh 2 (l.map Lbl.d))]) ⟨se rfl (congrArg (fun b => D.v (.bool b)) hg2), sk rfl, sk rfl, sk rfl, sk rfl, trivial⟩ ?_
        refine od_pu rfl rfl (p_not (q := true) rfl) ?_
        refine od_pu rfl rfl (p_move rfl) ?_
        refine od_runp rfl rfl rfl rfl rfl (p_move rfl) ?_
        refine od_runp rfl rfl rfl rfl rfl (p_len (n := names.length) rfl Try.runUnderlying76 (by simp only [List.length_map, List.length_cons, List.length_nil])) ?_
        refine od_runp rfl rfl rfl rfl rfl (p_gtr rfl rfl (decide_eq_true hg3)) ?_
        refine od_pu rfl rfl (p_pick_f rfl rfl) ?_
        refine od_pu rfl rfl (p_move rfl) ?_
        refine od_skip rfl rfl rfl rfl rfl (by decide) ?_
        refine od_skip rfl rfl rfl rfl rfl (by decide) ?_
        refine od_pu rfl rfl (p_pick_t rfl rfl) ?_
        refine od_nil rfl ?_
        exact PD.sub ((18, .v (.bool (!(lightL l) || decide ((10 : Int) < ((names.length : Nat) : Int))))) :: [(0, .sh 2 (l.map Lbl.d)), (1, .sh 1 (names.map D.s)), (4, .v (.bool false))]) ⟨sc rfl (Cv.eq (congrArg (fun b => D.v (.bool b)) (by first | (simp [hg2, hg3]; done) | (simp_all; done)))), sk rfl, sk rfl, sk rfl, trivial⟩ hQ1
      · skip
        refine jd_region rfl ?_
        refine od_pu rfl rfl (p_move rfl) ?_
        refine od_step rfl rfl (ef_call [] _ [] rfl rfl (.cons ArgC.id .nil) lend_nil Try.call34 (Light2_c l) (.inl rfl)) ?_
        rintro _ _ ⟨_, ⟨rfl, rfl⟩, rfl⟩
        refine OpsD.norm [] rfl ?_
        refine OpsD.sub ((8, .v (.bool true)) :: [(0, .sh 2 (l.map Lbl.d)), (1, .sh 1 (names.map D.s)), (4, .v (.bool false)), (7, .sh 2 (l.map Lbl.d))]) ⟨se rfl (congrArg (fun b => D.v (.bool b)) hg2), sk rfl, sk rfl, sk rfl, sk rfl, trivial⟩ ?_
        refine od_pu rfl rfl (p_not (q := true) rfl) ?_
        refine od_pu rfl rfl (p_move rfl) ?_
        refine od_runp rfl rfl rfl rfl rfl (p_move rfl) ?_
        refine od_runp rfl rfl rfl rfl rfl (p_len (n := names.length) rfl Try.runUnderlying76 (by simp only [List.length_map, List.length_cons, List.length_nil])) ?_
        refine od_runp rfl rfl rfl rfl rfl (p_gtr rfl rfl (decide_eq_false hg3)) ?_
        refine od_pu rfl rfl (p_pick_f rfl rfl) ?_
        refine od_pu rfl rfl (p_move rfl) ?_
        refine od_run rfl rfl rfl rfl rfl (ef_call [] _ [] rfl rfl (.nil) lend_nil Try.call35 (alive2_c) (.inl rfl)) ?_
        rintro _ _ ⟨_, ⟨rfl, rfl⟩, rfl⟩
        refine OpsD.norm [] rfl ?_
        refine od_runp rfl rfl rfl rfl rfl (p_not (q := true) rfl) ?_
        refine od_pu rfl rfl (p_pick_f rfl rfl) ?_
        refine od_nil rfl ?_
        exact PD.sub ((18, .v (.bool (!(lightL l) || decide ((10 : Int) < ((names.length : Nat) : Int))))) :: [(0, .sh 2 (l.map Lbl.d)), (1, .sh 1 (names.map D.s)), (4, .v (.bool false))]) ⟨sc rfl (Cv.eq (congrArg (fun b => D.v (.bool b)) (by first | (simp [hg2, hg3]; done) | (simp_all; done)))), sk rfl, sk rfl, sk rfl, trivial⟩ hQ1
    · skip
      refine jd_region rfl ?_
      refine od_pu rfl rfl (p_move rfl) ?_
      refine od_step rfl rfl (ef_call [] _ [] rfl rfl (.cons ArgC.id .nil) lend_nil Try.call34 (Light2_c l) (.inl rfl)) ?_
      rintro _ _ ⟨_, ⟨rfl, rfl⟩, rfl⟩
      refine OpsD.norm [] rfl ?_
      refine OpsD.sub ((8, .v (.bool false)) :: [(0, .sh 2 (l.map Lbl.d)), (1, .sh 1 (names.map D.s)), (4, .v (.bool false)), (7, .sh 2 (l.map Lbl.d))]) ⟨se rfl (congrArg (fun b => D.v (.bool b)) hg2), sk rfl, sk rfl, sk rfl, sk rfl, trivial⟩ ?_
      refine od_pu rfl rfl (p_not (q := false) rfl) ?_
      refine od_pu rfl rfl (p_move rfl) ?_
      refine od_skip rfl rfl rfl rfl rfl (by decide) ?_
      refine od_skip rfl rfl rfl rfl rfl (by decide) ?_
      refine od_skip rfl rfl rfl rfl rfl (by decide) ?_
      refine od_pu rfl rfl (p_pick_t rfl rfl) ?_
      refine od_pu rfl rfl (p_move rfl) ?_
      refine od_skip rfl rfl rfl rfl rfl (by decide) ?_
      refine od_skip rfl rfl rfl rfl rfl (by decide) ?_
      refine od_pu rfl rfl (p_pick_t rfl rfl) ?_
      refine od_nil rfl ?_
      exact PD.sub ((18, .v (.bool (!(lightL l) || decide ((10 : Int) < ((names.length : Nat) : Int))))) :: [(0, .sh 2 (l.map Lbl.d)), (1, .sh 1 (names.map D.s)), (4, .v (.bool false))]) ⟨sc rfl (Cv.eq (congrArg (fun b => D.v (.bool b)) (by first | (simp [hg2]; done) | (simp_all; done)))), sk rfl, sk rfl, sk rfl, trivial⟩ hQ1
  · skip
    refine pd_seq ?_
    refine jd_cond [true, false, true, false] [true, false, true, true] rfl rfl rfl rfl (fun hc4 => ?_) (fun hc4 => ?_)
    · simp only [Bool.and_eq_true, Bool.or_eq_true, Bool.not_eq_true', Bool.not_eq_false', Bool.and_eq_false_iff, Bool.or_eq_false_iff, decide_eq_true_eq, decide_eq_false_iff_not, Decidable.not_not, ne_eq] at hc4
      refine jd_seq [true, false, true, false, false] [true, false, true, false, true] rfl rfl rfl ?_
      refine jd_region rfl ?_
      refine od_step rfl rfl (ef_call [] _ [] rfl rfl (.nil) lend_nil Try.call35 (alive2_c) (.inl rfl)) ?_
      rintro _ _ ⟨_, ⟨rfl, rfl⟩, rfl⟩
      refine OpsD.norm [] rfl ?_
      refine od_pu rfl rfl (p_assign rfl) ?_
      refine od_nil rfl ?_
      refine pd_seq ?_
      refine jd_ret rfl ?_
      refine pd_seq_ret ?_
      exact pd_retH Try.results11 (.cons (ro_tmp rfl) .nil) rfl HSub.none ⟨rfl, rfl⟩
    · simp only [Bool.and_eq_true, Bool.or_eq_true, Bool.not_eq_true', Bool.not_eq_false', Bool.and_eq_false_iff, Bool.or_eq_false_iff, decide_eq_true_eq, decide_eq_false_iff_not, Decidable.not_not, ne_eq] at hc4
      have nl : l.length ≤ 20 := by have h := hc4; first | exact lightL_len h | exact lightL_len h.1 | exact lightL_len h.1.1 | exact lightL_len h.1.2 | exact lightL_len h.2 | exact lightL_len h.1.1.1 | exact lightL_len h.1.1.2
      refine jd_skip rfl ?_
      refine pd_seq ?_
      refine jd_seq [true, true, false] [true, true, true] rfl rfl rfl ?_
      refine jd_region rfl ?_
      refine od_pu rfl rfl (p_move rfl) ?_
      refine od_pu rfl rfl (p_move rfl) ?_
      refine od_step rfl rfl (ef_call [] _ [] rfl rfl (.cons ArgC.id (.cons ArgC.id .nil)) lend_nil Try.call39 (only_c l names (by omega)) (.inl rfl)) ?_
      rintro _ _ ⟨_, ⟨v5, rfl, rfl⟩, rfl⟩
      refine OpsD.norm [.sl v5 2 74 ((pickL l names true).map Lbl.d)] rfl ?_
      refine od_pu rfl rfl (p_assign rfl) ?_
      refine od_nil rfl ?_
      refine pd_seq ?_
      refine jd_seq [true, true, true, false] [true, true, true, true] rfl rfl rfl ?_
      refine jd_region rfl ?_
      refine od_pu rfl rfl (p_move rfl) ?_
      refine od_pu rfl rfl (p_move rfl) ?_
      refine od_step rfl rfl (ef_call [] _ [] rfl rfl (.cons ArgC.id (.cons ArgC.id .nil)) lend_nil Try.call43 (without_c l names (by omega)) (.inl rfl)) ?_
      rintro _ _ ⟨_, ⟨v6, rfl, rfl⟩, rfl⟩
      refine OpsD.norm [.sl v6 2 74 ((pickL l names false).map Lbl.d), .sl v5 2 74 ((pickL l names true).map Lbl.d)] rfl ?_
      refine od_pu rfl rfl (p_assign rfl) ?_
      refine od_nil rfl ?_
      refine pd_seq ?_
      refine jd_seq [true, true, true, true, false] [true, true, true, true, true] rfl rfl rfl ?_
      refine JD.keep [0, 1, 5, 6, 18, 20, 21, 22, 23, 24, 25] [(0, .sh 2 (l.map Lbl.d)), (1, .sh 1 (names.map D.s)), (5, .ov v5), (6, .ov v6), (18, .v (.bool (!(lightL l) || decide ((10 : Int) < ((names.length : Nat) : Int))))), (20, .sh 2 (l.map Lbl.d)), (21, .sh 1 (names.map D.s)), (22, .ov v5), (23, .sh 2 (l.map Lbl.d)), (24, .sh 1 (names.map D.s)), (25, .ov v6)] rfl ?_
      refine jd_sum 4 (((((((decide (cmpLs (pickL (pickL l names true) names true) (pickL l names true) = 0) && decide ((((pickL (pickL l names true) names false).length : Nat) : Int) = (0 : Int))) && decide (cmpLs (pickL (pickL l names false) names false) (pickL l names false) = 0)) && decide ((((pickL (pickL l names false) names true).length : Nat) : Int) = (0 : Int))) && decide (((((pickL l names true).length) + ((pickL l names false).length) : Nat) : Int) = ((l.length : Nat) : Int))) && decide ((((pickL l [] true).length : Nat) : Int) = (0 : Int))) && decide (cmpLs (pickL l [] false) l = 0))) [.sl v6 2 74 ((pickL l names false).map Lbl.d), .sl v5 2 74 ((pickL l names true).map Lbl.d)] (fun _ hQ7 => ?_) ?_
      · skip
        rcases Bool.eq_false_or_eq_true (decide (cmpLs (pickL (pickL l names true) names true) (pickL l names true) = 0)) with hg8 | hg8
        · skip
          by_cases hg9 : (((pickL (pickL l names true) names false).length : Nat) : Int) = (0 : Int)
          · skip
            rcases Bool.eq_false_or_eq_true (decide (cmpLs (pickL (pickL l names false) names false) (pickL l names false) = 0)) with hg10 | hg10
            · skip
              by_cases hg11 : (((pickL (pickL l names false) names true).length : Nat) : Int) = (0 : Int)
              · skip
                by_cases hg12 : ((((pickL l names true).length) + ((pickL l names false).length) : Nat) : Int) = ((l.length : Nat) : Int)
                · skip
                  by_cases hg13 : (((pickL l [] true).length : Nat) : Int) = (0 : Int)
                  · skip
                    refine jd_region rfl ?_
                    refine od_pu rfl rfl (p_move rfl) ?_
                    refine od_pu rfl rfl (p_move rfl) ?_
                    refine od_step rfl rfl (ef_call [] _ [.sl v5 2 74 ((pickL l names true).map Lbl.d)] rfl rfl (.cons (ArgC.own (j := 0) rfl rfl) (.cons ArgC.id .nil)) (lend_cons (j := 1) rfl lend_nil) Try.call39 (only_c (pickL l names true) names (by omega)) (.inr (isOwn_flat (flatL_map (fun _ => rfl) _)))) ?_
                    rintro _ _ ⟨_, ⟨v14, rfl, rfl⟩, rfl⟩
                    refine OpsD.norm [.sl v14 2 74 ((pickL (pickL l names true) names true).map Lbl.d), .sl v6 2 74 ((pickL l names false).map Lbl.d), .sl v5 2 74 ((pickL l names true).map Lbl.d)] rfl ?_
                    refine od_pu rfl rfl (p_move rfl) ?_
                    refine od_step rfl rfl (ef_call [] _ [.sl v14 2 74 ((pickL (pickL l names true) names true).map Lbl.d), .sl v5 2 74 ((pickL l names true).map Lbl.d)] rfl rfl (.cons (ArgC.own (j := 0) rfl rfl) (.cons (ArgC.own (j := 1) rfl rfl) .nil)) (lend_cons (j := 0) rfl (lend_cons (j := 2) rfl lend_nil)) Try.call44 (sameLs_c (pickL (pickL l names true) names true) (pickL l names true)) (.inr (isR_flat rfl))) ?_
                    rintro _ _ ⟨_, ⟨rfl, rfl⟩, rfl⟩
                    refine OpsD.norm [.sl v14 2 74 ((pickL (pickL l names true) names true).map Lbl.d), .sl v6 2 74 ((pickL l names false).map Lbl.d), .sl v5 2 74 ((pickL l names true).map Lbl.d)] rfl ?_
                    refine OpsD.sub ((30, .v (.bool true)) :: [(0, .sh 2 (l.map Lbl.d)), (1, .sh 1 (names.map D.s)), (5, .ov v5), (6, .ov v6), (18, .v (.bool (!(lightL l) || decide ((10 : Int) < ((names.length : Nat) : Int))))), (20, .sh 2 (l.map Lbl.d)), (21, .sh 1 (names.map D.s)), (22, .ov v5), (23, .sh 2 (l.map Lbl.d)), (24, .sh 1 (names.map D.s)), (25, .ov v6), (26, .ov v5), (27, .sh 1 (names.map D.s)), (28, .ov v14), (29, .ov v5)]) ⟨se rfl (congrArg (fun b => D.v (.bool b)) hg8), sk rfl, sk rfl, sk rfl, sk rfl, sk rfl, sk rfl, sk rfl, sk rfl, sk rfl, sk rfl, sk rfl, sk rfl, sk rfl, sk rfl, sk rfl, trivial⟩ ?_
                    refine od_pu rfl rfl (p_move rfl) ?_
                    refine od_runp rfl rfl rfl rfl rfl (p_move rfl) ?_
                    refine od_runp rfl rfl rfl rfl rfl (p_move rfl) ?_
                    refine od_run rfl rfl rfl rfl rfl (ef_call [] _ [.sl v5 2 74 ((pickL l names true).map Lbl.d)] rfl rfl (.cons (ArgC.own (j := 0) rfl rfl) (.cons ArgC.id .nil)) (lend_cons (j := 2) rfl lend_nil) Try.call43 (without_c (pickL l names true) names (by omega)) (.inr (isOwn_flat (flatL_map (fun _ => rfl) _)))) ?_
                    rintro _ _ ⟨_, ⟨v15, rfl, rfl⟩, rfl⟩
                    refine OpsD.norm [.sl v15 2 74 ((pickL (pickL l names true) names false).map Lbl.d), .sl v14 2 74 ((pickL (pickL l names true) names true).map Lbl.d), .sl v6 2 74 ((pickL l names false).map Lbl.d), .sl v5 2 74 ((pickL l names true).map Lbl.d)] rfl ?_
                    refine od_runp rfl rfl rfl rfl rfl (p_len_own (n := (pickL (pickL l names true) names false).length) (j := 0) rfl rfl Try.runUnderlying32 (List.length_map _)) ?_
                    refine od_runp rfl rfl rfl rfl rfl (p_eql rfl rfl (decide_eq_true hg9)) ?_
                    refine od_pu rfl rfl (p_pick_t rfl rfl) ?_
                    refine od_pu rfl rfl (p_move rfl) ?_
                    refine od_runp rfl rfl rfl rfl rfl (p_move rfl) ?_
                    refine od_runp rfl rfl rfl rfl rfl (p_move rfl) ?_
                    refine od_run rfl rfl rfl rfl rfl (ef_call [] _ [.sl v6 2 74 ((pickL l names false).map Lbl.d)] rfl rfl (.cons (ArgC.own (j := 0) rfl rfl) (.cons ArgC.id .nil)) (lend_cons (j := 2) rfl lend_nil) Try.call43 (without_c (pickL l names false) names (by omega)) (.inr (isOwn_flat (flatL_map (fun _ => rfl) _)))) ?_
                    rintro _ _ ⟨_, ⟨v16, rfl, rfl⟩, rfl⟩
                    refine OpsD.norm [.sl v16 2 74 ((pickL (pickL l names false) names false).map Lbl.d), .sl v15 2 74 ((pickL (pickL l names true) names false).map Lbl.d), .sl v14 2 74 ((pickL (pickL l names true) names true).map Lbl.d), .sl v6 2 74 ((pickL l names false).map Lbl.d), .sl v5 2 74 ((pickL l names true).map Lbl.d)] rfl ?_
                    refine od_runp rfl rfl rfl rfl rfl (p_move rfl) ?_
                    refine od_run rfl rfl rfl rfl rfl (ef_call [] _ [.sl v16 2 74 ((pickL (pickL l names false) names false).map Lbl.d), .sl v6 2 74 ((pickL l names false).map Lbl.d)] rfl rfl (.cons (ArgC.own (j := 0) rfl rfl) (.cons (ArgC.own (j := 1) rfl rfl) .nil)) (lend_cons (j := 0) rfl (lend_cons (j := 3) rfl lend_nil)) Try.call44 (sameLs_c (pickL (pickL l names false) names false) (pickL l names false)) (.inr (isR_flat rfl))) ?_
                    rintro _ _ ⟨_, ⟨rfl, rfl⟩, rfl⟩
                    refine OpsD.norm [.sl v16 2 74 ((pickL (pickL l names false) names false).map Lbl.d), .sl v15 2 74 ((pickL (pickL l names true) names false).map Lbl.d), .sl v14 2 74 ((pickL (pickL l names true) names true).map Lbl.d), .sl v6 2 74 ((pickL l names false).map Lbl.d), .sl v5 2 74 ((pickL l names true).map Lbl.d)] rfl ?_
                    refine OpsD.sub ((43, .v (.bool true)) :: [(0, .sh 2 (l.map Lbl.d)), (1, .sh 1 (names.map D.s)), (5, .ov v5), (6, .ov v6), (18, .v (.bool (!(lightL l) || decide ((10 : Int) < ((names.length : Nat) : Int))))), (20, .sh 2 (l.map Lbl.d)), (21, .sh 1 (names.map D.s)), (22, .ov v5), (23, .sh 2 (l.map Lbl.d)), (24, .sh 1 (names.map D.s)), (25, .ov v6), (26, .ov v5), (27, .sh 1 (names.map D.s)), (28, .ov v14), (29, .ov v5), (30, .v (.bool true)), (31, .v (.bool true)), (32, .ov v5), (33, .sh 1 (names.map D.s)), (34, .ov v15), (35, .v (.int .i64 (((pickL (pickL l names true) names false).length : Nat) : Int))), (36, .v (.bool true)), (37, .v (.bool true)), (38, .v (.bool true)), (39, .ov v6), (40, .sh 1 (names.map D.s)), (41, .ov v16), (42, .ov v6)]) ⟨se rfl (congrArg (fun b => D.v (.bool b)) hg10), sk rfl, sk rfl, sk rfl, sk rfl, sk rfl, sk rfl, sk rfl, sk rfl, sk rfl, sk rfl, sk rfl, sk rfl, sk rfl, sk rfl, sk rfl, sk rfl, sk rfl, sk rfl, sk rfl, sk rfl, sk rfl, sk rfl, sk rfl, sk rfl, sk rfl, sk rfl, sk rfl, sk rfl, trivial⟩ ?_
                    refine od_pu rfl rfl (p_pick_t rfl rfl) ?_
                    refine od_pu rfl rfl (p_move rfl) ?_
                    refine od_runp rfl rfl rfl rfl rfl (p_move rfl) ?_
                    refine od_runp rfl rfl rfl rfl rfl (p_move rfl) ?_
                    refine od_run rfl rfl rfl rfl rfl (ef_call [] _ [.sl v6 2 74 ((pickL l names false).map Lbl.d)] rfl rfl (.cons (ArgC.own (j := 0) rfl rfl) (.cons ArgC.id .nil)) (lend_cons (j := 3) rfl lend_nil) Try.call39 (only_c (pickL l names false) names (by omega)) (.inr (isOwn_flat (flatL_map (fun _ => rfl) _)))) ?_
                    rintro _ _ ⟨_, ⟨v17, rfl, rfl⟩, rfl⟩
                    refine OpsD.norm [.sl v17 2 74 ((pickL (pickL l names false) names true).map Lbl.d), .sl v16 2 74 ((pickL (pickL l names false) names false).map Lbl.d), .sl v15 2 74 ((pickL (pickL l names true) names false).map Lbl.d), .sl v14 2 74 ((pickL (pickL l names true) names true).map Lbl.d), .sl v6 2 74 ((pickL l names false).map Lbl.d), .sl v5 2 74 ((pickL l names true).map Lbl.d)] rfl ?_
                    refine od_runp rfl rfl rfl rfl rfl (p_len_own (n := (pickL (pickL l names false) names true).length) (j := 0) rfl rfl Try.runUnderlying32 (List.length_map _)) ?_
                    refine od_runp rfl rfl rfl rfl rfl (p_eql rfl rfl (decide_eq_true hg11)) ?_
                    refine od_pu rfl rfl (p_pick_t rfl rfl) ?_
                    refine od_pu rfl rfl (p_move rfl) ?_
                    refine od_runp rfl rfl rfl rfl rfl (p_move rfl) ?_
                    refine od_runp rfl rfl rfl rfl rfl (p_len_own (n := (pickL l names true).length) (j := 5) rfl rfl Try.runUnderlying32 (List.length_map _)) ?_
                    refine od_runp rfl rfl rfl rfl rfl (p_move rfl) ?_
                    refine od_runp rfl rfl rfl rfl rfl (p_len_own (n := (pickL l names false).length) (j := 4) rfl rfl Try.runUnderlying32 (List.length_map _)) ?_
                    refine od_runp rfl rfl rfl rfl rfl (p_add (c := ((((pickL l names true).length) + ((pickL l names false).length) : Nat) : Int)) rfl rfl (w64eq (by omega) (by omega))) ?_
                    refine od_runp rfl rfl rfl rfl rfl (p_move rfl) ?_
                    refine od_runp rfl rfl rfl rfl rfl (p_len (n := l.length) rfl Try.runUnderlying32 (by simp only [List.length_map, List.length_cons, List.length_nil])) ?_
                    refine od_runp rfl rfl rfl rfl rfl (p_eql rfl rfl (decide_eq_true hg12)) ?_
                    refine od_pu rfl rfl (p_pick_t rfl rfl) ?_
                    refine od_pu rfl rfl (p_move rfl) ?_
                    refine od_runp rfl rfl rfl rfl rfl (p_move rfl) ?_
                    refine od_run rfl rfl rfl rfl rfl (ef_call [] _ [] rfl rfl (.cons ArgC.id (.cons (ArgC.cv Cv.nil) .nil)) lend_nil Try.call39 (only_c l [] (by omega)) (.inl rfl)) ?_
                    rintro _ _ ⟨_, ⟨v18, rfl, rfl⟩, rfl⟩
                    refine OpsD.norm [.sl v18 2 74 ((pickL l [] true).map Lbl.d), .sl v17 2 74 ((pickL (pickL l names false) names true).map Lbl.d), .sl v16 2 74 ((pickL (pickL l names false) names false).map Lbl.d), .sl v15 2 74 ((pickL (pickL l names true) names false).map Lbl.d), .sl v14 2 74 ((pickL (pickL l names true) names true).map Lbl.d), .sl v6 2 74 ((pickL l names false).map Lbl.d), .sl v5 2 74 ((pickL l names true).map Lbl.d)] rfl ?_
                    refine od_runp rfl rfl rfl rfl rfl (p_len_own (n := (pickL l [] true).length) (j := 0) rfl rfl Try.runUnderlying32 (List.length_map _)) ?_
                    refine od_runp rfl rfl rfl rfl rfl (p_eql rfl rfl (decide_eq_true hg13)) ?_
                    refine od_pu rfl rfl (p_pick_t rfl rfl) ?_
                    refine od_pu rfl rfl (p_move rfl) ?_
                    refine od_runp rfl rfl rfl rfl rfl (p_move rfl) ?_
                    refine od_run rfl rfl rfl rfl rfl (ef_call [] _ [] rfl rfl (.cons ArgC.id (.cons (ArgC.cv Cv.nil) .nil)) lend_nil Try.call43 (without_c l [] (by omega)) (.inl rfl)) ?_
                    rintro _ _ ⟨_, ⟨v19, rfl, rfl⟩, rfl⟩
                    refine OpsD.norm [.sl v19 2 74 ((pickL l [] false).map Lbl.d), .sl v18 2 74 ((pickL l [] true).map Lbl.d), .sl v17 2 74 ((pickL (pickL l names false) names true).map Lbl.d), .sl v16 2 74 ((pickL (pickL l names false) names false).map Lbl.d), .sl v15 2 74 ((pickL (pickL l names true) names false).map Lbl.d), .sl v14 2 74 ((pickL (pickL l names true) names true).map Lbl.d), .sl v6 2 74 ((pickL l names false).map Lbl.d), .sl v5 2 74 ((pickL l names true).map Lbl.d)] rfl ?_
                    refine od_runp rfl rfl rfl rfl rfl (p_move rfl) ?_
                    refine od_run rfl rfl rfl rfl rfl (ef_call [] _ [.sl v19 2 74 ((pickL l [] false).map Lbl.d)] rfl rfl (.cons (ArgC.own (j := 0) rfl rfl) (.cons ArgC.id .nil)) (lend_cons (j := 0) rfl lend_nil) Try.call44 (sameLs_c (pickL l [] false) l) (.inr (isR_flat rfl))) ?_
                    rintro _ _ ⟨_, ⟨rfl, rfl⟩, rfl⟩
                    refine OpsD.norm [.sl v19 2 74 ((pickL l [] false).map Lbl.d), .sl v18 2 74 ((pickL l [] true).map Lbl.d), .sl v17 2 74 ((pickL (pickL l names false) names true).map Lbl.d), .sl v16 2 74 ((pickL (pickL l names false) names false).map Lbl.d), .sl v15 2 74 ((pickL (pickL l names true) names false).map Lbl.d), .sl v14 2 74 ((pickL (pickL l names true) names true).map Lbl.d), .sl v6 2 74 ((pickL l names false).map Lbl.d), .sl v5 2 74 ((pickL l names true).map Lbl.d)] rfl ?_
                    refine od_pu rfl rfl (p_pick_t rfl rfl) ?_
                    refine od_pu rfl rfl (p_assign rfl) ?_
                    refine od_nil rfl ?_
                    refine PD.subH (HSub.lst 6 rfl) ?_
                    exact PD.sub ((4, .v (.bool ((((((decide (cmpLs (pickL (pickL l names true) names true) (pickL l names true) = 0) && decide ((((pickL (pickL l names true) names false).length : Nat) : Int) = (0 : Int))) && decide (cmpLs (pickL (pickL l names false) names false) (pickL l names false) = 0)) && decide ((((pickL (pickL l names false) names true).length : Nat) : Int) = (0 : Int))) && decide (((((pickL l names true).length) + ((pickL l names false).length) : Nat) : Int) = ((l.length : Nat) : Int))) && decide ((((pickL l [] true).length : Nat) : Int) = (0 : Int))) && decide (cmpLs (pickL l [] false) l = 0)))) :: [(0, .sh 2 (l.map Lbl.d)), (1, .sh 1 (names.map D.s)), (5, .ov v5), (6, .ov v6), (18, .v (.bool (!(lightL l) || decide ((10 : Int) < ((names.length : Nat) : Int))))), (20, .sh 2 (l.map Lbl.d)), (21, .sh 1 (names.map D.s)), (22, .ov v5), (23, .sh 2 (l.map Lbl.d)), (24, .sh 1 (names.map D.s)), (25, .ov v6)]) ⟨sc rfl (Cv.eq (congrArg (fun b => D.v (.bool b)) (by first | (simp [hg10, hg11, hg12, hg13, hg8, hg9]; done) | (simp_all; done)))), sk rfl, sk rfl, sk rfl, sk rfl, sk rfl, sk rfl, sk rfl, sk rfl, sk rfl, sk rfl, sk rfl, trivial⟩ hQ7
                  · skip
                    refine jd_region rfl ?_
                    refine od_pu rfl rfl (p_move rfl) ?_
                    refine od_pu rfl rfl (p_move rfl) ?_
                    refine od_step rfl rfl (ef_call [] _ [.sl v5 2 74 ((pickL l names true).map Lbl.d)] rfl rfl (.cons (ArgC.own (j := 0) rfl rfl) (.cons ArgC.id .nil)) (lend_cons (j := 1) rfl lend_nil) Try.call39 (only_c (pickL l names true) names (by omega)) (.inr (isOwn_flat (flatL_map (fun _ => rfl) _)))) ?_
                    rintro _ _ ⟨_, ⟨v20, rfl, rfl⟩, rfl⟩
                    refine OpsD.norm [.sl v20 2 74 ((pickL (pickL l names true) names true).map Lbl.d), .sl v6 2 74 ((pickL l names false).map Lbl.d), .sl v5 2 74 ((pickL l names true).map Lbl.d)] rfl ?_
                    refine od_pu rfl rfl (p_move rfl) ?_
                    refine od_step rfl rfl (ef_call [] _ [.sl v20 2 74 ((pickL (pickL l names true) names true).map Lbl.d), .sl v5 2 74 ((pickL l names true).map Lbl.d)] rfl rfl (.cons (ArgC.own (j := 0) rfl rfl) (.cons (ArgC.own (j := 1) rfl rfl) .nil)) (lend_cons (j := 0) rfl (lend_cons (j := 2) rfl lend_nil)) Try.call44 (sameLs_c (pickL (pickL l names true) names true) (pickL l names true)) (.inr (isR_flat rfl))) ?_
                    rintro _ _ ⟨_, ⟨rfl, rfl⟩, rfl⟩
                    refine OpsD.norm [.sl v20 2 74 ((pickL (pickL l names true) names true).map Lbl.d), .sl v6 2 74 ((pickL l names false).map Lbl.d), .sl v5 2 74 ((pickL l names true).map Lbl.d)] rfl ?_
                    refine OpsD.sub ((30, .v (.bool true)) :: [(0, .sh 2 (l.map Lbl.d)), (1, .sh 1 (names.map D.s)), (5, .ov v5), (6, .ov v6), (18, .v (.bool (!(lightL l) || decide ((10 : Int) < ((names.length : Nat) : Int))))), (20, .sh 2 (l.map Lbl.d)), (21, .sh 1 (names.map D.s)), (22, .ov v5), (23, .sh 2 (l.map Lbl.d)), (24, .sh 1 (names.map D.s)), (25, .ov v6), (26, .ov v5), (27, .sh 1 (names.map D.s)), (28, .ov v20), (29, .ov v5)]) ⟨se rfl (congrArg (fun b => D.v (.bool b)) hg8), sk rfl, sk rfl, sk rfl, sk rfl, sk rfl, sk rfl, sk rfl, sk rfl, sk rfl, sk rfl, sk rfl, sk rfl, sk rfl, sk rfl, sk rfl, trivial⟩ ?_
                    refine od_pu rfl rfl (p_move rfl) ?_
                    refine od_runp rfl rfl rfl rfl rfl (p_move rfl) ?_
                    refine od_runp rfl rfl rfl rfl rfl (p_move rfl) ?_
                    refine od_run rfl rfl rfl rfl rfl (ef_call [] _ [.sl v5 2 74 ((pickL l names true).map Lbl.d)] rfl rfl (.cons (ArgC.own (j := 0) rfl rfl) (.cons ArgC.id .nil)) (lend_cons (j := 2) rfl lend_nil) Try.call43 (without_c (pickL l names true) names (by omega)) (.inr (isOwn_flat (flatL_map (fun _ => rfl) _)))) ?_
                    rintro _ _ ⟨_, ⟨v21, rfl, rfl⟩, rfl⟩
                    refine OpsD.norm [.sl v21 2 74 ((pickL (pickL l names true) names false).map Lbl.d), .sl v20 2 74 ((pickL (pickL l names true) names true).map Lbl.d), .sl v6 2 74 ((pickL l names false).map Lbl.d), .sl v5 2 74 ((pickL l names true).map Lbl.d)] rfl ?_
                    refine od_runp rfl rfl rfl rfl rfl (p_len_own (n := (pickL (pickL l names true) names false).length) (j := 0) rfl rfl Try.runUnderlying32 (List.length_map _)) ?_
                    refine od_runp rfl rfl rfl rfl rfl (p_eql rfl rfl (decide_eq_true hg9)) ?_
                    refine od_pu rfl rfl (p_pick_t rfl rfl) ?_
                    refine od_pu rfl rfl (p_move rfl) ?_
                    refine od_runp rfl rfl rfl rfl rfl (p_move rfl) ?_
                    refine od_runp rfl rfl rfl rfl rfl (p_move rfl) ?_
                    refine od_run rfl rfl rfl rfl rfl (ef_call [] _ [.sl v6 2 74 ((pickL l names false).map Lbl.d)] rfl rfl (.cons (ArgC.own (j := 0) rfl rfl) (.cons ArgC.id .nil)) (lend_cons (j := 2) rfl lend_nil) Try.call43 (without_c (pickL l names false) names (by omega)) (.inr (isOwn_flat (flatL_map (fun _ => rfl) _)))) ?_
                    rintro _ _ ⟨_, ⟨v22, rfl, rfl⟩, rfl⟩
                    refine OpsD.norm [.sl v22 2 74 ((pickL (pickL l names false) names false).map Lbl.d), .sl v21 2 74 ((pickL (pickL l names true) names false).map Lbl.d), .sl v20 2 74 ((pickL (pickL l names true) names true).map Lbl.d), .sl v6 2 74 ((pickL l names false).map Lbl.d), .sl v5 2 74 ((pickL l names true).map Lbl.d)] rfl ?_
                    refine od_runp rfl rfl rfl rfl rfl (p_move rfl) ?_
                    refine od_run rfl rfl rfl rfl rfl (ef_call [] _ [.sl v22 2 74 ((pickL (pickL l names false) names false).map Lbl.d), .sl v6 2 74 ((pickL l names false).map Lbl.d)] rfl rfl (.cons (ArgC.own (j := 0) rfl rfl) (.cons (ArgC.own (j := 1) rfl rfl) .nil)) (lend_cons (j := 0) rfl (lend_cons (j := 3) rfl lend_nil)) Try.call44 (sameLs_c (pickL (pickL l names false) names false) (pickL l names false)) (.inr (isR_flat rfl))) ?_
                    rintro _ _ ⟨_, ⟨rfl, rfl⟩, rfl⟩
                    refine OpsD.norm [.sl v22 2 74 ((pickL (pickL l names false) names false).map Lbl.d), .sl v21 2 74 ((pickL (pickL l names true) names false).map Lbl.d), .sl v20 2 74 ((pickL (pickL l names true) names true).map Lbl.d), .sl v6 2 74 ((pickL l names false).map Lbl.d), .sl v5 2 74 ((pickL l names true).map Lbl.d)] rfl ?_
                    refine OpsD.sub ((43, .v (.bool true)) :: [(0, .sh 2 (l.map Lbl.d)), (1, .sh 1 (names.map D.s)), (5, .ov v5), (6, .ov v6), (18, .v (.bool (!(lightL l) || decide ((10 : Int) < ((names.length : Nat) : Int))))), (20, .sh 2 (l.map Lbl.d)), (21, .sh 1 (names.map D.s)), (22, .ov v5), (23, .sh 2 (l.map Lbl.d)), (24, .sh 1 (names.map D.s)), (25, .ov v6), (26, .ov v5), (27, .sh 1 (names.map D.s)), (28, .ov v20), (29, .ov v5), (30, .v (.bool true)), (31, .v (.bool true)), (32, .ov v5), (33, .sh 1 (names.map D.s)), (34, .ov v21), (35, .v (.int .i64 (((pickL (pickL l names true) names false).length : Nat) : Int))), (36, .v (.bool true)), (37, .v (.bool true)), (38, .v (.bool true)), (39, .ov v6), (40, .sh 1 (names.map D.s)), (41, .ov v22), (42, .ov v6)]) ⟨se rfl (congrArg (fun b => D.v (.bool b)) hg10), sk rfl, sk rfl, sk rfl, sk rfl, sk rfl, sk rfl, sk rfl, sk rfl, sk rfl, sk rfl, sk rfl, sk rfl, sk rfl, sk rfl, sk rfl, sk rfl, sk rfl, sk rfl, sk rfl, sk rfl, sk rfl, sk rfl, sk rfl, sk rfl, sk rfl, sk rfl, sk rfl, sk rfl, trivial⟩ ?_
                    refine od_pu rfl rfl (p_pick_t rfl rfl) ?_
                    refine od_pu rfl rfl (p_move rfl) ?_
                    refine od_runp rfl rfl rfl rfl rfl (p_move rfl) ?_
                    refine od_runp rfl rfl rfl rfl rfl (p_move rfl) ?_
                    refine od_run rfl rfl rfl rfl rfl (ef_call [] _ [.sl v6 2 74 ((pickL l names false).map Lbl.d)] rfl rfl (.cons (ArgC.own (j := 0) rfl rfl) (.cons ArgC.id .nil)) (lend_cons (j := 3) rfl lend_nil) Try.call39 (only_c (pickL l names false) names (by omega)) (.inr (isOwn_flat (flatL_map (fun _ => rfl) _)))) ?_
                    rintro _ _ ⟨_, ⟨v23, rfl, rfl⟩, rfl⟩
                    refine OpsD.norm [.sl v23 2 74 ((pickL (pickL l names false) names true).map Lbl.d), .sl v22 2 74 ((pickL (pickL l names false) names false).map Lbl.d), .sl v21 2 74 ((pickL (pickL l names true) names false).map Lbl.d), .sl v20 2 74 ((pickL (pickL l names true) names true).map Lbl.d), .sl v6 2 74 ((pickL l names false).map Lbl.d), .sl v5 2 74 ((pickL l names true).map Lbl.d)] rfl ?_
                    refine od_runp rfl rfl rfl rfl rfl (p_len_own (n := (pickL (pickL l names false) names true).length) (j := 0) rfl rfl Try.runUnderlying32 (List.length_map _)) ?_
                    refine od_runp rfl rfl rfl rfl rfl (p_eql rfl rfl (decide_eq_true hg11)) ?_
                    refine od_pu rfl rfl (p_pick_t rfl rfl) ?_
                    refine od_pu rfl rfl (p_move rfl) ?_
                    refine od_runp rfl rfl rfl rfl rfl (p_move rfl) ?_
                    refine od_runp rfl rfl rfl rfl rfl (p_len_own (n := (pickL l names true).length) (j := 5) rfl rfl Try.runUnderlying32 (List.length_map _)) ?_
                    refine od_runp rfl rfl rfl rfl rfl (p_move rfl) ?_
                    refine od_runp rfl rfl rfl rfl rfl (p_len_own (n := (pickL l names false).length) (j := 4) rfl rfl Try.runUnderlying32 (List.length_map _)) ?_
                    refine od_runp rfl rfl rfl rfl rfl (p_add (c := ((((pickL l names true).length) + ((pickL l names false).length) : Nat) : Int)) rfl rfl (w64eq (by omega) (by omega))) ?_
                    refine od_runp rfl rfl rfl rfl rfl (p_move rfl) ?_
                    refine od_runp rfl rfl rfl rfl rfl (p_len (n := l.length) rfl Try.runUnderlying32 (by simp only [List.length_map, List.length_cons, List.length_nil])) ?_
                    refine od_runp rfl rfl rfl rfl rfl (p_eql rfl rfl (decide_eq_true hg12)) ?_
                    refine od_pu rfl rfl (p_pick_t rfl rfl) ?_
                    refine od_pu rfl rfl (p_move rfl) ?_
                    refine od_runp rfl rfl rfl rfl rfl (p_move rfl) ?_
                    refine od_run rfl rfl rfl rfl rfl (ef_call [] _ [] rfl rfl (.cons ArgC.id (.cons (ArgC.cv Cv.nil) .nil)) lend_nil Try.call39 (only_c l [] (by omega)) (.inl rfl)) ?_
                    rintro _ _ ⟨_, ⟨v24, rfl, rfl⟩, rfl⟩
                    refine OpsD.norm [.sl v24 2 74 ((pickL l [] true).map Lbl.d), .sl v23 2 74 ((pickL (pickL l names false) names true).map Lbl.d), .sl v22 2 74 ((pickL (pickL l names false) names false).map Lbl.d), .sl v21 2 74 ((pickL (pickL l names true) names false).map Lbl.d), .sl v20 2 74 ((pickL (pickL l names true) names true).map Lbl.d), .sl v6 2 74 ((pickL l names false).map Lbl.d), .sl v5 2 74 ((pickL l names true).map Lbl.d)] rfl ?_
                    refine od_runp rfl rfl rfl rfl rfl (p_len_own (n := (pickL l [] true).length) (j := 0) rfl rfl Try.runUnderlying32 (List.length_map _)) ?_
                    refine od_runp rfl rfl rfl rfl rfl (p_eql rfl rfl (decide_eq_false hg13)) ?_
                    refine od_pu rfl rfl (p_pick_t rfl rfl) ?_
                    refine od_pu rfl rfl (p_move rfl) ?_
                    refine od_skip rfl rfl rfl rfl rfl (by decide) ?_
                    refine od_skip rfl rfl rfl rfl rfl (by decide) ?_
                    refine od_skip rfl rfl rfl rfl rfl (by decide) ?_
                    refine od_skip rfl rfl rfl rfl rfl (by decide) ?_
                    refine od_pu rfl rfl (p_pick_f rfl rfl) ?_
                    refine od_pu rfl rfl (p_assign rfl) ?_
                    refine od_nil rfl ?_
                    refine PD.subH (HSub.lst 5 rfl) ?_
                    exact PD.sub ((4, .v (.bool ((((((decide (cmpLs (pickL (pickL l names true) names true) (pickL l names true) = 0) && decide ((((pickL (pickL l names true) names false).length : Nat) : Int) = (0 : Int))) && decide (cmpLs (pickL (pickL l names false) names false) (pickL l names false) = 0)) && decide ((((pickL (pickL l names false) names true).length : Nat) : Int) = (0 : Int))) && decide (((((pickL l names true).length) + ((pickL l names false).length) : Nat) : Int) = ((l.length : Nat) : Int))) && decide ((((pickL l [] true).length : Nat) : Int) = (0 : Int))) && decide (cmpLs (pickL l [] false) l = 0)))) :: [(0, .sh 2 (l.map Lbl.d)), (1, .sh 1 (names.map D.s)), (5, .ov v5), (6, .ov v6), (18, .v (.bool (!(lightL l) || decide ((10 : Int) < ((names.length : Nat) : Int))))), (20, .sh 2 (l.map Lbl.d)), (21, .sh 1 (names.map D.s)), (22, .ov v5), (23, .sh 2 (l.map Lbl.d)), (24, .sh 1 (names.map D.s)), (25, .ov v6)]) ⟨sc rfl (Cv.eq (congrArg (fun b => D.v (.bool b)) (by first | (simp [hg10, hg11, hg12, hg13, hg8, hg9]; done) | (simp_all; done)))), sk rfl, sk rfl, sk rfl, sk rfl, sk rfl, sk rfl, sk rfl, sk rfl, sk rfl, sk rfl, sk rfl, trivial⟩ hQ7
                · skip
                  refine jd_region rfl ?_
                  refine od_pu rfl rfl (p_move rfl) ?_
                  refine od_pu rfl rfl (p_move rfl) ?_
                  refine od_step rfl rfl (ef_call [] _ [.sl v5 2 74 ((pickL l names true).map Lbl.d)] rfl rfl (.cons (ArgC.own (j := 0) rfl rfl) (.cons ArgC.id .nil)) (lend_cons (j := 1) rfl lend_nil) Try.call39 (only_c (pickL l names true) names (by omega)) (.inr (isOwn_flat (flatL_map (fun _ => rfl) _)))) ?_
                  rintro _ _ ⟨_, ⟨v25, rfl, rfl⟩, rfl⟩
                  refine OpsD.norm [.sl v25 2 74 ((pickL (pickL l names true) names true).map Lbl.d), .sl v6 2 74 ((pickL l names false).map Lbl.d), .sl v5 2 74 ((pickL l names true).map Lbl.d)] rfl ?_
                  refine od_pu rfl rfl (p_move rfl) ?_
                  refine od_step rfl rfl (ef_call [] _ [.sl v25 2 74 ((pickL (pickL l names true) names true).map Lbl.d), .sl v5 2 74 ((pickL l names true).map Lbl.d)] rfl rfl (.cons (ArgC.own (j := 0) rfl rfl) (.cons (ArgC.own (j := 1) rfl rfl) .nil)) (lend_cons (j := 0) rfl (lend_cons (j := 2) rfl lend_nil)) Try.call44 (sameLs_c (pickL (pickL l names true) names true) (pickL l names true)) (.inr (isR_flat rfl))) ?_
                  rintro _ _ ⟨_, ⟨rfl, rfl⟩, rfl⟩
                  refine OpsD.norm [.sl v25 2 74 ((pickL (pickL l names true) names true).map Lbl.d), .sl v6 2 74 ((pickL l names false).map Lbl.d), .sl v5 2 74 ((pickL l names true).map Lbl.d)] rfl ?_
                  refine OpsD.sub ((30, .v (.bool true)) :: [(0, .sh 2 (l.map Lbl.d)), (1, .sh 1 (names.map D.s)), (5, .ov v5), (6, .ov v6), (18, .v (.bool (!(lightL l) || decide ((10 : Int) < ((names.length : Nat) : Int))))), (20, .sh 2 (l.map Lbl.d)), (21, .sh 1 (names.map D.s)), (22, .ov v5), (23, .sh 2 (l.map Lbl.d)), (24, .sh 1 (names.map D.s)), (25, .ov v6), (26, .ov v5), (27, .sh 1 (names.map D.s)), (28, .ov v25), (29, .ov v5)]) ⟨se rfl (congrArg (fun b => D.v (.bool b)) hg8), sk rfl, sk rfl, sk rfl, sk rfl, sk rfl, sk rfl, sk rfl, sk rfl, sk rfl, sk rfl, sk rfl, sk rfl, sk rfl, sk rfl, sk rfl, trivial⟩ ?_
                  refine od_pu rfl rfl (p_move rfl) ?_
                  refine od_runp rfl rfl rfl rfl rfl (p_move rfl) ?_
                  refine od_runp rfl rfl rfl rfl rfl (p_move rfl) ?_
                  refine od_run rfl rfl rfl rfl rfl (ef_call [] _ [.sl v5 2 74 ((pickL l names true).map Lbl.d)] rfl rfl (.cons (ArgC.own (j := 0) rfl rfl) (.cons ArgC.id .nil)) (lend_cons (j := 2) rfl lend_nil) Try.call43 (without_c (pickL l names true) names (by omega)) (.inr (isOwn_flat (flatL_map (fun _ => rfl) _)))) ?_
                  rintro _ _ ⟨_, ⟨v26, rfl, rfl⟩, rfl⟩
                  refine OpsD.norm [.sl v26 2 74 ((pickL (pickL l names true) names false).map Lbl.d), .sl v25 2 74 ((pickL (pickL l names true) names true).map Lbl.d), .sl v6 2 74 ((pickL l names false).map Lbl.d), .sl v5 2 74 ((pickL l names true).map Lbl.d)] rfl ?_
                  refine od_runp rfl rfl rfl rfl rfl (p_len_own (n := (pickL (pickL l names true) names false).length) (j := 0) rfl rfl Try.runUnderlying32 (List.length_map _)) ?_
                  refine od_runp rfl rfl rfl rfl rfl (p_eql rfl rfl (decide_eq_true hg9)) ?_
                  refine od_pu rfl rfl (p_pick_t rfl rfl) ?_
                  refine od_pu rfl rfl (p_move rfl) ?_
                  refine od_runp rfl rfl rfl rfl rfl (p_move rfl) ?_
                  refine od_runp rfl rfl rfl rfl rfl (p_move rfl) ?_
                  refine od_run rfl rfl rfl rfl rfl (ef_call [] _ [.sl v6 2 74 ((pickL l names false).map Lbl.d)] rfl rfl (.cons (ArgC.own (j := 0) rfl rfl) (.cons ArgC.id .nil)) (lend_cons (j := 2) rfl lend_nil) Try.call43 (without_c (pickL l names false) names (by omega)) (.inr (isOwn_flat (flatL_map (fun _ => rfl) _)))) ?_
                  rintro _ _ ⟨_, ⟨v27, rfl, rfl⟩, rfl⟩
                  refine OpsD.norm [.sl v27 2 74 ((pickL (pickL l names false) names false).map Lbl.d), .sl v26 2 74 ((pickL (pickL l names true) names false).map Lbl.d), .sl v25 2 74 ((pickL (pickL l names true) names true).map Lbl.d), .sl v6 2 74 ((pickL l names false).map Lbl.d), .sl v5 2 74 ((pickL l names true).map Lbl.d)] rfl ?_
                  refine od_runp rfl rfl rfl rfl rfl (p_move rfl) ?_
                  refine od_run rfl rfl rfl rfl rfl (ef_call [] _ [.sl v27 2 74 ((pickL (pickL l names false) names false).map Lbl.d), .sl v6 2 74 ((pickL l names false).map Lbl.d)] rfl rfl (.cons (ArgC.own (j := 0) rfl rfl) (.cons (ArgC.own (j := 1) rfl rfl) .nil)) (lend_cons (j := 0) rfl (lend_cons (j := 3) rfl lend_nil)) Try.call44 (sameLs_c (pickL (pickL l names false) names false) (pickL l names false)) (.inr (isR_flat rfl))) ?_
                  rintro _ _ ⟨_, ⟨rfl, rfl⟩, rfl⟩
                  refine OpsD.norm [.sl v27 2 74 ((pickL (pickL l names false) names false).map Lbl.d), .sl v26 2 74 ((pickL (pickL l names true) names false).map Lbl.d), .sl v25 2 74 ((pickL (pickL l names true) names true).map Lbl.d), .sl v6 2 74 ((pickL l names false).map Lbl.d), .sl v5 2 74 ((pickL l names true).map Lbl.d)] rfl ?_
                  refine OpsD.sub ((43, .v (.bool true)) :: [(0, .sh 2 (l.map Lbl.d)), (1, .sh 1 (names.map D.s)), (5, .ov v5), (6, .ov v6), (18, .v (.bool (!(lightL l) || decide ((10 : Int) < ((names.length : Nat) : Int))))), (20, .sh 2 (l.map Lbl.d)), (21, .sh 1 (names.map D.s)), (22, .ov v5), (23, .sh 2 (l.map Lbl.d)), (24, .sh 1 (names.map D.s)), (25, .ov v6), (26, .ov v5), (27, .sh 1 (names.map D.s)), (28, .ov v25), (29, .ov v5), (30, .v (.bool true)), (31, .v (.bool true)), (32, .ov v5), (33, .sh 1 (names.map D.s)), (34, .ov v26), (35, .v (.int .i64 (((pickL (pickL l names true) names false).length : Nat) : Int))), (36, .v (.bool true)), (37, .v (.bool true)), (38, .v (.bool true)), (39, .ov v6), (40, .sh 1 (names.map D.s)), (41, .ov v27), (42, .ov v6)]) ⟨se rfl (congrArg (fun b => D.v (.bool b)) hg10), sk rfl, sk rfl, sk rfl, sk rfl, sk rfl, sk rfl, sk rfl, sk rfl, sk rfl, sk rfl, sk rfl, sk rfl, sk rfl, sk rfl, sk rfl, sk rfl, sk rfl, sk rfl, sk rfl, sk rfl, sk rfl, sk rfl, sk rfl, sk rfl, sk rfl, sk rfl, sk rfl, sk rfl, trivial⟩ ?_
                  refine od_pu rfl rfl (p_pick_t rfl rfl) ?_
                  refine od_pu rfl rfl (p_move rfl) ?_
                  refine od_runp rfl rfl rfl rfl rfl (p_move rfl) ?_
                  refine od_runp rfl rfl rfl rfl rfl (p_move rfl) ?_
                  refine od_run rfl rfl rfl rfl rfl (ef_call [] _ [.sl v6 2 74 ((pickL l names false).map Lbl.d)] rfl rfl (.cons (ArgC.own (j := 0) rfl rfl) (.cons ArgC.id .nil)) (lend_cons (j := 3) rfl lend_nil) Try.call39 (only_c (pickL l names false) names (by omega)) (.inr (isOwn_flat (flatL_map (fun _ => rfl) _)))) ?_
                  rintro _ _ ⟨_, ⟨v28, rfl, rfl⟩, rfl⟩
                  refine OpsD.norm [.sl v28 2 74 ((pickL (pickL l names false) names true).map Lbl.d), .sl v27 2 74 ((pickL (pickL l names false) names false).map Lbl.d), .sl v26 2 74 ((pickL (pickL l names true) names false).map Lbl.d), .sl v25 2 74 ((pickL (pickL l names true) names true).map Lbl.d), .sl v6 2 74 ((pickL l names false).map Lbl.d), .sl v5 2 74 ((pickL l names true).map Lbl.d)] rfl ?_
                  refine od_runp rfl rfl rfl rfl rfl (p_len_own (n := (pickL (pickL l names false) names true).length) (j := 0) rfl rfl Try.runUnderlying32 (List.length_map _)) ?_
                  refine od_runp rfl rfl rfl rfl rfl (p_eql rfl rfl (decide_eq_true hg11)) ?_
                  refine od_pu rfl rfl (p_pick_t rfl rfl) ?_
                  refine od_pu rfl rfl (p_move rfl) ?_
                  refine od_runp rfl rfl rfl rfl rfl (p_move rfl) ?_
                  refine od_runp rfl rfl rfl rfl rfl (p_len_own (n := (pickL l names true).length) (j := 5) rfl rfl Try.runUnderlying32 (List.length_map _)) ?_
                  refine od_runp rfl rfl rfl rfl rfl (p_move rfl) ?_
                  refine od_runp rfl rfl rfl rfl rfl (p_len_own (n := (pickL l names false).length) (j := 4) rfl rfl Try.runUnderlying32 (List.length_map _)) ?_
                  refine od_runp rfl rfl rfl rfl rfl (p_add (c := ((((pickL l names true).length) + ((pickL l names false).length) : Nat) : Int)) rfl rfl (w64eq (by omega) (by omega))) ?_
                  refine od_runp rfl rfl rfl rfl rfl (p_move rfl) ?_
                  refine od_runp rfl rfl rfl rfl rfl (p_len (n := l.length) rfl Try.runUnderlying32 (by simp only [List.length_map, List.length_cons, List.length_nil])) ?_
                  refine od_runp rfl rfl rfl rfl rfl (p_eql rfl rfl (decide_eq_false hg12)) ?_
                  refine od_pu rfl rfl (p_pick_t rfl rfl) ?_
                  refine od_pu rfl rfl (p_move rfl) ?_
                  refine od_skip rfl rfl rfl rfl rfl (by decide) ?_
                  refine od_skip rfl rfl rfl rfl rfl (by decide) ?_
                  refine od_skip rfl rfl rfl rfl rfl (by decide) ?_
                  refine od_skip rfl rfl rfl rfl rfl (by decide) ?_
                  refine od_pu rfl rfl (p_pick_f rfl rfl) ?_
                  refine od_pu rfl rfl (p_move rfl) ?_
                  refine od_skip rfl rfl rfl rfl rfl (by decide) ?_
                  refine od_skip rfl rfl rfl rfl rfl (by decide) ?_
                  refine od_skip rfl rfl rfl rfl rfl (by decide) ?_
                  refine od_skip rfl rfl rfl rfl rfl (by decide) ?_
                  refine od_pu rfl rfl (p_pick_f rfl rfl) ?_
                  refine od_pu rfl rfl (p_assign rfl) ?_
                  refine od_nil rfl ?_
                  refine PD.subH (HSub.lst 4 rfl) ?_
                  exact PD.sub ((4, .v (.bool ((((((decide (cmpLs (pickL (pickL l names true) names true) (pickL l names true) = 0) && decide ((((pickL (pickL l names true) names false).length : Nat) : Int) = (0 : Int))) && decide (cmpLs (pickL (pickL l names false) names false) (pickL l names false) = 0)) && decide ((((pickL (pickL l names false) names true).length : Nat) : Int) = (0 : Int))) && decide (((((pickL l names true).length) + ((pickL l names false).length) : Nat) : Int) = ((l.length : Nat) : Int))) && decide ((((pickL l [] true).length : Nat) : Int) = (0 : Int))) && decide (cmpLs (pickL l [] false) l = 0)))) :: [(0, .sh 2 (l.map Lbl.d)), (1, .sh 1 (names.map D.s)), (5, .ov v5), (6, .ov v6), (18, .v (.bool (!(lightL l) || decide ((10 : Int) < ((names.length : Nat) : Int))))), (20, .sh 2 (l.map Lbl.d)), (21, .sh 1 (names.map D.s)), (22, .ov v5), (23, .sh 2 (l.map Lbl.d)), (24, .sh 1 (names.map D.s)), (25, .ov v6)]) ⟨sc rfl (Cv.eq (congrArg (fun b => D.v (.bool b)) (by first | (simp [hg10, hg11, hg12, hg8, hg9]; done) | (simp_all; done)))), sk rfl, sk rfl, sk rfl, sk rfl, sk rfl, sk rfl, sk rfl, sk rfl, sk rfl, sk rfl, sk rfl, trivial⟩ hQ7
              · skip
                refine jd_region rfl ?_
                refine od_pu rfl rfl (p_move rfl) ?_
                refine od_pu rfl rfl (p_move rfl) ?_
                refine od_step rfl rfl (ef_call [] _ [.sl v5 2 74 ((pickL l names true).map Lbl.d)] rfl rfl (.cons (ArgC.own (j := 0) rfl rfl) (.cons ArgC.id .nil)) (lend_cons (j := 1) rfl lend_nil) Try.call39 (only_c (pickL l names true) names (by omega)) (.inr (isOwn_flat (flatL_map (fun _ => rfl) _)))) ?_
                rintro _ _ ⟨_, ⟨v29, rfl, rfl⟩, rfl⟩
                refine OpsD.norm [.sl v29 2 74 ((pickL (pickL l names true) names true).map Lbl.d), .sl v6 2 74 ((pickL l names false).map Lbl.d), .sl v5 2 74 ((pickL l names true).map Lbl.d)] rfl ?_
                refine od_pu rfl rfl (p_move rfl) ?_
                refine od_step rfl rfl (ef_call [] _ [.sl v29 2 74 ((pickL (pickL l names true) names true).map Lbl.d), .sl v5 2 74 ((pickL l names true).map Lbl.d)] rfl rfl (.cons (ArgC.own (j := 0) rfl rfl) (.cons (ArgC.own (j := 1) rfl rfl) .nil)) (lend_cons (j := 0) rfl (lend_cons (j := 2) rfl lend_nil)) Try.call44 (sameLs_c (pickL (pickL l names true) names true) (pickL l names true)) (.inr (isR_flat rfl))) ?_
                rintro _ _ ⟨_, ⟨rfl, rfl⟩, rfl⟩
                refine OpsD.norm [.sl v29 2 74 ((pickL (pickL l names true) names true).map Lbl.d), .sl v6 2 74 ((pickL l names false).map Lbl.d), .sl v5 2 74 ((pickL l names true).map Lbl.d)] rfl ?_
                refine OpsD.sub ((30, .v (.bool true)) :: [(0, .sh 2 (l.map Lbl.d)), (1, .sh 1 (names.map D.s)), (5, .ov v5), (6, .ov v6), (18, .v (.bool (!(lightL l) || decide ((10 : Int) < ((names.length : Nat) : Int))))), (20, .sh 2 (l.map Lbl.d)), (21, .sh 1 (names.map D.s)), (22, .ov v5), (23, .sh 2 (l.map Lbl.d)), (24, .sh 1 (names.map D.s)), (25, .ov v6), (26, .ov v5), (27, .sh 1 (names.map D.s)), (28, .ov v29), (29, .ov v5)]) ⟨se rfl (congrArg (fun b => D.v (.bool b)) hg8), sk rfl, sk rfl, sk rfl, sk rfl, sk rfl, sk rfl, sk rfl, sk rfl, sk rfl, sk rfl, sk rfl, sk rfl, sk rfl, sk rfl, sk rfl, trivial⟩ ?_
                refine od_pu rfl rfl (p_move rfl) ?_
                refine od_runp rfl rfl rfl rfl rfl (p_move rfl) ?_
                refine od_runp rfl rfl rfl rfl rfl (p_move rfl) ?_
                refine od_run rfl rfl rfl rfl rfl (ef_call [] _ [.sl v5 2 74 ((pickL l names true).map Lbl.d)] rfl rfl (.cons (ArgC.own (j := 0) rfl rfl) (.cons ArgC.id .nil)) (lend_cons (j := 2) rfl lend_nil) Try.call43 (without_c (pickL l names true) names (by omega)) (.inr (isOwn_flat (flatL_map (fun _ => rfl) _)))) ?_
                rintro _ _ ⟨_, ⟨v30, rfl, rfl⟩, rfl⟩
                refine OpsD.norm [.sl v30 2 74 ((pickL (pickL l names true) names false).map Lbl.d), .sl v29 2 74 ((pickL (pickL l names true) names true).map Lbl.d), .sl v6 2 74 ((pickL l names false).map Lbl.d), .sl v5 2 74 ((pickL l names true).map Lbl.d)] rfl ?_
                refine od_runp rfl rfl rfl rfl rfl (p_len_own (n := (pickL (pickL l names true) names false).length) (j := 0) rfl rfl Try.runUnderlying32 (List.length_map _)) ?_
                refine od_runp rfl rfl rfl rfl rfl (p_eql rfl rfl (decide_eq_true hg9)) ?_
                refine od_pu rfl rfl (p_pick_t rfl rfl) ?_
                refine od_pu rfl rfl (p_move rfl) ?_
                refine od_runp rfl rfl rfl rfl rfl (p_move rfl) ?_
                refine od_runp rfl rfl rfl rfl rfl (p_move rfl) ?_
                refine od_run rfl rfl rfl rfl rfl (ef_call [] _ [.sl v6 2 74 ((pickL l names false).map Lbl.d)] rfl rfl (.cons (ArgC.own (j := 0) rfl rfl) (.cons ArgC.id .nil)) (lend_cons (j := 2) rfl lend_nil) Try.call43 (without_c (pickL l names false) names (by omega)) (.inr (isOwn_flat (flatL_map (fun _ => rfl) _)))) ?_
                rintro _ _ ⟨_, ⟨v31, rfl, rfl⟩, rfl⟩
                refine OpsD.norm [.sl v31 2 74 ((pickL (pickL l names false) names false).map Lbl.d), .sl v30 2 74 ((pickL (pickL l names true) names false).map Lbl.d), .sl v29 2 74 ((pickL (pickL l names true) names true).map Lbl.d), .sl v6 2 74 ((pickL l names false).map Lbl.d), .sl v5 2 74 ((pickL l names true).map Lbl.d)] rfl ?_
                refine od_runp rfl rfl rfl rfl rfl (p_move rfl) ?_
                refine od_run rfl rfl rfl rfl rfl (ef_call [] _ [.sl v31 2 74 ((pickL (pickL l names false) names false).map Lbl.d), .sl v6 2 74 ((pickL l names false).map Lbl.d)] rfl rfl (.cons (ArgC.own (j := 0) rfl rfl) (.cons (ArgC.own (j := 1) rfl rfl) .nil)) (lend_cons (j := 0) rfl (lend_cons (j := 3) rfl lend_nil)) Try.call44 (sameLs_c (pickL (pickL l names false) names false) (pickL l names false)) (.inr (isR_flat rfl))) ?_
                rintro _ _ ⟨_, ⟨rfl, rfl⟩, rfl⟩
                refine OpsD.norm [.sl v31 2 74 ((pickL (pickL l names false) names false).map Lbl.d), .sl v30 2 74 ((pickL (pickL l names true) names false).map Lbl.d), .sl v29 2 74 ((pickL (pickL l names true) names true).map Lbl.d), .sl v6 2 74 ((pickL l names false).map Lbl.d), .sl v5 2 74 ((pickL l names true).map Lbl.d)] rfl ?_
                refine OpsD.sub ((43, .v (.bool true)) :: [(0, .sh 2 (l.map Lbl.d)), (1, .sh 1 (names.map D.s)), (5, .ov v5), (6, .ov v6), (18, .v (.bool (!(lightL l) || decide ((10 : Int) < ((names.length : Nat) : Int))))), (20, .sh 2 (l.map Lbl.d)), (21, .sh 1 (names.map D.s)), (22, .ov v5), (23, .sh 2 (l.map Lbl.d)), (24, .sh 1 (names.map D.s)), (25, .ov v6), (26, .ov v5), (27, .sh 1 (names.map D.s)), (28, .ov v29), (29, .ov v5), (30, .v (.bool true)), (31, .v (.bool true)), (32, .ov v5), (33, .sh 1 (names.map D.s)), (34, .ov v30), (35, .v (.int .i64 (((pickL (pickL l names true) names false).length : Nat) : Int))), (36, .v (.bool true)), (37, .v (.bool true)), (38, .v (.bool true)), (39, .ov v6), (40, .sh 1 (names.map D.s)), (41, .ov v31), (42, .ov v6)]) ⟨se rfl (congrArg (fun b => D.v (.bool b)) hg10), sk rfl, sk rfl, sk rfl, sk rfl, sk rfl, sk rfl, sk rfl, sk rfl, sk rfl, sk rfl, sk rfl, sk rfl, sk rfl, sk rfl, sk rfl, sk rfl, sk rfl, sk rfl, sk rfl, sk rfl, sk rfl, sk rfl, sk rfl, sk rfl, sk rfl, sk rfl, sk rfl, sk rfl, trivial⟩ ?_
                refine od_pu rfl rfl (p_pick_t rfl rfl) ?_
                refine od_pu rfl rfl (p_move rfl) ?_
                refine od_runp rfl rfl rfl rfl rfl (p_move rfl) ?_
                refine od_runp rfl rfl rfl rfl rfl (p_move rfl) ?_
                refine od_run rfl rfl rfl rfl rfl (ef_call [] _ [.sl v6 2 74 ((pickL l names false).map Lbl.d)] rfl rfl (.cons (ArgC.own (j := 0) rfl rfl) (.cons ArgC.id .nil)) (lend_cons (j := 3) rfl lend_nil) Try.call39 (only_c (pickL l names false) names (by omega)) (.inr (isOwn_flat (flatL_map (fun _ => rfl) _)))) ?_
                rintro _ _ ⟨_, ⟨v32, rfl, rfl⟩, rfl⟩
                refine OpsD.norm [.sl v32 2 74 ((pickL (pickL l names false) names true).map Lbl.d), .sl v31 2 74 ((pickL (pickL l names false) names false).map Lbl.d), .sl v30 2 74 ((pickL (pickL l names true) names false).map Lbl.d), .sl v29 2 74 ((pickL (pickL l names true) names true).map Lbl.d), .sl v6 2 74 ((pickL l names false).map Lbl.d), .sl v5 2 74 ((pickL l names true).map Lbl.d)] rfl ?_
                refine od_runp rfl rfl rfl rfl rfl (p_len_own (n := (pickL (pickL l names false) names true).length) (j := 0) rfl rfl Try.runUnderlying32 (List.length_map _)) ?_
                refine od_runp rfl rfl rfl rfl rfl (p_eql rfl rfl (decide_eq_false hg11)) ?_
                refine od_pu rfl rfl (p_pick_t rfl rfl) ?_
                refine od_pu rfl rfl (p_move rfl) ?_
                refine od_skip rfl rfl rfl rfl rfl (by decide) ?_
                refine od_skip rfl rfl rfl rfl rfl (by decide) ?_
                refine od_skip rfl rfl rfl rfl rfl (by decide) ?_
                refine od_skip rfl rfl rfl rfl rfl (by decide) ?_
                refine od_skip rfl rfl rfl rfl rfl (by decide) ?_
                refine od_skip rfl rfl rfl rfl rfl (by decide) ?_
                refine od_skip rfl rfl rfl rfl rfl (by decide) ?_
                refine od_skip rfl rfl rfl rfl rfl (by decide) ?_
                refine od_pu rfl rfl (p_pick_f rfl rfl) ?_
                refine od_pu rfl rfl (p_move rfl) ?_
                refine od_skip rfl rfl rfl rfl rfl (by decide) ?_
                refine od_skip rfl rfl rfl rfl rfl (by decide) ?_
                refine od_skip rfl rfl rfl rfl rfl (by decide) ?_
                refine od_skip rfl rfl rfl rfl rfl (by decide) ?_
                refine od_pu rfl rfl (p_pick_f rfl rfl) ?_
                refine od_pu rfl rfl (p_move rfl) ?_
                refine od_skip rfl rfl rfl rfl rfl (by decide) ?_
                refine od_skip rfl rfl rfl rfl rfl (by decide) ?_
                refine od_skip rfl rfl rfl rfl rfl (by decide) ?_
                refine od_skip rfl rfl rfl rfl rfl (by decide) ?_
                refine od_pu rfl rfl (p_pick_f rfl rfl) ?_
                refine od_pu rfl rfl (p_assign rfl) ?_
                refine od_nil rfl ?_
                refine PD.subH (HSub.lst 4 rfl) ?_
                exact PD.sub ((4, .v (.bool ((((((decide (cmpLs (pickL (pickL l names true) names true) (pickL l names true) = 0) && decide ((((pickL (pickL l names true) names false).length : Nat) : Int) = (0 : Int))) && decide (cmpLs (pickL (pickL l names false) names false) (pickL l names false) = 0)) && decide ((((pickL (pickL l names false) names true).length : Nat) : Int) = (0 : Int))) && decide (((((pickL l names true).length) + ((pickL l names false).length) : Nat) : Int) = ((l.length : Nat) : Int))) && decide ((((pickL l [] true).length : Nat) : Int) = (0 : Int))) && decide (cmpLs (pickL l [] false) l = 0)))) :: [(0, .sh 2 (l.map Lbl.d)), (1, .sh 1 (names.map D.s)), (5, .ov v5), (6, .ov v6), (18, .v (.bool (!(lightL l) || decide ((10 : Int) < ((names.length : Nat) : Int))))), (20, .sh 2 (l.map Lbl.d)), (21, .sh 1 (names.map D.s)), (22, .ov v5), (23, .sh 2 (l.map Lbl.d)), (24, .sh 1 (names.map D.s)), (25, .ov v6)]) ⟨sc rfl (Cv.eq (congrArg (fun b => D.v (.bool b)) (by first | (simp [hg10, hg11, hg8, hg9]; done) | (simp_all; done)))), sk rfl, sk rfl, sk rfl, sk rfl, sk rfl, sk rfl, sk rfl, sk rfl, sk rfl, sk rfl, sk rfl, trivial⟩ hQ7
            · skip
              refine jd_region rfl ?_
              refine od_pu rfl rfl (p_move rfl) ?_
              refine od_pu rfl rfl (p_move rfl) ?_
              refine od_step rfl rfl (ef_call [] _ [.sl v5 2 74 ((pickL l names true).map Lbl.d)] rfl rfl (.cons (ArgC.own (j := 0) rfl rfl) (.cons ArgC.id .nil)) (lend_cons (j := 1) rfl lend_nil) Try.call39 (only_c (pickL l names true) names (by omega)) (.inr (isOwn_flat (flatL_map (fun _ => rfl) _)))) ?_
              rintro _ _ ⟨_, ⟨v33, rfl, rfl⟩, rfl⟩
              refine OpsD.norm [.sl v33 2 74 ((pickL (pickL l names true) names true).map Lbl.d), .sl v6 2 74 ((pickL l names false).map Lbl.d), .sl v5 2 74 ((pickL l names true).map Lbl.d)] rfl ?_
              refine od_pu rfl rfl (p_move rfl) ?_
              refine od_step rfl rfl (ef_call [] _ [.sl v33 2 74 ((pickL (pickL l names true) names true).map Lbl.d), .sl v5 2 74 ((pickL l names true).map Lbl.d)] rfl rfl (.cons (ArgC.own (j := 0) rfl rfl) (.cons (ArgC.own (j := 1) rfl rfl) .nil)) (lend_cons (j := 0) rfl (lend_cons (j := 2) rfl lend_nil)) Try.call44 (sameLs_c (pickL (pickL l names true) names true) (pickL l names true)) (.inr (isR_flat rfl))) ?_
              rintro _ _ ⟨_, ⟨rfl, rfl⟩, rfl⟩
              refine OpsD.norm [.sl v33 2 74 ((pickL (pickL l names true) names true).map Lbl.d), .sl v6 2 74 ((pickL l names false).map Lbl.d), .sl v5 2 74 ((pickL l names true).map Lbl.d)] rfl ?_
              refine OpsD.sub ((30, .v (.bool true)) :: [(0, .sh 2 (l.map Lbl.d)), (1, .sh 1 (names.map D.s)), (5, .ov v5), (6, .ov v6), (18, .v (.bool (!(lightL l) || decide ((10 : Int) < ((names.length : Nat) : Int))))), (20, .sh 2 (l.map Lbl.d)), (21, .sh 1 (names.map D.s)), (22, .ov v5), (23, .sh 2 (l.map Lbl.d)), (24, .sh 1 (names.map D.s)), (25, .ov v6), (26, .ov v5), (27, .sh 1 (names.map D.s)), (28, .ov v33), (29, .ov v5)]) ⟨se rfl (congrArg (fun b => D.v (.bool b)) hg8), sk rfl, sk rfl, sk rfl, sk rfl, sk rfl, sk rfl, sk rfl, sk rfl, sk rfl, sk rfl, sk rfl, sk rfl, sk rfl, sk rfl, sk rfl, trivial⟩ ?_
              refine od_pu rfl rfl (p_move rfl) ?_
              refine od_runp rfl rfl rfl rfl rfl (p_move rfl) ?_
              refine od_runp rfl rfl rfl rfl rfl (p_move rfl) ?_
              refine od_run rfl rfl rfl rfl rfl (ef_call [] _ [.sl v5 2 74 ((pickL l names true).map Lbl.d)] rfl rfl (.cons (ArgC.own (j := 0) rfl rfl) (.cons ArgC.id .nil)) (lend_cons (j := 2) rfl lend_nil) Try.call43 (without_c (pickL l names true) names (by omega)) (.inr (isOwn_flat (flatL_map (fun _ => rfl) _)))) ?_
              rintro _ _ ⟨_, ⟨v34, rfl, rfl⟩, rfl⟩
              refine OpsD.norm [.sl v34 2 74 ((pickL (pickL l names true) names false).map Lbl.d), .sl v33 2 74 ((pickL (pickL l names true) names true).map Lbl.d), .sl v6 2 74 ((pickL l names false).map Lbl.d), .sl v5 2 74 ((pickL l names true).map Lbl.d)] rfl ?_
              refine od_runp rfl rfl rfl rfl rfl (p_len_own (n := (pickL (pickL l names true) names false).length) (j := 0) rfl rfl Try.runUnderlying32 (List.length_map _)) ?_
              refine od_runp rfl rfl rfl rfl rfl (p_eql rfl rfl (decide_eq_true hg9)) ?_
              refine od_pu rfl rfl (p_pick_t rfl rfl) ?_
              refine od_pu rfl rfl (p_move rfl) ?_
              refine od_runp rfl rfl rfl rfl rfl (p_move rfl) ?_
              refine od_runp rfl rfl rfl rfl rfl (p_move rfl) ?_
              refine od_run rfl rfl rfl rfl rfl (ef_call [] _ [.sl v6 2 74 ((pickL l names false).map Lbl.d)] rfl rfl (.cons (ArgC.own (j := 0) rfl rfl) (.cons ArgC.id .nil)) (lend_cons (j := 2) rfl lend_nil) Try.call43 (without_c (pickL l names false) names (by omega)) (.inr (isOwn_flat (flatL_map (fun _ => rfl) _)))) ?_
              rintro _ _ ⟨_, ⟨v35, rfl, rfl⟩, rfl⟩
              refine OpsD.norm [.sl v35 2 74 ((pickL (pickL l names false) names false).map Lbl.d), .sl v34 2 74 ((pickL (pickL l names true) names false).map Lbl.d), .sl v33 2 74 ((pickL (pickL l names true) names true).map Lbl.d), .sl v6 2 74 ((pickL l names false).map Lbl.d), .sl v5 2 74 ((pickL l names true).map Lbl.d)] rfl ?_
              refine od_runp rfl rfl rfl rfl rfl (p_move rfl) ?_
              refine od_run rfl rfl rfl rfl rfl (ef_call [] _ [.sl v35 2 74 ((pickL (pickL l names false) names false).map Lbl.d), .sl v6 2 74 ((pickL l names false).map Lbl.d)] rfl rfl (.cons (ArgC.own (j := 0) rfl rfl) (.cons (ArgC.own (j := 1) rfl rfl) .nil)) (lend_cons (j := 0) rfl (lend_cons (j := 3) rfl lend_nil)) Try.call44 (sameLs_c (pickL (pickL l names false) names false) (pickL l names false)) (.inr (isR_flat rfl))) ?_
              rintro _ _ ⟨_, ⟨rfl, rfl⟩, rfl⟩
              refine OpsD.norm [.sl v35 2 74 ((pickL (pickL l names false) names false).map Lbl.d), .sl v34 2 74 ((pickL (pickL l names true) names false).map Lbl.d), .sl v33 2 74 ((pickL (pickL l names true) names true).map Lbl.d), .sl v6 2 74 ((pickL l names false).map Lbl.d), .sl v5 2 74 ((pickL l names true).map Lbl.d)] rfl ?_
              refine OpsD.sub ((43, .v (.bool false)) :: [(0, .sh 2 (l.map Lbl.d)), (1, .sh 1 (names.map D.s)), (5, .ov v5), (6, .ov v6), (18, .v (.bool (!(lightL l) || decide ((10 : Int) < ((names.length : Nat) : Int))))), (20, .sh 2 (l.map Lbl.d)), (21, .sh 1 (names.map D.s)), (22, .ov v5), (23, .sh 2 (l.map Lbl.d)), (24, .sh 1 (names.map D.s)), (25, .ov v6), (26, .ov v5), (27, .sh 1 (names.map D.s)), (28, .ov v33), (29, .ov v5), (30, .v (.bool true)), (31, .v (.bool true)), (32, .ov v5), (33, .sh 1 (names.map D.s)), (34, .ov v34), (35, .v (.int .i64 (((pickL (pickL l names true) names false).length : Nat) : Int))), (36, .v (.bool true)), (37, .v (.bool true)), (38, .v (.bool true)), (39, .ov v6), (40, .sh 1 (names.map D.s)), (41, .ov v35), (42, .ov v6)]) ⟨se rfl (congrArg (fun b => D.v (.bool b)) hg10), sk rfl, sk rfl, sk rfl, sk rfl, sk rfl, sk rfl, sk rfl, sk rfl, sk rfl, sk rfl, sk rfl, sk rfl, sk rfl, sk rfl, sk rfl, sk rfl, sk rfl, sk rfl, sk rfl, sk rfl, sk rfl, sk rfl, sk rfl, sk rfl, sk rfl, sk rfl, sk rfl, sk rfl, trivial⟩ ?_
              refine od_pu rfl rfl (p_pick_t rfl rfl) ?_
              refine od_pu rfl rfl (p_move rfl) ?_
              refine od_skip rfl rfl rfl rfl rfl (by decide) ?_
              refine od_skip rfl rfl rfl rfl rfl (by decide) ?_
              refine od_skip rfl rfl rfl rfl rfl (by decide) ?_
              refine od_skip rfl rfl rfl rfl rfl (by decide) ?_
              refine od_skip rfl rfl rfl rfl rfl (by decide) ?_
              refine od_pu rfl rfl (p_pick_f rfl rfl) ?_
              refine od_pu rfl rfl (p_move rfl) ?_
              refine od_skip rfl rfl rfl rfl rfl (by decide) ?_
              refine od_skip rfl rfl rfl rfl rfl (by decide) ?_
              refine od_skip rfl rfl rfl rfl rfl (by decide) ?_
              refine od_skip rfl rfl rfl rfl rfl (by decide) ?_
              refine od_skip rfl rfl rfl rfl rfl (by decide) ?_
              refine od_skip rfl rfl rfl rfl rfl (by decide) ?_
              refine od_skip rfl rfl rfl rfl rfl (by decide) ?_
              refine od_skip rfl rfl rfl rfl rfl (by decide) ?_
              refine od_pu rfl rfl (p_pick_f rfl rfl) ?_
              refine od_pu rfl rfl (p_move rfl) ?_
              refine od_skip rfl rfl rfl rfl rfl (by decide) ?_
              refine od_skip rfl rfl rfl rfl rfl (by decide) ?_
              refine od_skip rfl rfl rfl rfl rfl (by decide) ?_
              refine od_skip rfl rfl rfl rfl rfl (by decide) ?_
              refine od_pu rfl rfl (p_pick_f rfl rfl) ?_
              refine od_pu rfl rfl (p_move rfl) ?_
              refine od_skip rfl rfl rfl rfl rfl (by decide) ?_
              refine od_skip rfl rfl rfl rfl rfl (by decide) ?_
              refine od_skip rfl rfl rfl rfl rfl (by decide) ?_
              refine od_skip rfl rfl rfl rfl rfl (by decide) ?_
              refine od_pu rfl rfl (p_pick_f rfl rfl) ?_
              refine od_pu rfl rfl (p_assign rfl) ?_
              refine od_nil rfl ?_
              refine PD.subH (HSub.lst 3 rfl) ?_
              exact PD.sub ((4, .v (.bool ((((((decide (cmpLs (pickL (pickL l names true) names true) (pickL l names true) = 0) && decide ((((pickL (pickL l names true) names false).length : Nat) : Int) = (0 : Int))) && decide (cmpLs (pickL (pickL l names false) names false) (pickL l names false) = 0)) && decide ((((pickL (pickL l names false) names true).length : Nat) : Int) = (0 : Int))) && decide (((((pickL l names true).length) + ((pickL l names false).length) : Nat) : Int) = ((l.length : Nat) : Int))) && decide ((((pickL l [] true).length : Nat) : Int) = (0 : Int))) && decide (cmpLs (pickL l [] false) l = 0)))) :: [(0, .sh 2 (l.map Lbl.d)), (1, .sh 1 (names.map D.s)), (5, .ov v5), (6, .ov v6), (18, .v (.bool (!(lightL l) || decide ((10 : Int) < ((names.length : Nat) : Int))))), (20, .sh 2 (l.map Lbl.d)), (21, .sh 1 (names.map D.s)), (22, .ov v5), (23, .sh 2 (l.map Lbl.d)), (24, .sh 1 (names.map D.s)), (25, .ov v6)]) ⟨sc rfl (Cv.eq (congrArg (fun b => D.v (.bool b)) (by first | (simp [hg10, hg8, hg9]; done) | (simp_all; done)))), sk rfl, sk rfl, sk rfl, sk rfl, sk rfl, sk rfl, sk rfl, sk rfl, sk rfl, sk rfl, sk rfl, trivial⟩ hQ7
          · skip
            refine jd_region rfl ?_
            refine od_pu rfl rfl (p_move rfl) ?_
            refine od_pu rfl rfl (p_move rfl) ?_
            refine od_step rfl rfl (ef_call [] _ [.sl v5 2 74 ((pickL l names true).map Lbl.d)] rfl rfl (.cons (ArgC.own (j := 0) rfl rfl) (.cons ArgC.id .nil)) (lend_cons (j := 1) rfl lend_nil) Try.call39 (only_c (pickL l names true) names (by omega)) (.inr (isOwn_flat (flatL_map (fun _ => rfl) _)))) ?_
            rintro _ _ ⟨_, ⟨v36, rfl, rfl⟩, rfl⟩
            refine OpsD.norm [.sl v36 2 74 ((pickL (pickL l names true) names true).map Lbl.d), .sl v6 2 74 ((pickL l names false).map Lbl.d), .sl v5 2 74 ((pickL l names true).map Lbl.d)] rfl ?_
            refine od_pu rfl rfl (p_move rfl) ?_
            refine od_step rfl rfl (ef_call [] _ [.sl v36 2 74 ((pickL (pickL l names true) names true).map Lbl.d), .sl v5 2 74 ((pickL l names true).map Lbl.d)] rfl rfl (.cons (ArgC.own (j := 0) rfl rfl) (.cons (ArgC.own (j := 1) rfl rfl) .nil)) (lend_cons (j := 0) rfl (lend_cons (j := 2) rfl lend_nil)) Try.call44 (sameLs_c (pickL (pickL l names true) names true) (pickL l names true)) (.inr (isR_flat rfl))) ?_
            rintro _ _ ⟨_, ⟨rfl, rfl⟩, rfl⟩
            refine OpsD.norm [.sl v36 2 74 ((pickL (pickL l names true) names true).map Lbl.d), .sl v6 2 74 ((pickL l names false).map Lbl.d), .sl v5 2 74 ((pickL l names true).map Lbl.d)] rfl ?_
            refine OpsD.sub ((30, .v (.bool true)) :: [(0, .sh 2 (l.map Lbl.d)), (1, .sh 1 (names.map D.s)), (5, .ov v5), (6, .ov v6), (18, .v (.bool (!(lightL l) || decide ((10 : Int) < ((names.length : Nat) : Int))))), (20, .sh 2 (l.map Lbl.d)), (21, .sh 1 (names.map D.s)), (22, .ov v5), (23, .sh 2 (l.map Lbl.d)), (24, .sh 1 (names.map D.s)), (25, .ov v6), (26, .ov v5), (27, .sh 1 (names.map D.s)), (28, .ov v36), (29, .ov v5)]) ⟨se rfl (congrArg (fun b => D.v (.bool b)) hg8), sk rfl, sk rfl, sk rfl, sk rfl, sk rfl, sk rfl, sk rfl, sk rfl, sk rfl, sk rfl, sk rfl, sk rfl, sk rfl, sk rfl, sk rfl, trivial⟩ ?_
            refine od_pu rfl rfl (p_move rfl) ?_
            refine od_runp rfl rfl rfl rfl rfl (p_move rfl) ?_
            refine od_runp rfl rfl rfl rfl rfl (p_move rfl) ?_
            refine od_run rfl rfl rfl rfl rfl (ef_call [] _ [.sl v5 2 74 ((pickL l names true).map Lbl.d)] rfl rfl (.cons (ArgC.own (j := 0) rfl rfl) (.cons ArgC.id .nil)) (lend_cons (j := 2) rfl lend_nil) Try.call43 (without_c (pickL l names true) names (by omega)) (.inr (isOwn_flat (flatL_map (fun _ => rfl) _)))) ?_
            rintro _ _ ⟨_, ⟨v37, rfl, rfl⟩, rfl⟩
            refine OpsD.norm [.sl v37 2 74 ((pickL (pickL l names true) names false).map Lbl.d), .sl v36 2 74 ((pickL (pickL l names true) names true).map Lbl.d), .sl v6 2 74 ((pickL l names false).map Lbl.d), .sl v5 2 74 ((pickL l names true).map Lbl.d)] rfl ?_
            refine od_runp rfl rfl rfl rfl rfl (p_len_own (n := (pickL (pickL l names true) names false).length) (j := 0) rfl rfl Try.runUnderlying32 (List.length_map _)) ?_
            refine od_runp rfl rfl rfl rfl rfl (p_eql rfl rfl (decide_eq_false hg9)) ?_
            refine od_pu rfl rfl (p_pick_t rfl rfl) ?_
            refine od_pu rfl rfl (p_move rfl) ?_
            refine od_skip rfl rfl rfl rfl rfl (by decide) ?_
            refine od_skip rfl rfl rfl rfl rfl (by decide) ?_
            refine od_skip rfl rfl rfl rfl rfl (by decide) ?_
            refine od_skip rfl rfl rfl rfl rfl (by decide) ?_
            refine od_skip rfl rfl rfl rfl rfl (by decide) ?_
            refine od_pu rfl rfl (p_pick_f rfl rfl) ?_
            refine od_pu rfl rfl (p_move rfl) ?_
            refine od_skip rfl rfl rfl rfl rfl (by decide) ?_
            refine od_skip rfl rfl rfl rfl rfl (by decide) ?_
            refine od_skip rfl rfl rfl rfl rfl (by decide) ?_
            refine od_skip rfl rfl rfl rfl rfl (by decide) ?_
            refine od_skip rfl rfl rfl rfl rfl (by decide) ?_
            refine od_pu rfl rfl (p_pick_f rfl rfl) ?_
            refine od_pu rfl rfl (p_move rfl) ?_
            refine od_skip rfl rfl rfl rfl rfl (by decide) ?_
            refine od_skip rfl rfl rfl rfl rfl (by decide) ?_
            refine od_skip rfl rfl rfl rfl rfl (by decide) ?_
            refine od_skip rfl rfl rfl rfl rfl (by decide) ?_
            refine od_skip rfl rfl rfl rfl rfl (by decide) ?_
            refine od_skip rfl rfl rfl rfl rfl (by decide) ?_
            refine od_skip rfl rfl rfl rfl rfl (by decide) ?_
            refine od_skip rfl rfl rfl rfl rfl (by decide) ?_
            refine od_pu rfl rfl (p_pick_f rfl rfl) ?_
            refine od_pu rfl rfl (p_move rfl) ?_
            refine od_skip rfl rfl rfl rfl rfl (by decide) ?_
            refine od_skip rfl rfl rfl rfl rfl (by decide) ?_
            refine od_skip rfl rfl rfl rfl rfl (by decide) ?_
            refine od_skip rfl rfl rfl rfl rfl (by decide) ?_
            refine od_pu rfl rfl (p_pick_f rfl rfl) ?_
            refine od_pu rfl rfl (p_move rfl) ?_
            refine od_skip rfl rfl rfl rfl rfl (by decide) ?_
            refine od_skip rfl rfl rfl rfl rfl (by decide) ?_
            refine od_skip rfl rfl rfl rfl rfl (by decide) ?_
            refine od_skip rfl rfl rfl rfl rfl (by decide) ?_
            refine od_pu rfl rfl (p_pick_f rfl rfl) ?_
            refine od_pu rfl rfl (p_assign rfl) ?_
            refine od_nil rfl ?_
            refine PD.subH (HSub.lst 2 rfl) ?_
            exact PD.sub ((4, .v (.bool ((((((decide (cmpLs (pickL (pickL l names true) names true) (pickL l names true) = 0) && decide ((((pickL (pickL l names true) names false).length : Nat) : Int) = (0 : Int))) && decide (cmpLs (pickL (pickL l names false) names false) (pickL l names false) = 0)) && decide ((((pickL (pickL l names false) names true).length : Nat) : Int) = (0 : Int))) && decide (((((pickL l names true).length) + ((pickL l names false).length) : Nat) : Int) = ((l.length : Nat) : Int))) && decide ((((pickL l [] true).length : Nat) : Int) = (0 : Int))) && decide (cmpLs (pickL l [] false) l = 0)))) :: [(0, .sh 2 (l.map Lbl.d)), (1, .sh 1 (names.map D.s)), (5, .ov v5), (6, .ov v6), (18, .v (.bool (!(lightL l) || decide ((10 : Int) < ((names.length : Nat) : Int))))), (20, .sh 2 (l.map Lbl.d)), (21, .sh 1 (names.map D.s)), (22, .ov v5), (23, .sh 2 (l.map Lbl.d)), (24, .sh 1 (names.map D.s)), (25, .ov v6)]) ⟨sc rfl (Cv.eq (congrArg (fun b => D.v (.bool b)) (by first | (simp [hg8, hg9]; done) | (simp_all; done)))), sk rfl, sk rfl, sk rfl, sk rfl, sk rfl, sk rfl, sk rfl, sk rfl, sk rfl, sk rfl, sk rfl, trivial⟩ hQ7
        · skip
          refine jd_region rfl ?_
          refine od_pu rfl rfl (p_move rfl) ?_
          refine od_pu rfl rfl (p_move rfl) ?_
          refine od_step rfl rfl (ef_call [] _ [.sl v5 2 74 ((pickL l names true).map Lbl.d)] rfl rfl (.cons (ArgC.own (j := 0) rfl rfl) (.cons ArgC.id .nil)) (lend_cons (j := 1) rfl lend_nil) Try.call39 (only_c (pickL l names true) names (by omega)) (.inr (isOwn_flat (flatL_map (fun _ => rfl) _)))) ?_
          rintro _ _ ⟨_, ⟨v38, rfl, rfl⟩, rfl⟩
          refine OpsD.norm [.sl v38 2 74 ((pickL (pickL l names true) names true).map Lbl.d), .sl v6 2 74 ((pickL l names false).map Lbl.d), .sl v5 2 74 ((pickL l names true).map Lbl.d)] rfl ?_
          refine od_pu rfl rfl (p_move rfl) ?_
          refine od_step rfl rfl (ef_call [] _ [.sl v38 2 74 ((pickL (pickL l names true) names true).map Lbl.d), .sl v5 2 74 ((pickL l names true).map Lbl.d)] rfl rfl (.cons (ArgC.own (j := 0) rfl rfl) (.cons (ArgC.own (j := 1) rfl rfl) .nil)) (lend_cons (j := 0) rfl (lend_cons (j := 2) rfl lend_nil)) Try.call44 (sameLs_c (pickL (pickL l names true) names true) (pickL l names true)) (.inr (isR_flat rfl))) ?_
          rintro _ _ ⟨_, ⟨rfl, rfl⟩, rfl⟩
          refine OpsD.norm [.sl v38 2 74 ((pickL (pickL l names true) names true).map Lbl.d), .sl v6 2 74 ((pickL l names false).map Lbl.d), .sl v5 2 74 ((pickL l names true).map Lbl.d)] rfl ?_
          refine OpsD.sub ((30, .v (.bool false)) :: [(0, .sh 2 (l.map Lbl.d)), (1, .sh 1 (names.map D.s)), (5, .ov v5), (6, .ov v6), (18, .v (.bool (!(lightL l) || decide ((10 : Int) < ((names.length : Nat) : Int))))), (20, .sh 2 (l.map Lbl.d)), (21, .sh 1 (names.map D.s)), (22, .ov v5), (23, .sh 2 (l.map Lbl.d)), (24, .sh 1 (names.map D.s)), (25, .ov v6), (26, .ov v5), (27, .sh 1 (names.map D.s)), (28, .ov v38), (29, .ov v5)]) ⟨se rfl (congrArg (fun b => D.v (.bool b)) hg8), sk rfl, sk rfl, sk rfl, sk rfl, sk rfl, sk rfl, sk rfl, sk rfl, sk rfl, sk rfl, sk rfl, sk rfl, sk rfl, sk rfl, sk rfl, trivial⟩ ?_
          refine od_pu rfl rfl (p_move rfl) ?_
          refine od_skip rfl rfl rfl rfl rfl (by decide) ?_
          refine od_skip rfl rfl rfl rfl rfl (by decide) ?_
          refine od_skip rfl rfl rfl rfl rfl (by decide) ?_
          refine od_skip rfl rfl rfl rfl rfl (by decide) ?_
          refine od_skip rfl rfl rfl rfl rfl (by decide) ?_
          refine od_pu rfl rfl (p_pick_f rfl rfl) ?_
          refine od_pu rfl rfl (p_move rfl) ?_
          refine od_skip rfl rfl rfl rfl rfl (by decide) ?_
          refine od_skip rfl rfl rfl rfl rfl (by decide) ?_
          refine od_skip rfl rfl rfl rfl rfl (by decide) ?_
          refine od_skip rfl rfl rfl rfl rfl (by decide) ?_
          refine od_skip rfl rfl rfl rfl rfl (by decide) ?_
          refine od_pu rfl rfl (p_pick_f rfl rfl) ?_
          refine od_pu rfl rfl (p_move rfl) ?_
          refine od_skip rfl rfl rfl rfl rfl (by decide) ?_
          refine od_skip rfl rfl rfl rfl rfl (by decide) ?_
          refine od_skip rfl rfl rfl rfl rfl (by decide) ?_
          refine od_skip rfl rfl rfl rfl rfl (by decide) ?_
          refine od_skip rfl rfl rfl rfl rfl (by decide) ?_
          refine od_pu rfl rfl (p_pick_f rfl rfl) ?_
          refine od_pu rfl rfl (p_move rfl) ?_
          refine od_skip rfl rfl rfl rfl rfl (by decide) ?_
          refine od_skip rfl rfl rfl rfl rfl (by decide) ?_
          refine od_skip rfl rfl rfl rfl rfl (by decide) ?_
          refine od_skip rfl rfl rfl rfl rfl (by decide) ?_
          refine od_skip rfl rfl rfl rfl rfl (by decide) ?_
          refine od_skip rfl rfl rfl rfl rfl (by decide) ?_
          refine od_skip rfl rfl rfl rfl rfl (by decide) ?_
          refine od_skip rfl rfl rfl rfl rfl (by decide) ?_
          refine od_pu rfl rfl (p_pick_f rfl rfl) ?_
          refine od_pu rfl rfl (p_move rfl) ?_
          refine od_skip rfl rfl rfl rfl rfl (by decide) ?_
          refine od_skip rfl rfl rfl rfl rfl (by decide) ?_
          refine od_skip rfl rfl rfl rfl rfl (by decide) ?_
          refine od_skip rfl rfl rfl rfl rfl (by decide) ?_
          refine od_pu rfl rfl (p_pick_f rfl rfl) ?_
          refine od_pu rfl rfl (p_move rfl) ?_
          refine od_skip rfl rfl rfl rfl rfl (by decide) ?_
          refine od_skip rfl rfl rfl rfl rfl (by decide) ?_
          refine od_skip rfl rfl rfl rfl rfl (by decide) ?_
          refine od_skip rfl rfl rfl rfl rfl (by decide) ?_
          refine od_pu rfl rfl (p_pick_f rfl rfl) ?_
          refine od_pu rfl rfl (p_assign rfl) ?_
          refine od_nil rfl ?_
          refine PD.subH (HSub.lst 1 rfl) ?_
          exact PD.sub ((4, .v (.bool ((((((decide (cmpLs (pickL (pickL l names true) names true) (pickL l names true) = 0) && decide ((((pickL (pickL l names true) names false).length : Nat) : Int) = (0 : Int))) && decide (cmpLs (pickL (pickL l names false) names false) (pickL l names false) = 0)) && decide ((((pickL (pickL l names false) names true).length : Nat) : Int) = (0 : Int))) && decide (((((pickL l names true).length) + ((pickL l names false).length) : Nat) : Int) = ((l.length : Nat) : Int))) && decide ((((pickL l [] true).length : Nat) : Int) = (0 : Int))) && decide (cmpLs (pickL l [] false) l = 0)))) :: [(0, .sh 2 (l.map Lbl.d)), (1, .sh 1 (names.map D.s)), (5, .ov v5), (6, .ov v6), (18, .v (.bool (!(lightL l) || decide ((10 : Int) < ((names.length : Nat) : Int))))), (20, .sh 2 (l.map Lbl.d)), (21, .sh 1 (names.map D.s)), (22, .ov v5), (23, .sh 2 (l.map Lbl.d)), (24, .sh 1 (names.map D.s)), (25, .ov v6)]) ⟨sc rfl (Cv.eq (congrArg (fun b => D.v (.bool b)) (by first | (simp [hg8]; done) | (simp_all; done)))), sk rfl, sk rfl, sk rfl, sk rfl, sk rfl, sk rfl, sk rfl, sk rfl, sk rfl, sk rfl, sk rfl, trivial⟩ hQ7
      · skip
        refine pd_seq ?_
        refine JD.keep [4] [(4, .v (.bool ((((((decide (cmpLs (pickL (pickL l names true) names true) (pickL l names true) = 0) && decide ((((pickL (pickL l names true) names false).length : Nat) : Int) = (0 : Int))) && decide (cmpLs (pickL (pickL l names false) names false) (pickL l names false) = 0)) && decide ((((pickL (pickL l names false) names true).length : Nat) : Int) = (0 : Int))) && decide (((((pickL l names true).length) + ((pickL l names false).length) : Nat) : Int) = ((l.length : Nat) : Int))) && decide ((((pickL l [] true).length : Nat) : Int) = (0 : Int))) && decide (cmpLs (pickL l [] false) l = 0))))] rfl ?_
        refine jd_ret rfl ?_
        exact pd_retH Try.results11 (.cons (ro_cv (ro_tmp rfl) (Cv.eq (congrArg (fun b => D.v (.bool b)) (by first | rfl | simp [pick_same, pick_other, pick_none, cmpLs_self]; have := pick_sum l names; omega)))) .nil) rfl HSub.none ⟨rfl, rfl⟩
end Lp
