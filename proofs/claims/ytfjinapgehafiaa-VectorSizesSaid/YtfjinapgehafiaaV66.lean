/- Walks, printed by a program of mine. -/
import Derived.Test.YtfjinapgehafiaaPLaw10b
set_option linter.unusedSimpArgs false
set_option linter.unusedVariables false
namespace Lp
open Go Go.RowKit Go.Proofs

namespace HdYtfjinapgehafiaaV65
theorem zdq : ∀ w, ((#[⟨"Labels", 27, 0, false, "", "", 0⟩, ⟨"V", 3, 1, false, "", "", 24⟩] : Array Field).mapM fun f => do pure (f.offset, ← Go.sizeOf f.type) : Sem (Array (Nat × Nat))).run Try.prog w = .ok ([(0, 1), (1, 1)] : List (Nat × Nat)).toArray w := fun _ => by kernel_rfl
theorem bd_33 : ∀ w, ((#[⟨"Name", 9, 0, false, "", "", 0⟩, ⟨"Value", 9, 1, false, "", "", 16⟩] : Array Field).mapM fun f => do pure (f.offset, ← Go.sizeOf f.type) : Sem (Array (Nat × Nat))).run Try.prog w = .ok ([(0, 1), (1, 1)] : List (Nat × Nat)).toArray w := fun _ => by kernel_rfl
theorem zaB (b o : Nat) : ∀ w, (Instr.fieldAt 30 (.pointer (some ⟨b, o, none⟩)) 1).run Try.prog w = .ok (.pointer (some ⟨b, o + 1, none⟩)) w := fun _ => by kernel_rfl
theorem zax (b o : Nat) : ∀ w, (Instr.fieldAt 33 (.pointer (some ⟨b, o, none⟩)) 0).run Try.prog w = .ok (.pointer (some ⟨b, o + 0, none⟩)) w := fun _ => by kernel_rfl
theorem zaY (b o : Nat) : ∀ w, (Instr.fieldAt 33 (.pointer (some ⟨b, o, none⟩)) 1).run Try.prog w = .ok (.pointer (some ⟨b, o + 1, none⟩)) w := fun _ => by kernel_rfl
end HdYtfjinapgehafiaaV65
open HdYtfjinapgehafiaaV65

set_option maxHeartbeats 4000000 in
set_option maxRecDepth 100000 in
theorem alive10_c   :
    CD Try.prog 8 [] [] (isR (dB true)) := by
  refine zM Try.func8 rfl (N := 55) rfl rfl (fun C => ?_)
  refine JD.keep [] [] rfl ?_
  have am1 : zE (⟨#[43]⟩ : ByteArray) [(RowD.mk [(Lbl.mk (⟨#[97]⟩ : ByteArray) (⟨#[49]⟩ : ByteArray))] 5)] [(RowD.mk [(Lbl.mk (⟨#[97]⟩ : ByteArray) (⟨#[49]⟩ : ByteArray))] 5)] 0 [] = [(RowD.mk [(Lbl.mk (⟨#[97]⟩ : ByteArray) (⟨#[49]⟩ : ByteArray))] 10)] := al10_m.1
  have am2 : zaF (⟨#[43]⟩ : ByteArray) [(RowD.mk [(Lbl.mk (⟨#[97]⟩ : ByteArray) (⟨#[49]⟩ : ByteArray))] 5)] [(RowD.mk [(Lbl.mk (⟨#[97]⟩ : ByteArray) (⟨#[49]⟩ : ByteArray))] 5)] 0 [] = 0 := al10_m.2
  have as1 : zK (⟨#[45]⟩ : ByteArray) [(RowD.mk [(Lbl.mk (⟨#[97]⟩ : ByteArray) (⟨#[49]⟩ : ByteArray))] 5)] 1 true = [(RowD.mk [(Lbl.mk (⟨#[97]⟩ : ByteArray) (⟨#[49]⟩ : ByteArray))] (-4))] := al10_s.1
  have as2 : zaR (⟨#[45]⟩ : ByteArray) [(RowD.mk [(Lbl.mk (⟨#[97]⟩ : ByteArray) (⟨#[49]⟩ : ByteArray))] 5)] 1 true = 0 := al10_s.2
  have av : z0 [(RowD.mk [(Lbl.mk (⟨#[97]⟩ : ByteArray) (⟨#[49]⟩ : ByteArray))] 5)] = true := al10_vr
  refine zh _ _ rfl rfl rfl (zc rfl (za rfl rfl (ze rfl) (zg rfl (zf (zh _ _ rfl rfl rfl (zc rfl (za rfl rfl (zc1 [0, 1] [.const (.string (⟨#[97]⟩ : ByteArray)), .const (.string (⟨#[49]⟩ : ByteArray))] (zv := (.agg #[(.string ByteArray.empty), (.string ByteArray.empty)])) rfl rfl (.cons (CellD.v rfl) (.cons (CellD.v rfl) .nil)) (Try.runUnderlying33) Try.zeroValue33 bd_33 ⟨rfl, rfl, trivial⟩ rfl) (zl rfl rfl (Qu.ef (d := .sh 2 ([(Lbl.mk (⟨#[97]⟩ : ByteArray) (⟨#[49]⟩ : ByteArray))].map Lbl.d)) ((zaQ [.tmp 6] rfl rfl (.cons CellD.agg .nil) rfl Try.runUnderlying27 Try.sizeOf33 Try.zeroValue33 rfl rfl rfl rfl).cv (Cv.shs (.cons (Cv.agg (.cons ((Cv.str (by first | decide | (unfold maxLen; omega)))) (.cons ((Cv.str (by first | decide | (unfold maxLen; omega)))) .nil))) .nil)))) ?_))))))))
  rintro _ _ ⟨rfl, rfl⟩
  refine za rfl rfl (zc1 [0, 1] [.tmp 7, .const (.int .i64 5)] (zv := (.agg #[(.slice none 0 0), (.int .i64 0)])) rfl rfl (.cons CellD.sh (.cons (CellD.v rfl) .nil)) (Try.runUnderlying30) Try.zeroValue30 zdq ⟨rfl, rfl, trivial⟩ rfl) (zl rfl rfl (Qu.ef (d := .sh 2 ([(RowD.mk [(Lbl.mk (⟨#[97]⟩ : ByteArray) (⟨#[49]⟩ : ByteArray))] 5)].map RowD.d)) (zaQ [.tmp 8] rfl rfl (.cons CellD.agg .nil) rfl Try.runUnderlying22 Try.sizeOf30 Try.zeroValue30 rfl rfl rfl rfl)) ?_)
  rintro _ _ ⟨rfl, rfl⟩
  refine za rfl rfl (ze rfl) (zg rfl (zf (zh _ _ rfl rfl rfl (zc rfl (za rfl rfl (zb rfl) (za rfl rfl (zb rfl) (zl rfl rfl (zs [] _ [] rfl rfl (.cons (ArgC.cv (Cv.str (by first | decide | (unfold maxLen; omega)))) (.cons ArgC.id (.cons ArgC.id (.cons ArgC.id (.cons (ArgC.cv Cv.nil) .nil))))) zo Try.call12 (Match_c (⟨#[43]⟩ : ByteArray) [(RowD.mk [(Lbl.mk (⟨#[97]⟩ : ByteArray) (⟨#[49]⟩ : ByteArray))] 5)] [(RowD.mk [(Lbl.mk (⟨#[97]⟩ : ByteArray) (⟨#[49]⟩ : ByteArray))] 5)] 0 [] al10_LZ al10_LZ) (.inl rfl)) ?_)))))))
  rintro _ _ ⟨_, ⟨v1, rfl, rfl⟩, rfl⟩
  refine OpsD.norm [.sl v1 2 30 ((zE (⟨#[43]⟩ : ByteArray) [(RowD.mk [(Lbl.mk (⟨#[97]⟩ : ByteArray) (⟨#[49]⟩ : ByteArray))] 5)] [(RowD.mk [(Lbl.mk (⟨#[97]⟩ : ByteArray) (⟨#[49]⟩ : ByteArray))] 5)] 0 []).map RowD.d)] rfl (za rfl rfl (zb rfl) (za rfl rfl (zF rfl rfl) (za rfl rfl (zF rfl rfl) (za rfl rfl (ze rfl) (za rfl rfl (ze rfl) (zg rfl (zf (JD.keep [0, 1, 2, 3] [(0, dB false), (1, .sh 2 ([(RowD.mk [(Lbl.mk (⟨#[97]⟩ : ByteArray) (⟨#[49]⟩ : ByteArray))] 5)].map RowD.d)), (2, .ov v1), (3, dI (zaF (⟨#[43]⟩ : ByteArray) [(RowD.mk [(Lbl.mk (⟨#[97]⟩ : ByteArray) (⟨#[49]⟩ : ByteArray))] 5)] [(RowD.mk [(Lbl.mk (⟨#[97]⟩ : ByteArray) (⟨#[49]⟩ : ByteArray))] 5)] 0 []))] rfl (zh _ _ rfl rfl rfl (zc rfl (za rfl rfl (zb rfl) (zl rfl rfl (zs [] _ [] rfl rfl (.cons (ArgC.cv (Cv.str (by first | decide | (unfold maxLen; omega)))) (.cons ArgC.id (.cons ArgC.id (.cons ArgC.id .nil)))) zo Try.call16 (Scale_c (⟨#[45]⟩ : ByteArray) [(RowD.mk [(Lbl.mk (⟨#[97]⟩ : ByteArray) (⟨#[49]⟩ : ByteArray))] 5)] 1 true) (.inl rfl)) ?_))))))))))))
  rintro _ _ ⟨_, ⟨v2, rfl, rfl⟩, rfl⟩
  refine OpsD.norm [.sl v2 2 30 ((zK (⟨#[45]⟩ : ByteArray) [(RowD.mk [(Lbl.mk (⟨#[97]⟩ : ByteArray) (⟨#[49]⟩ : ByteArray))] 5)] 1 true).map RowD.d), .sl v1 2 30 ((zE (⟨#[43]⟩ : ByteArray) [(RowD.mk [(Lbl.mk (⟨#[97]⟩ : ByteArray) (⟨#[49]⟩ : ByteArray))] 5)] [(RowD.mk [(Lbl.mk (⟨#[97]⟩ : ByteArray) (⟨#[49]⟩ : ByteArray))] 5)] 0 []).map RowD.d)] rfl (za rfl rfl (zb rfl) (za rfl rfl (zF rfl rfl) (za rfl rfl (zF rfl rfl) (za rfl rfl (ze rfl) (za rfl rfl (ze rfl) (zg rfl (zf (zh _ _ rfl rfl rfl ?_))))))))
  obtain ⟨y2, hy2, ey2⟩ : ∃ x, (zK (⟨#[45]⟩ : ByteArray) [(RowD.mk [(Lbl.mk (⟨#[97]⟩ : ByteArray) (⟨#[49]⟩ : ByteArray))] 5)] 1 true)[0]? = some x ∧ x = RowD.mk [(Lbl.mk (⟨#[97]⟩ : ByteArray) (⟨#[49]⟩ : ByteArray))] (-4) := ⟨_, by rw [as1]; rfl, rfl⟩
  have eny2 : (zK (⟨#[45]⟩ : ByteArray) [(RowD.mk [(Lbl.mk (⟨#[97]⟩ : ByteArray) (⟨#[49]⟩ : ByteArray))] 5)] 1 true).length = 1 := by rw [as1]; rfl
  obtain ⟨y1, hy1, ey1⟩ : ∃ x, (zE (⟨#[43]⟩ : ByteArray) [(RowD.mk [(Lbl.mk (⟨#[97]⟩ : ByteArray) (⟨#[49]⟩ : ByteArray))] 5)] [(RowD.mk [(Lbl.mk (⟨#[97]⟩ : ByteArray) (⟨#[49]⟩ : ByteArray))] 5)] 0 [])[0]? = some x ∧ x = RowD.mk [(Lbl.mk (⟨#[97]⟩ : ByteArray) (⟨#[49]⟩ : ByteArray))] 10 := ⟨_, by rw [am1]; rfl, rfl⟩
  have eny1 : (zE (⟨#[43]⟩ : ByteArray) [(RowD.mk [(Lbl.mk (⟨#[97]⟩ : ByteArray) (⟨#[49]⟩ : ByteArray))] 5)] [(RowD.mk [(Lbl.mk (⟨#[97]⟩ : ByteArray) (⟨#[49]⟩ : ByteArray))] 5)] 0 []).length = 1 := by rw [am1]; rfl
  refine JD.keep [1, 2, 3, 4, 5] [(1, .sh 2 ([(RowD.mk [(Lbl.mk (⟨#[97]⟩ : ByteArray) (⟨#[49]⟩ : ByteArray))] 5)].map RowD.d)), (2, .ov v1), (3, dI (zaF (⟨#[43]⟩ : ByteArray) [(RowD.mk [(Lbl.mk (⟨#[97]⟩ : ByteArray) (⟨#[49]⟩ : ByteArray))] 5)] [(RowD.mk [(Lbl.mk (⟨#[97]⟩ : ByteArray) (⟨#[49]⟩ : ByteArray))] 5)] 0 [])), (4, .ov v2), (5, dI (zaR (⟨#[45]⟩ : ByteArray) [(RowD.mk [(Lbl.mk (⟨#[97]⟩ : ByteArray) (⟨#[49]⟩ : ByteArray))] 5)] 1 true))] rfl ?_
  refine zan 0 (((((((decide (zaF (⟨#[43]⟩ : ByteArray) [(RowD.mk [(Lbl.mk (⟨#[97]⟩ : ByteArray) (⟨#[49]⟩ : ByteArray))] 5)] [(RowD.mk [(Lbl.mk (⟨#[97]⟩ : ByteArray) (⟨#[49]⟩ : ByteArray))] 5)] 0 [] = (0 : Int)) && decide ((((zE (⟨#[43]⟩ : ByteArray) [(RowD.mk [(Lbl.mk (⟨#[97]⟩ : ByteArray) (⟨#[49]⟩ : ByteArray))] 5)] [(RowD.mk [(Lbl.mk (⟨#[97]⟩ : ByteArray) (⟨#[49]⟩ : ByteArray))] 5)] 0 []).length : Nat) : Int) = (1 : Int))) && decide (y1.v = (10 : Int))) && decide (zaR (⟨#[45]⟩ : ByteArray) [(RowD.mk [(Lbl.mk (⟨#[97]⟩ : ByteArray) (⟨#[49]⟩ : ByteArray))] 5)] 1 true = (0 : Int))) && decide ((((zK (⟨#[45]⟩ : ByteArray) [(RowD.mk [(Lbl.mk (⟨#[97]⟩ : ByteArray) (⟨#[49]⟩ : ByteArray))] 5)] 1 true).length : Nat) : Int) = (1 : Int))) && decide (y2.v = ((-4) : Int))) && z0 [(RowD.mk [(Lbl.mk (⟨#[97]⟩ : ByteArray) (⟨#[49]⟩ : ByteArray))] 5)])) [.sl v2 2 30 ((zK (⟨#[45]⟩ : ByteArray) [(RowD.mk [(Lbl.mk (⟨#[97]⟩ : ByteArray) (⟨#[49]⟩ : ByteArray))] 5)] 1 true).map RowD.d), .sl v1 2 30 ((zE (⟨#[43]⟩ : ByteArray) [(RowD.mk [(Lbl.mk (⟨#[97]⟩ : ByteArray) (⟨#[49]⟩ : ByteArray))] 5)] [(RowD.mk [(Lbl.mk (⟨#[97]⟩ : ByteArray) (⟨#[49]⟩ : ByteArray))] 5)] 0 []).map RowD.d)] (fun _ hQ3 => ?_) ?_
  · skip
    by_cases hg4 : zaF (⟨#[43]⟩ : ByteArray) [(RowD.mk [(Lbl.mk (⟨#[97]⟩ : ByteArray) (⟨#[49]⟩ : ByteArray))] 5)] [(RowD.mk [(Lbl.mk (⟨#[97]⟩ : ByteArray) (⟨#[49]⟩ : ByteArray))] 5)] 0 [] = (0 : Int)
    · skip
      by_cases hg5 : (((zE (⟨#[43]⟩ : ByteArray) [(RowD.mk [(Lbl.mk (⟨#[97]⟩ : ByteArray) (⟨#[49]⟩ : ByteArray))] 5)] [(RowD.mk [(Lbl.mk (⟨#[97]⟩ : ByteArray) (⟨#[49]⟩ : ByteArray))] 5)] 0 []).length : Nat) : Int) = (1 : Int)
      · skip
        by_cases hg6 : y1.v = (10 : Int)
        · skip
          by_cases hg7 : zaR (⟨#[45]⟩ : ByteArray) [(RowD.mk [(Lbl.mk (⟨#[97]⟩ : ByteArray) (⟨#[49]⟩ : ByteArray))] 5)] 1 true = (0 : Int)
          · skip
            by_cases hg8 : (((zK (⟨#[45]⟩ : ByteArray) [(RowD.mk [(Lbl.mk (⟨#[97]⟩ : ByteArray) (⟨#[49]⟩ : ByteArray))] 5)] 1 true).length : Nat) : Int) = (1 : Int)
            · skip
              by_cases hg9 : y2.v = ((-4) : Int)
              · skip
                refine zc rfl (za rfl rfl (zb rfl) (za rfl rfl (z3 rfl rfl (decide_eq_true hg4)) (za rfl rfl (zb rfl) (zi rfl rfl rfl rfl rfl (zb rfl) (zi rfl rfl rfl rfl rfl (z5 (n := (zE (⟨#[43]⟩ : ByteArray) [(RowD.mk [(Lbl.mk (⟨#[97]⟩ : ByteArray) (⟨#[49]⟩ : ByteArray))] 5)] [(RowD.mk [(Lbl.mk (⟨#[97]⟩ : ByteArray) (⟨#[49]⟩ : ByteArray))] 5)] 0 []).length) (j := 1) rfl rfl Try.runUnderlying22 (List.length_map _)) (zi rfl rfl rfl rfl rfl (z3 rfl rfl (decide_eq_true hg5)) (za rfl rfl (zn rfl rfl) (za rfl rfl (zb rfl) (zi rfl rfl rfl rfl rfl (zb rfl) (zi rfl rfl rfl rfl rfl (zD (k := 0) (j := 1) rfl rfl rfl Try.runUnderlying22 Try.sizeOf30 (by first | rfl | omega) (zu hy1)) (zi rfl rfl rfl rfl rfl (zz rfl zaB rfl) (zi rfl rfl rfl rfl rfl (zaD rfl (i := 1) rfl (zu hy1) Try.isAgg3 rfl) (zi rfl rfl rfl rfl rfl (z3 rfl rfl (decide_eq_true hg6)) (za rfl rfl (zn rfl rfl) (za rfl rfl (zb rfl) (zi rfl rfl rfl rfl rfl (zb rfl) (zi rfl rfl rfl rfl rfl (z3 rfl rfl (decide_eq_true hg7)) (za rfl rfl (zn rfl rfl) (za rfl rfl (zb rfl) (zi rfl rfl rfl rfl rfl (zb rfl) ?_))))))))))))))))))))
                refine zi rfl rfl rfl rfl rfl (z5 (n := (zK (⟨#[45]⟩ : ByteArray) [(RowD.mk [(Lbl.mk (⟨#[97]⟩ : ByteArray) (⟨#[49]⟩ : ByteArray))] 5)] 1 true).length) (j := 0) rfl rfl Try.runUnderlying22 (List.length_map _)) (zi rfl rfl rfl rfl rfl (z3 rfl rfl (decide_eq_true hg8)) (za rfl rfl (zn rfl rfl) (za rfl rfl (zb rfl) (zi rfl rfl rfl rfl rfl (zb rfl) (zi rfl rfl rfl rfl rfl (zD (k := 0) (j := 0) rfl rfl rfl Try.runUnderlying22 Try.sizeOf30 (by first | rfl | omega) (zu hy2)) (zi rfl rfl rfl rfl rfl (zz rfl zaB rfl) (zi rfl rfl rfl rfl rfl (zaD rfl (i := 0) rfl (zu hy2) Try.isAgg3 rfl) (zi rfl rfl rfl rfl rfl (z3 rfl rfl (decide_eq_true hg9)) (za rfl rfl (zn rfl rfl) (za rfl rfl (zb rfl) (zi rfl rfl rfl rfl rfl (zb rfl) (zaH rfl rfl rfl rfl rfl (zs [] _ [] rfl rfl (.cons ArgC.id .nil) zo Try.call15 (zbQ [(RowD.mk [(Lbl.mk (⟨#[97]⟩ : ByteArray) (⟨#[49]⟩ : ByteArray))] 5)]) (.inl rfl)) ?_))))))))))))
                rintro _ _ ⟨_, ⟨rfl, rfl⟩, rfl⟩
                refine OpsD.norm [.sl v2 2 30 ((zK (⟨#[45]⟩ : ByteArray) [(RowD.mk [(Lbl.mk (⟨#[97]⟩ : ByteArray) (⟨#[49]⟩ : ByteArray))] 5)] 1 true).map RowD.d), .sl v1 2 30 ((zE (⟨#[43]⟩ : ByteArray) [(RowD.mk [(Lbl.mk (⟨#[97]⟩ : ByteArray) (⟨#[49]⟩ : ByteArray))] 5)] [(RowD.mk [(Lbl.mk (⟨#[97]⟩ : ByteArray) (⟨#[49]⟩ : ByteArray))] 5)] 0 []).map RowD.d)] rfl (za rfl rfl (zn rfl rfl) (za rfl rfl (ze rfl) (zg rfl ?_)))
                exact PD.sub ((0, dB ((((((decide (zaF (⟨#[43]⟩ : ByteArray) [(RowD.mk [(Lbl.mk (⟨#[97]⟩ : ByteArray) (⟨#[49]⟩ : ByteArray))] 5)] [(RowD.mk [(Lbl.mk (⟨#[97]⟩ : ByteArray) (⟨#[49]⟩ : ByteArray))] 5)] 0 [] = (0 : Int)) && decide ((((zE (⟨#[43]⟩ : ByteArray) [(RowD.mk [(Lbl.mk (⟨#[97]⟩ : ByteArray) (⟨#[49]⟩ : ByteArray))] 5)] [(RowD.mk [(Lbl.mk (⟨#[97]⟩ : ByteArray) (⟨#[49]⟩ : ByteArray))] 5)] 0 []).length : Nat) : Int) = (1 : Int))) && decide (y1.v = (10 : Int))) && decide (zaR (⟨#[45]⟩ : ByteArray) [(RowD.mk [(Lbl.mk (⟨#[97]⟩ : ByteArray) (⟨#[49]⟩ : ByteArray))] 5)] 1 true = (0 : Int))) && decide ((((zK (⟨#[45]⟩ : ByteArray) [(RowD.mk [(Lbl.mk (⟨#[97]⟩ : ByteArray) (⟨#[49]⟩ : ByteArray))] 5)] 1 true).length : Nat) : Int) = (1 : Int))) && decide (y2.v = ((-4) : Int))) && z0 [(RowD.mk [(Lbl.mk (⟨#[97]⟩ : ByteArray) (⟨#[49]⟩ : ByteArray))] 5)])) :: [(1, .sh 2 ([(RowD.mk [(Lbl.mk (⟨#[97]⟩ : ByteArray) (⟨#[49]⟩ : ByteArray))] 5)].map RowD.d)), (2, .ov v1), (3, dI (zaF (⟨#[43]⟩ : ByteArray) [(RowD.mk [(Lbl.mk (⟨#[97]⟩ : ByteArray) (⟨#[49]⟩ : ByteArray))] 5)] [(RowD.mk [(Lbl.mk (⟨#[97]⟩ : ByteArray) (⟨#[49]⟩ : ByteArray))] 5)] 0 [])), (4, .ov v2), (5, dI (zaR (⟨#[45]⟩ : ByteArray) [(RowD.mk [(Lbl.mk (⟨#[97]⟩ : ByteArray) (⟨#[49]⟩ : ByteArray))] 5)] 1 true))]) ⟨sc rfl (Cv.eq (congrArg (fun b => D.v (.bool b)) (by first | (simp [hg4, hg5, hg6, hg7, hg8, hg9]; done) | (simp_all; done)))), sk rfl, sk rfl, sk rfl, sk rfl, sk rfl, trivial⟩ hQ3
              · skip
                refine zc rfl (za rfl rfl (zb rfl) (za rfl rfl (z3 rfl rfl (decide_eq_true hg4)) (za rfl rfl (zb rfl) (zi rfl rfl rfl rfl rfl (zb rfl) (zi rfl rfl rfl rfl rfl (z5 (n := (zE (⟨#[43]⟩ : ByteArray) [(RowD.mk [(Lbl.mk (⟨#[97]⟩ : ByteArray) (⟨#[49]⟩ : ByteArray))] 5)] [(RowD.mk [(Lbl.mk (⟨#[97]⟩ : ByteArray) (⟨#[49]⟩ : ByteArray))] 5)] 0 []).length) (j := 1) rfl rfl Try.runUnderlying22 (List.length_map _)) (zi rfl rfl rfl rfl rfl (z3 rfl rfl (decide_eq_true hg5)) (za rfl rfl (zn rfl rfl) (za rfl rfl (zb rfl) (zi rfl rfl rfl rfl rfl (zb rfl) (zi rfl rfl rfl rfl rfl (zD (k := 0) (j := 1) rfl rfl rfl Try.runUnderlying22 Try.sizeOf30 (by first | rfl | omega) (zu hy1)) (zi rfl rfl rfl rfl rfl (zz rfl zaB rfl) (zi rfl rfl rfl rfl rfl (zaD rfl (i := 1) rfl (zu hy1) Try.isAgg3 rfl) (zi rfl rfl rfl rfl rfl (z3 rfl rfl (decide_eq_true hg6)) (za rfl rfl (zn rfl rfl) (za rfl rfl (zb rfl) (zi rfl rfl rfl rfl rfl (zb rfl) (zi rfl rfl rfl rfl rfl (z3 rfl rfl (decide_eq_true hg7)) (za rfl rfl (zn rfl rfl) (za rfl rfl (zb rfl) (zi rfl rfl rfl rfl rfl (zb rfl) ?_))))))))))))))))))))
                refine zi rfl rfl rfl rfl rfl (z5 (n := (zK (⟨#[45]⟩ : ByteArray) [(RowD.mk [(Lbl.mk (⟨#[97]⟩ : ByteArray) (⟨#[49]⟩ : ByteArray))] 5)] 1 true).length) (j := 0) rfl rfl Try.runUnderlying22 (List.length_map _)) (zi rfl rfl rfl rfl rfl (z3 rfl rfl (decide_eq_true hg8)) (za rfl rfl (zn rfl rfl) (za rfl rfl (zb rfl) (zi rfl rfl rfl rfl rfl (zb rfl) (zi rfl rfl rfl rfl rfl (zD (k := 0) (j := 0) rfl rfl rfl Try.runUnderlying22 Try.sizeOf30 (by first | rfl | omega) (zu hy2)) (zi rfl rfl rfl rfl rfl (zz rfl zaB rfl) (zi rfl rfl rfl rfl rfl (zaD rfl (i := 0) rfl (zu hy2) Try.isAgg3 rfl) (zi rfl rfl rfl rfl rfl (z3 rfl rfl (decide_eq_false hg9)) (za rfl rfl (zn rfl rfl) (za rfl rfl (zb rfl) (zj rfl rfl rfl rfl rfl (by decide) (zj rfl rfl rfl rfl rfl (by decide) (za rfl rfl (zm rfl rfl) (za rfl rfl (ze rfl) (zg rfl ?_)))))))))))))))
                exact PD.sub ((0, dB ((((((decide (zaF (⟨#[43]⟩ : ByteArray) [(RowD.mk [(Lbl.mk (⟨#[97]⟩ : ByteArray) (⟨#[49]⟩ : ByteArray))] 5)] [(RowD.mk [(Lbl.mk (⟨#[97]⟩ : ByteArray) (⟨#[49]⟩ : ByteArray))] 5)] 0 [] = (0 : Int)) && decide ((((zE (⟨#[43]⟩ : ByteArray) [(RowD.mk [(Lbl.mk (⟨#[97]⟩ : ByteArray) (⟨#[49]⟩ : ByteArray))] 5)] [(RowD.mk [(Lbl.mk (⟨#[97]⟩ : ByteArray) (⟨#[49]⟩ : ByteArray))] 5)] 0 []).length : Nat) : Int) = (1 : Int))) && decide (y1.v = (10 : Int))) && decide (zaR (⟨#[45]⟩ : ByteArray) [(RowD.mk [(Lbl.mk (⟨#[97]⟩ : ByteArray) (⟨#[49]⟩ : ByteArray))] 5)] 1 true = (0 : Int))) && decide ((((zK (⟨#[45]⟩ : ByteArray) [(RowD.mk [(Lbl.mk (⟨#[97]⟩ : ByteArray) (⟨#[49]⟩ : ByteArray))] 5)] 1 true).length : Nat) : Int) = (1 : Int))) && decide (y2.v = ((-4) : Int))) && z0 [(RowD.mk [(Lbl.mk (⟨#[97]⟩ : ByteArray) (⟨#[49]⟩ : ByteArray))] 5)])) :: [(1, .sh 2 ([(RowD.mk [(Lbl.mk (⟨#[97]⟩ : ByteArray) (⟨#[49]⟩ : ByteArray))] 5)].map RowD.d)), (2, .ov v1), (3, dI (zaF (⟨#[43]⟩ : ByteArray) [(RowD.mk [(Lbl.mk (⟨#[97]⟩ : ByteArray) (⟨#[49]⟩ : ByteArray))] 5)] [(RowD.mk [(Lbl.mk (⟨#[97]⟩ : ByteArray) (⟨#[49]⟩ : ByteArray))] 5)] 0 [])), (4, .ov v2), (5, dI (zaR (⟨#[45]⟩ : ByteArray) [(RowD.mk [(Lbl.mk (⟨#[97]⟩ : ByteArray) (⟨#[49]⟩ : ByteArray))] 5)] 1 true))]) ⟨sc rfl (Cv.eq (congrArg (fun b => D.v (.bool b)) (by first | (simp [hg4, hg5, hg6, hg7, hg8, hg9]; done) | (simp_all; done)))), sk rfl, sk rfl, sk rfl, sk rfl, sk rfl, trivial⟩ hQ3
            · skip
              refine zc rfl (za rfl rfl (zb rfl) (za rfl rfl (z3 rfl rfl (decide_eq_true hg4)) (za rfl rfl (zb rfl) (zi rfl rfl rfl rfl rfl (zb rfl) (zi rfl rfl rfl rfl rfl (z5 (n := (zE (⟨#[43]⟩ : ByteArray) [(RowD.mk [(Lbl.mk (⟨#[97]⟩ : ByteArray) (⟨#[49]⟩ : ByteArray))] 5)] [(RowD.mk [(Lbl.mk (⟨#[97]⟩ : ByteArray) (⟨#[49]⟩ : ByteArray))] 5)] 0 []).length) (j := 1) rfl rfl Try.runUnderlying22 (List.length_map _)) (zi rfl rfl rfl rfl rfl (z3 rfl rfl (decide_eq_true hg5)) (za rfl rfl (zn rfl rfl) (za rfl rfl (zb rfl) (zi rfl rfl rfl rfl rfl (zb rfl) (zi rfl rfl rfl rfl rfl (zD (k := 0) (j := 1) rfl rfl rfl Try.runUnderlying22 Try.sizeOf30 (by first | rfl | omega) (zu hy1)) (zi rfl rfl rfl rfl rfl (zz rfl zaB rfl) (zi rfl rfl rfl rfl rfl (zaD rfl (i := 1) rfl (zu hy1) Try.isAgg3 rfl) (zi rfl rfl rfl rfl rfl (z3 rfl rfl (decide_eq_true hg6)) (za rfl rfl (zn rfl rfl) (za rfl rfl (zb rfl) (zi rfl rfl rfl rfl rfl (zb rfl) (zi rfl rfl rfl rfl rfl (z3 rfl rfl (decide_eq_true hg7)) (za rfl rfl (zn rfl rfl) (za rfl rfl (zb rfl) (zi rfl rfl rfl rfl rfl (zb rfl) ?_))))))))))))))))))))
              refine zi rfl rfl rfl rfl rfl (z5 (n := (zK (⟨#[45]⟩ : ByteArray) [(RowD.mk [(Lbl.mk (⟨#[97]⟩ : ByteArray) (⟨#[49]⟩ : ByteArray))] 5)] 1 true).length) (j := 0) rfl rfl Try.runUnderlying22 (List.length_map _)) (zi rfl rfl rfl rfl rfl (z3 rfl rfl (decide_eq_false hg8)) (za rfl rfl (zn rfl rfl) (za rfl rfl (zb rfl) (zj rfl rfl rfl rfl rfl (by decide) (zj rfl rfl rfl rfl rfl (by decide) (zj rfl rfl rfl rfl rfl (by decide) (zj rfl rfl rfl rfl rfl (by decide) (zj rfl rfl rfl rfl rfl (by decide) (za rfl rfl (zm rfl rfl) (za rfl rfl (zb rfl) (zj rfl rfl rfl rfl rfl (by decide) (zj rfl rfl rfl rfl rfl (by decide) (za rfl rfl (zm rfl rfl) (za rfl rfl (ze rfl) (zg rfl ?_)))))))))))))))
              exact PD.sub ((0, dB ((((((decide (zaF (⟨#[43]⟩ : ByteArray) [(RowD.mk [(Lbl.mk (⟨#[97]⟩ : ByteArray) (⟨#[49]⟩ : ByteArray))] 5)] [(RowD.mk [(Lbl.mk (⟨#[97]⟩ : ByteArray) (⟨#[49]⟩ : ByteArray))] 5)] 0 [] = (0 : Int)) && decide ((((zE (⟨#[43]⟩ : ByteArray) [(RowD.mk [(Lbl.mk (⟨#[97]⟩ : ByteArray) (⟨#[49]⟩ : ByteArray))] 5)] [(RowD.mk [(Lbl.mk (⟨#[97]⟩ : ByteArray) (⟨#[49]⟩ : ByteArray))] 5)] 0 []).length : Nat) : Int) = (1 : Int))) && decide (y1.v = (10 : Int))) && decide (zaR (⟨#[45]⟩ : ByteArray) [(RowD.mk [(Lbl.mk (⟨#[97]⟩ : ByteArray) (⟨#[49]⟩ : ByteArray))] 5)] 1 true = (0 : Int))) && decide ((((zK (⟨#[45]⟩ : ByteArray) [(RowD.mk [(Lbl.mk (⟨#[97]⟩ : ByteArray) (⟨#[49]⟩ : ByteArray))] 5)] 1 true).length : Nat) : Int) = (1 : Int))) && decide (y2.v = ((-4) : Int))) && z0 [(RowD.mk [(Lbl.mk (⟨#[97]⟩ : ByteArray) (⟨#[49]⟩ : ByteArray))] 5)])) :: [(1, .sh 2 ([(RowD.mk [(Lbl.mk (⟨#[97]⟩ : ByteArray) (⟨#[49]⟩ : ByteArray))] 5)].map RowD.d)), (2, .ov v1), (3, dI (zaF (⟨#[43]⟩ : ByteArray) [(RowD.mk [(Lbl.mk (⟨#[97]⟩ : ByteArray) (⟨#[49]⟩ : ByteArray))] 5)] [(RowD.mk [(Lbl.mk (⟨#[97]⟩ : ByteArray) (⟨#[49]⟩ : ByteArray))] 5)] 0 [])), (4, .ov v2), (5, dI (zaR (⟨#[45]⟩ : ByteArray) [(RowD.mk [(Lbl.mk (⟨#[97]⟩ : ByteArray) (⟨#[49]⟩ : ByteArray))] 5)] 1 true))]) ⟨sc rfl (Cv.eq (congrArg (fun b => D.v (.bool b)) (by first | (simp [hg4, hg5, hg6, hg7, hg8]; done) | (simp_all; done)))), sk rfl, sk rfl, sk rfl, sk rfl, sk rfl, trivial⟩ hQ3
          · skip
            refine zc rfl (za rfl rfl (zb rfl) (za rfl rfl (z3 rfl rfl (decide_eq_true hg4)) (za rfl rfl (zb rfl) (zi rfl rfl rfl rfl rfl (zb rfl) (zi rfl rfl rfl rfl rfl (z5 (n := (zE (⟨#[43]⟩ : ByteArray) [(RowD.mk [(Lbl.mk (⟨#[97]⟩ : ByteArray) (⟨#[49]⟩ : ByteArray))] 5)] [(RowD.mk [(Lbl.mk (⟨#[97]⟩ : ByteArray) (⟨#[49]⟩ : ByteArray))] 5)] 0 []).length) (j := 1) rfl rfl Try.runUnderlying22 (List.length_map _)) (zi rfl rfl rfl rfl rfl (z3 rfl rfl (decide_eq_true hg5)) (za rfl rfl (zn rfl rfl) (za rfl rfl (zb rfl) (zi rfl rfl rfl rfl rfl (zb rfl) (zi rfl rfl rfl rfl rfl (zD (k := 0) (j := 1) rfl rfl rfl Try.runUnderlying22 Try.sizeOf30 (by first | rfl | omega) (zu hy1)) (zi rfl rfl rfl rfl rfl (zz rfl zaB rfl) (zi rfl rfl rfl rfl rfl (zaD rfl (i := 1) rfl (zu hy1) Try.isAgg3 rfl) (zi rfl rfl rfl rfl rfl (z3 rfl rfl (decide_eq_true hg6)) (za rfl rfl (zn rfl rfl) (za rfl rfl (zb rfl) (zi rfl rfl rfl rfl rfl (zb rfl) (zi rfl rfl rfl rfl rfl (z3 rfl rfl (decide_eq_false hg7)) (za rfl rfl (zn rfl rfl) (za rfl rfl (zb rfl) (zj rfl rfl rfl rfl rfl (by decide) (zj rfl rfl rfl rfl rfl (by decide) (zj rfl rfl rfl rfl rfl (by decide) (za rfl rfl (zm rfl rfl) (za rfl rfl (zb rfl) (zj rfl rfl rfl rfl rfl (by decide) ?_)))))))))))))))))))))))))
            refine zj rfl rfl rfl rfl rfl (by decide) (zj rfl rfl rfl rfl rfl (by decide) (zj rfl rfl rfl rfl rfl (by decide) (zj rfl rfl rfl rfl rfl (by decide) (za rfl rfl (zm rfl rfl) (za rfl rfl (zb rfl) (zj rfl rfl rfl rfl rfl (by decide) (zj rfl rfl rfl rfl rfl (by decide) (za rfl rfl (zm rfl rfl) (za rfl rfl (ze rfl) (zg rfl ?_))))))))))
            exact PD.sub ((0, dB ((((((decide (zaF (⟨#[43]⟩ : ByteArray) [(RowD.mk [(Lbl.mk (⟨#[97]⟩ : ByteArray) (⟨#[49]⟩ : ByteArray))] 5)] [(RowD.mk [(Lbl.mk (⟨#[97]⟩ : ByteArray) (⟨#[49]⟩ : ByteArray))] 5)] 0 [] = (0 : Int)) && decide ((((zE (⟨#[43]⟩ : ByteArray) [(RowD.mk [(Lbl.mk (⟨#[97]⟩ : ByteArray) (⟨#[49]⟩ : ByteArray))] 5)] [(RowD.mk [(Lbl.mk (⟨#[97]⟩ : ByteArray) (⟨#[49]⟩ : ByteArray))] 5)] 0 []).length : Nat) : Int) = (1 : Int))) && decide (y1.v = (10 : Int))) && decide (zaR (⟨#[45]⟩ : ByteArray) [(RowD.mk [(Lbl.mk (⟨#[97]⟩ : ByteArray) (⟨#[49]⟩ : ByteArray))] 5)] 1 true = (0 : Int))) && decide ((((zK (⟨#[45]⟩ : ByteArray) [(RowD.mk [(Lbl.mk (⟨#[97]⟩ : ByteArray) (⟨#[49]⟩ : ByteArray))] 5)] 1 true).length : Nat) : Int) = (1 : Int))) && decide (y2.v = ((-4) : Int))) && z0 [(RowD.mk [(Lbl.mk (⟨#[97]⟩ : ByteArray) (⟨#[49]⟩ : ByteArray))] 5)])) :: [(1, .sh 2 ([(RowD.mk [(Lbl.mk (⟨#[97]⟩ : ByteArray) (⟨#[49]⟩ : ByteArray))] 5)].map RowD.d)), (2, .ov v1), (3, dI (zaF (⟨#[43]⟩ : ByteArray) [(RowD.mk [(Lbl.mk (⟨#[97]⟩ : ByteArray) (⟨#[49]⟩ : ByteArray))] 5)] [(RowD.mk [(Lbl.mk (⟨#[97]⟩ : ByteArray) (⟨#[49]⟩ : ByteArray))] 5)] 0 [])), (4, .ov v2), (5, dI (zaR (⟨#[45]⟩ : ByteArray) [(RowD.mk [(Lbl.mk (⟨#[97]⟩ : ByteArray) (⟨#[49]⟩ : ByteArray))] 5)] 1 true))]) ⟨sc rfl (Cv.eq (congrArg (fun b => D.v (.bool b)) (by first | (simp [hg4, hg5, hg6, hg7]; done) | (simp_all; done)))), sk rfl, sk rfl, sk rfl, sk rfl, sk rfl, trivial⟩ hQ3
        · skip
          refine zc rfl (za rfl rfl (zb rfl) (za rfl rfl (z3 rfl rfl (decide_eq_true hg4)) (za rfl rfl (zb rfl) (zi rfl rfl rfl rfl rfl (zb rfl) (zi rfl rfl rfl rfl rfl (z5 (n := (zE (⟨#[43]⟩ : ByteArray) [(RowD.mk [(Lbl.mk (⟨#[97]⟩ : ByteArray) (⟨#[49]⟩ : ByteArray))] 5)] [(RowD.mk [(Lbl.mk (⟨#[97]⟩ : ByteArray) (⟨#[49]⟩ : ByteArray))] 5)] 0 []).length) (j := 1) rfl rfl Try.runUnderlying22 (List.length_map _)) (zi rfl rfl rfl rfl rfl (z3 rfl rfl (decide_eq_true hg5)) (za rfl rfl (zn rfl rfl) (za rfl rfl (zb rfl) (zi rfl rfl rfl rfl rfl (zb rfl) (zi rfl rfl rfl rfl rfl (zD (k := 0) (j := 1) rfl rfl rfl Try.runUnderlying22 Try.sizeOf30 (by first | rfl | omega) (zu hy1)) (zi rfl rfl rfl rfl rfl (zz rfl zaB rfl) (zi rfl rfl rfl rfl rfl (zaD rfl (i := 1) rfl (zu hy1) Try.isAgg3 rfl) (zi rfl rfl rfl rfl rfl (z3 rfl rfl (decide_eq_false hg6)) (za rfl rfl (zn rfl rfl) (za rfl rfl (zb rfl) (zj rfl rfl rfl rfl rfl (by decide) (zj rfl rfl rfl rfl rfl (by decide) (za rfl rfl (zm rfl rfl) (za rfl rfl (zb rfl) (zj rfl rfl rfl rfl rfl (by decide) (zj rfl rfl rfl rfl rfl (by decide) (zj rfl rfl rfl rfl rfl (by decide) (za rfl rfl (zm rfl rfl) (za rfl rfl (zb rfl) (zj rfl rfl rfl rfl rfl (by decide) ?_)))))))))))))))))))))))))
          refine zj rfl rfl rfl rfl rfl (by decide) (zj rfl rfl rfl rfl rfl (by decide) (zj rfl rfl rfl rfl rfl (by decide) (zj rfl rfl rfl rfl rfl (by decide) (za rfl rfl (zm rfl rfl) (za rfl rfl (zb rfl) (zj rfl rfl rfl rfl rfl (by decide) (zj rfl rfl rfl rfl rfl (by decide) (za rfl rfl (zm rfl rfl) (za rfl rfl (ze rfl) (zg rfl ?_))))))))))
          exact PD.sub ((0, dB ((((((decide (zaF (⟨#[43]⟩ : ByteArray) [(RowD.mk [(Lbl.mk (⟨#[97]⟩ : ByteArray) (⟨#[49]⟩ : ByteArray))] 5)] [(RowD.mk [(Lbl.mk (⟨#[97]⟩ : ByteArray) (⟨#[49]⟩ : ByteArray))] 5)] 0 [] = (0 : Int)) && decide ((((zE (⟨#[43]⟩ : ByteArray) [(RowD.mk [(Lbl.mk (⟨#[97]⟩ : ByteArray) (⟨#[49]⟩ : ByteArray))] 5)] [(RowD.mk [(Lbl.mk (⟨#[97]⟩ : ByteArray) (⟨#[49]⟩ : ByteArray))] 5)] 0 []).length : Nat) : Int) = (1 : Int))) && decide (y1.v = (10 : Int))) && decide (zaR (⟨#[45]⟩ : ByteArray) [(RowD.mk [(Lbl.mk (⟨#[97]⟩ : ByteArray) (⟨#[49]⟩ : ByteArray))] 5)] 1 true = (0 : Int))) && decide ((((zK (⟨#[45]⟩ : ByteArray) [(RowD.mk [(Lbl.mk (⟨#[97]⟩ : ByteArray) (⟨#[49]⟩ : ByteArray))] 5)] 1 true).length : Nat) : Int) = (1 : Int))) && decide (y2.v = ((-4) : Int))) && z0 [(RowD.mk [(Lbl.mk (⟨#[97]⟩ : ByteArray) (⟨#[49]⟩ : ByteArray))] 5)])) :: [(1, .sh 2 ([(RowD.mk [(Lbl.mk (⟨#[97]⟩ : ByteArray) (⟨#[49]⟩ : ByteArray))] 5)].map RowD.d)), (2, .ov v1), (3, dI (zaF (⟨#[43]⟩ : ByteArray) [(RowD.mk [(Lbl.mk (⟨#[97]⟩ : ByteArray) (⟨#[49]⟩ : ByteArray))] 5)] [(RowD.mk [(Lbl.mk (⟨#[97]⟩ : ByteArray) (⟨#[49]⟩ : ByteArray))] 5)] 0 [])), (4, .ov v2), (5, dI (zaR (⟨#[45]⟩ : ByteArray) [(RowD.mk [(Lbl.mk (⟨#[97]⟩ : ByteArray) (⟨#[49]⟩ : ByteArray))] 5)] 1 true))]) ⟨sc rfl (Cv.eq (congrArg (fun b => D.v (.bool b)) (by first | (simp [hg4, hg5, hg6]; done) | (simp_all; done)))), sk rfl, sk rfl, sk rfl, sk rfl, sk rfl, trivial⟩ hQ3
      · skip
        refine zc rfl (za rfl rfl (zb rfl) (za rfl rfl (z3 rfl rfl (decide_eq_true hg4)) (za rfl rfl (zb rfl) (zi rfl rfl rfl rfl rfl (zb rfl) (zi rfl rfl rfl rfl rfl (z5 (n := (zE (⟨#[43]⟩ : ByteArray) [(RowD.mk [(Lbl.mk (⟨#[97]⟩ : ByteArray) (⟨#[49]⟩ : ByteArray))] 5)] [(RowD.mk [(Lbl.mk (⟨#[97]⟩ : ByteArray) (⟨#[49]⟩ : ByteArray))] 5)] 0 []).length) (j := 1) rfl rfl Try.runUnderlying22 (List.length_map _)) (zi rfl rfl rfl rfl rfl (z3 rfl rfl (decide_eq_false hg5)) (za rfl rfl (zn rfl rfl) (za rfl rfl (zb rfl) (zj rfl rfl rfl rfl rfl (by decide) (zj rfl rfl rfl rfl rfl (by decide) (zj rfl rfl rfl rfl rfl (by decide) (zj rfl rfl rfl rfl rfl (by decide) (zj rfl rfl rfl rfl rfl (by decide) (za rfl rfl (zm rfl rfl) (za rfl rfl (zb rfl) (zj rfl rfl rfl rfl rfl (by decide) (zj rfl rfl rfl rfl rfl (by decide) (za rfl rfl (zm rfl rfl) (za rfl rfl (zb rfl) (zj rfl rfl rfl rfl rfl (by decide) (zj rfl rfl rfl rfl rfl (by decide) (zj rfl rfl rfl rfl rfl (by decide) (za rfl rfl (zm rfl rfl) (za rfl rfl (zb rfl) (zj rfl rfl rfl rfl rfl (by decide) (zj rfl rfl rfl rfl rfl (by decide) (zj rfl rfl rfl rfl rfl (by decide) (zj rfl rfl rfl rfl rfl (by decide) (zj rfl rfl rfl rfl rfl (by decide) (za rfl rfl (zm rfl rfl) (za rfl rfl (zb rfl) ?_)))))))))))))))))))))))))))))))
        refine zj rfl rfl rfl rfl rfl (by decide) (zj rfl rfl rfl rfl rfl (by decide) (za rfl rfl (zm rfl rfl) (za rfl rfl (ze rfl) (zg rfl ?_))))
        exact PD.sub ((0, dB ((((((decide (zaF (⟨#[43]⟩ : ByteArray) [(RowD.mk [(Lbl.mk (⟨#[97]⟩ : ByteArray) (⟨#[49]⟩ : ByteArray))] 5)] [(RowD.mk [(Lbl.mk (⟨#[97]⟩ : ByteArray) (⟨#[49]⟩ : ByteArray))] 5)] 0 [] = (0 : Int)) && decide ((((zE (⟨#[43]⟩ : ByteArray) [(RowD.mk [(Lbl.mk (⟨#[97]⟩ : ByteArray) (⟨#[49]⟩ : ByteArray))] 5)] [(RowD.mk [(Lbl.mk (⟨#[97]⟩ : ByteArray) (⟨#[49]⟩ : ByteArray))] 5)] 0 []).length : Nat) : Int) = (1 : Int))) && decide (y1.v = (10 : Int))) && decide (zaR (⟨#[45]⟩ : ByteArray) [(RowD.mk [(Lbl.mk (⟨#[97]⟩ : ByteArray) (⟨#[49]⟩ : ByteArray))] 5)] 1 true = (0 : Int))) && decide ((((zK (⟨#[45]⟩ : ByteArray) [(RowD.mk [(Lbl.mk (⟨#[97]⟩ : ByteArray) (⟨#[49]⟩ : ByteArray))] 5)] 1 true).length : Nat) : Int) = (1 : Int))) && decide (y2.v = ((-4) : Int))) && z0 [(RowD.mk [(Lbl.mk (⟨#[97]⟩ : ByteArray) (⟨#[49]⟩ : ByteArray))] 5)])) :: [(1, .sh 2 ([(RowD.mk [(Lbl.mk (⟨#[97]⟩ : ByteArray) (⟨#[49]⟩ : ByteArray))] 5)].map RowD.d)), (2, .ov v1), (3, dI (zaF (⟨#[43]⟩ : ByteArray) [(RowD.mk [(Lbl.mk (⟨#[97]⟩ : ByteArray) (⟨#[49]⟩ : ByteArray))] 5)] [(RowD.mk [(Lbl.mk (⟨#[97]⟩ : ByteArray) (⟨#[49]⟩ : ByteArray))] 5)] 0 [])), (4, .ov v2), (5, dI (zaR (⟨#[45]⟩ : ByteArray) [(RowD.mk [(Lbl.mk (⟨#[97]⟩ : ByteArray) (⟨#[49]⟩ : ByteArray))] 5)] 1 true))]) ⟨sc rfl (Cv.eq (congrArg (fun b => D.v (.bool b)) (by first | (simp [hg4, hg5]; done) | (simp_all; done)))), sk rfl, sk rfl, sk rfl, sk rfl, sk rfl, trivial⟩ hQ3
    · skip
      refine zc rfl (za rfl rfl (zb rfl) (za rfl rfl (z3 rfl rfl (decide_eq_false hg4)) (za rfl rfl (zb rfl) (zj rfl rfl rfl rfl rfl (by decide) (zj rfl rfl rfl rfl rfl (by decide) (zj rfl rfl rfl rfl rfl (by decide) (za rfl rfl (zm rfl rfl) (za rfl rfl (zb rfl) (zj rfl rfl rfl rfl rfl (by decide) (zj rfl rfl rfl rfl rfl (by decide) (zj rfl rfl rfl rfl rfl (by decide) (zj rfl rfl rfl rfl rfl (by decide) (zj rfl rfl rfl rfl rfl (by decide) (za rfl rfl (zm rfl rfl) (za rfl rfl (zb rfl) (zj rfl rfl rfl rfl rfl (by decide) (zj rfl rfl rfl rfl rfl (by decide) (za rfl rfl (zm rfl rfl) (za rfl rfl (zb rfl) (zj rfl rfl rfl rfl rfl (by decide) (zj rfl rfl rfl rfl rfl (by decide) (zj rfl rfl rfl rfl rfl (by decide) (za rfl rfl (zm rfl rfl) (za rfl rfl (zb rfl) (zj rfl rfl rfl rfl rfl (by decide) (zj rfl rfl rfl rfl rfl (by decide) (zj rfl rfl rfl rfl rfl (by decide) (zj rfl rfl rfl rfl rfl (by decide) (zj rfl rfl rfl rfl rfl (by decide) (za rfl rfl (zm rfl rfl) (za rfl rfl (zb rfl) (zj rfl rfl rfl rfl rfl (by decide) (zj rfl rfl rfl rfl rfl (by decide) (za rfl rfl (zm rfl rfl) (za rfl rfl (ze rfl) (zg rfl ?_))))))))))))))))))))))))))))))))))))
      exact PD.sub ((0, dB ((((((decide (zaF (⟨#[43]⟩ : ByteArray) [(RowD.mk [(Lbl.mk (⟨#[97]⟩ : ByteArray) (⟨#[49]⟩ : ByteArray))] 5)] [(RowD.mk [(Lbl.mk (⟨#[97]⟩ : ByteArray) (⟨#[49]⟩ : ByteArray))] 5)] 0 [] = (0 : Int)) && decide ((((zE (⟨#[43]⟩ : ByteArray) [(RowD.mk [(Lbl.mk (⟨#[97]⟩ : ByteArray) (⟨#[49]⟩ : ByteArray))] 5)] [(RowD.mk [(Lbl.mk (⟨#[97]⟩ : ByteArray) (⟨#[49]⟩ : ByteArray))] 5)] 0 []).length : Nat) : Int) = (1 : Int))) && decide (y1.v = (10 : Int))) && decide (zaR (⟨#[45]⟩ : ByteArray) [(RowD.mk [(Lbl.mk (⟨#[97]⟩ : ByteArray) (⟨#[49]⟩ : ByteArray))] 5)] 1 true = (0 : Int))) && decide ((((zK (⟨#[45]⟩ : ByteArray) [(RowD.mk [(Lbl.mk (⟨#[97]⟩ : ByteArray) (⟨#[49]⟩ : ByteArray))] 5)] 1 true).length : Nat) : Int) = (1 : Int))) && decide (y2.v = ((-4) : Int))) && z0 [(RowD.mk [(Lbl.mk (⟨#[97]⟩ : ByteArray) (⟨#[49]⟩ : ByteArray))] 5)])) :: [(1, .sh 2 ([(RowD.mk [(Lbl.mk (⟨#[97]⟩ : ByteArray) (⟨#[49]⟩ : ByteArray))] 5)].map RowD.d)), (2, .ov v1), (3, dI (zaF (⟨#[43]⟩ : ByteArray) [(RowD.mk [(Lbl.mk (⟨#[97]⟩ : ByteArray) (⟨#[49]⟩ : ByteArray))] 5)] [(RowD.mk [(Lbl.mk (⟨#[97]⟩ : ByteArray) (⟨#[49]⟩ : ByteArray))] 5)] 0 [])), (4, .ov v2), (5, dI (zaR (⟨#[45]⟩ : ByteArray) [(RowD.mk [(Lbl.mk (⟨#[97]⟩ : ByteArray) (⟨#[49]⟩ : ByteArray))] 5)] 1 true))]) ⟨sc rfl (Cv.eq (congrArg (fun b => D.v (.bool b)) (by first | (simp [hg4]; done) | (simp_all; done)))), sk rfl, sk rfl, sk rfl, sk rfl, sk rfl, trivial⟩ hQ3
  · skip
    refine zf (zA rfl ?_)
    exact zw Try.results8 (.cons (zN (zr rfl) (Cv.eq (congrArg (fun b => D.v (.bool b)) (by simp [am1, am2, as1, as2, av, ey1, ey2])))) .nil) rfl HSub.none ⟨rfl, rfl⟩
end Lp
/-
  What is said of vectors (chapter 10): keys, sums, sizes, contraries.
-/
set_option linter.unusedVariables false
namespace Lp
open Go
theorem vr_match (op : ByteArray) (a b : List RowD) (mode : Int) (ns : List ByteArray) : z0 (zE op a b mode ns) = true := by
  unfold zE
  split
  · split
    · split
      · exact vr_rt _
      · rfl
    · rfl
  · rfl
theorem vr_scale (op : ByteArray) (a : List RowD) (v : Int) (left : Bool) : z0 (zK op a v left) = true := by
  unfold zK
  split
  · split
    · exact vr_rt _
    · rfl
  · rfl
/-! ### sizes -/
theorem nodup_le {α : Type} [DecidableEq α] : ∀ {a b : List α}, a.Nodup → (∀ x ∈ a, x ∈ b) → a.length ≤ b.length
  | [], b, _, _ => Nat.zero_le _
  | x :: a, b, h, hs => by
    rw [List.nodup_cons] at h
    have hx := hs x List.mem_cons_self
    have := nodup_le (a := a) (b := b.erase x) h.2 (fun y hy => by
      have hne : y ≠ x := fun e => h.1 (by rw [← e]; exact hy)
      exact (List.mem_erase_of_ne hne).2 (hs y (List.mem_cons_of_mem _ hy)))
    rw [List.length_erase_of_mem hx] at this
    have hp := List.length_pos_of_mem hx
    simp only [List.length_cons]; omega
theorem hasN_mem {ns : List ByteArray} {n : ByteArray} : hasN ns n = true ↔ n ∈ ns := by
  unfold hasN; rw [List.any_eq_true]
  exact ⟨fun ⟨x, hx, e⟩ => by rw [← of_decide_eq_true e]; exact hx, fun h => ⟨n, h, decide_eq_true rfl⟩⟩
theorem match_len (op : ByteArray) (a b : List RowD) (mode : Int) (ns : List ByteArray) : (zE op a b mode ns).length ≤ a.length ∧ (zE op a b mode ns).length ≤ b.length := by
  unfold zE
  split
  · split
    · rename_i hn
      split
      · have h1 := rt_len (zb8 op mode ns b a)
        have h2 : (zb8 op mode ns b a).length ≤ b.length := by
          -- those that are matched have different keys, which b has
          have hl : ∀ m : List RowD, (m.filterMap (zcw op mode ns b)).length ≤ (m.filter (fun r => hasN (zaa mode ns b) (keyT mode ns r))).length := by
            intro m
            induction m with
            | nil => exact Nat.le_refl _
            | cons r m ih =>
              by_cases hk : keyT mode ns r ∈ zaa mode ns b
              · rw [List.filter_cons_of_pos (p := fun r => hasN (zaa mode ns b) (keyT mode ns r)) (hasN_mem.2 hk), List.filterMap_cons]
                split
                · simp only [List.length_cons]; omega
                · simp only [List.length_cons]; omega
              · rw [List.filter_cons_of_neg (p := fun r => hasN (zaa mode ns b) (keyT mode ns r)) (fun h => hk (hasN_mem.1 h)), List.filterMap_cons_none (maF_none (op := op) hk).2]; exact ih
          refine Nat.le_trans (hl a) ?_
          have := nodup_le (a := (a.filter (fun r => hasN (zaa mode ns b) (keyT mode ns r))).map (keyT mode ns)) (b := zaa mode ns b) (List.Pairwise.sublist ((List.filter_sublist).map _) hn.1) (fun t ht => by
            obtain ⟨r, hr, e⟩ := List.mem_map.1 ht
            rw [← e]; exact hasN_mem.1 (List.mem_filter.1 hr).2)
          rw [List.length_map] at this
          unfold zaa at this
          rwa [List.length_map] at this
        exact ⟨Nat.le_trans h1 (maOut_len _ _ _ _ _), Nat.le_trans h1 h2⟩
      · exact ⟨Nat.zero_le _, Nat.zero_le _⟩
    · exact ⟨Nat.zero_le _, Nat.zero_le _⟩
  · exact ⟨Nat.zero_le _, Nat.zero_le _⟩
theorem scale_len (op : ByteArray) (a : List RowD) (v : Int) (left : Bool) : (zK op a v left).length ≤ a.length := by
  unfold zK
  split
  · split
    · exact Nat.le_trans (rt_len _) (scOut_len _ _ _ _)
    · exact Nat.zero_le _
  · exact Nat.zero_le _
theorem match_sub {op : ByteArray} (h : cmpB op = true) (a b : List RowD) (mode : Int) (ns : List ByteArray) : (zE op a b mode ns).Sublist a := by
  by_cases hg : zbw op a b = true
  · have hg' := hg
    unfold zbw at hg'
    simp only [Bool.and_eq_true] at hg'
    by_cases hn : ndT mode ns a ∧ ndT mode ns b
    · rw [(ma_cmp h hg'.2.1 hg'.2.2 hn).1]; exact List.filter_sublist
    · unfold zE; rw [if_pos hg, if_neg hn]; exact List.nil_sublist _
  · unfold zE; rw [if_neg hg]; exact List.nil_sublist _
theorem scale_sub {op : ByteArray} (h : cmpB op = true) (a : List RowD) (v : Int) (left : Bool) : (zK op a v left).Sublist a := by
  by_cases hg : zbv op v a = true
  · have hg' := hg
    unfold zbv at hg'
    simp only [Bool.and_eq_true] at hg'
    rw [(sc_cmp h hg'.2.1 hg'.2.2 left).1]; exact List.filter_sublist
  · unfold zK; rw [if_neg hg]; exact List.nil_sublist _
theorem sub_skip {s a : List RowD} {i k : Nat} {x y : RowD} (h : (s.drop i).Sublist (a.drop k)) (hx : s[i]? = some x) (hy : a[k]? = some y) (hne : ¬ y = x) : (s.drop i).Sublist (a.drop (k + 1)) := by
  rw [zaw hx, zaw hy] at h
  rw [zaw hx]
  cases h with
  | cons _ h => exact h
  | cons_cons _ h => exact absurd rfl hne
theorem sub_take {s a : List RowD} {i k : Nat} {x y : RowD} (h : (s.drop i).Sublist (a.drop k)) (hx : s[i]? = some x) (hy : a[k]? = some y) (he : y = x) : (s.drop (i + 1)).Sublist (a.drop (k + 1)) := by
  rw [zaw hx, zaw hy] at h
  cases h with
  | cons _ h => exact (List.sublist_cons_self _ _).trans h
  | cons_cons _ h => exact h
theorem sub_end {s a : List RowD} {i k : Nat} {x : RowD} (h : (s.drop i).Sublist (a.drop k)) (hx : s[i]? = some x) : k < a.length := by
  rcases Nat.lt_or_ge k a.length with e | e
  · exact e
  · rw [List.drop_eq_nil_iff.2 e, zaw hx] at h
    cases h
end Lp
/- Walks, printed by a program of mine. -/
set_option linter.unusedSimpArgs false
set_option linter.unusedVariables false
namespace Lp
open Go Go.RowKit Go.Proofs

namespace HdYtfjinapgehafiaaV66
theorem zat (b o : Nat) : ∀ w, (Instr.fieldAt 30 (.pointer (some ⟨b, o, none⟩)) 0).run Try.prog w = .ok (.pointer (some ⟨b, o + 0, none⟩)) w := fun _ => by kernel_rfl
theorem zaB (b o : Nat) : ∀ w, (Instr.fieldAt 30 (.pointer (some ⟨b, o, none⟩)) 1).run Try.prog w = .ok (.pointer (some ⟨b, o + 1, none⟩)) w := fun _ => by kernel_rfl
theorem zax (b o : Nat) : ∀ w, (Instr.fieldAt 33 (.pointer (some ⟨b, o, none⟩)) 0).run Try.prog w = .ok (.pointer (some ⟨b, o + 0, none⟩)) w := fun _ => by kernel_rfl
theorem za4 : ∃ i, Try.prog.info? 30 = some i ∧ i.zero = some (.agg #[(.slice none 0 0), (.int .i64 0)]) ∧ i.size = 2 ∧ i.bytes = 32 := zbC (by kernel_rfl)
theorem zbg : Try.prog.underlying 22 = some (.slice 30) := by kernel_rfl
end HdYtfjinapgehafiaaV66
open HdYtfjinapgehafiaaV66

end Lp
