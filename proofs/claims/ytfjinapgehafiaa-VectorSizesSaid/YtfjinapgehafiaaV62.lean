/- Walks, printed by a program of mine. -/
import Derived.Test.YtfjinapgehafiaaPVect
set_option linter.unusedSimpArgs false
set_option linter.unusedVariables false
namespace Lp
open Go Go.RowKit Go.Proofs

namespace HdYtfjinapgehafiaaV62
theorem zdq : ∀ w, ((#[⟨"Labels", 27, 0, false, "", "", 0⟩, ⟨"V", 3, 1, false, "", "", 24⟩] : Array Field).mapM fun f => do pure (f.offset, ← Go.sizeOf f.type) : Sem (Array (Nat × Nat))).run Try.prog w = .ok ([(0, 1), (1, 1)] : List (Nat × Nat)).toArray w := fun _ => by kernel_rfl
theorem zat (b o : Nat) : ∀ w, (Instr.fieldAt 30 (.pointer (some ⟨b, o, none⟩)) 0).run Try.prog w = .ok (.pointer (some ⟨b, o + 0, none⟩)) w := fun _ => by kernel_rfl
theorem zaB (b o : Nat) : ∀ w, (Instr.fieldAt 30 (.pointer (some ⟨b, o, none⟩)) 1).run Try.prog w = .ok (.pointer (some ⟨b, o + 1, none⟩)) w := fun _ => by kernel_rfl
theorem za4 : ∃ i, Try.prog.info? 30 = some i ∧ i.zero = some (.agg #[(.slice none 0 0), (.int .i64 0)]) ∧ i.size = 2 ∧ i.bytes = 32 := zbC (by kernel_rfl)
theorem zbg : Try.prog.underlying 22 = some (.slice 30) := by kernel_rfl
end HdYtfjinapgehafiaaV62
open HdYtfjinapgehafiaaV62

set_option maxHeartbeats 4000000 in
set_option maxRecDepth 100000 in
theorem vorder_c (a : RowD) (b : RowD)  :
    CD Try.prog 32 [] [RowD.d a, RowD.d b] (isR (dI (z1 a.ls b.ls))) := by
  refine zM Try.func32 rfl (N := 10) rfl rfl (fun C => ?_)
  refine JD.keep [0, 1] [(0, RowD.d a), (1, RowD.d b)] rfl ?_
  refine JD.bd 0 rfl (fun bd0 => ?_)
  refine JD.bd 1 rfl (fun bd1 => ?_)
  refine zh _ _ rfl rfl rfl (zc rfl (zl rfl rfl (zdf rfl (CellD.agg)) ?_))
  rintro _ _ ⟨g1, rfl, rfl⟩
  refine zl rfl rfl (zdf rfl (CellD.agg)) ?_
  rintro _ _ ⟨g2, rfl, rfl⟩
  refine za rfl rfl (ze rfl) (zg rfl (zf (zh _ _ rfl rfl rfl (zc rfl (za rfl rfl (zz rfl zat rfl) (za rfl rfl (zR rfl (i := 1) rfl Try.isAgg27 rfl) (za rfl rfl (zz rfl zat rfl) (za rfl rfl (zR rfl (i := 0) rfl Try.isAgg27 rfl) (zl rfl rfl (zs [] _ [] rfl rfl (.cons ArgC.id (.cons ArgC.id .nil)) zo Try.call48 (Compare2_c a.ls b.ls) (.inl rfl)) ?_)))))))))
  rintro _ _ ⟨_, ⟨rfl, rfl⟩, rfl⟩
  refine OpsD.norm [.bx g2 30 (RowD.d b), .bx g1 30 (RowD.d a)] rfl (za rfl rfl (ze rfl) (zg rfl (zf (JD.keep [4] [(4, dI (z1 a.ls b.ls))] rfl (zA rfl ?_)))))
  exact zw Try.results32 (.cons (zr rfl) .nil) rfl HSub.none ⟨rfl, rfl⟩

set_option maxHeartbeats 4000000 in
set_option maxRecDepth 100000 in
theorem zdT (s : ByteArray)  :
    CD Try.prog 25 [] [.s s] (isR (dB (opB s))) := by
  refine zM Try.func25 rfl (N := 12) rfl rfl (fun C => ?_)
  refine JD.keep [0] [(0, .s s)] rfl ?_
  refine JD.bd 0 rfl (fun bd0 => ?_)
  have sz0 : s.size ≤ 9223372036854775807 := bd0
  refine zh _ _ rfl rfl rfl (zc rfl (za rfl rfl (ze rfl) (zg rfl (zf (zh _ _ rfl rfl rfl (zc rfl (za rfl rfl (zb rfl) (zl rfl rfl (zs [] _ [] rfl rfl (.cons ArgC.id (.cons ArgC.id (.cons ArgC.id .nil))) zo Try.call28 (Do_c s 1 1) (.inl rfl)) ?_))))))))
  rintro _ _ ⟨_, ⟨rfl, rfl⟩, rfl⟩
  refine OpsD.norm [] rfl (za rfl rfl (zb rfl) (za rfl rfl (zF rfl rfl) (za rfl rfl (zF rfl rfl) (za rfl rfl (ze rfl) (za rfl rfl (ze rfl) (zg rfl (zf (zh _ _ rfl rfl rfl (zc rfl (za rfl rfl (zb rfl) (za rfl rfl (z3 rfl rfl rfl) (za rfl rfl (ze rfl) (zg rfl (zf (JD.keep [2] [(2, dB (decide ((doE s 1 1).2 = (0 : Int))))] rfl (zA rfl ?_))))))))))))))))
  exact zw Try.results25 (.cons (zN (zr rfl) (Cv.eq (congrArg (fun b => D.v (.bool b)) (by rfl)))) .nil) rfl HSub.none ⟨rfl, rfl⟩

set_option maxHeartbeats 4000000 in
set_option maxRecDepth 100000 in
theorem single_c (r : RowD)  :
    CD Try.prog 31 [] [RowD.d r] (isR (dB (zbi r))) := by
  refine zM Try.func31 rfl (N := 11) rfl rfl (fun C => ?_)
  refine JD.keep [0] [(0, RowD.d r)] rfl ?_
  refine JD.bd 0 rfl (fun bd0 => ?_)
  refine zh _ _ rfl rfl rfl (zc rfl (zl rfl rfl (zdf rfl (CellD.agg)) ?_))
  rintro _ _ ⟨g1, rfl, rfl⟩
  refine za rfl rfl (ze rfl) (zg rfl (zf (zh _ _ rfl rfl rfl (JD.keep [1] [(1, dP g1 0)] rfl ?_))))
  refine zan 2 (((decide (za6 r.ls = 0) && decide (z1 (zS r.ls) r.ls = 0)) && zaV r.v)) [.bx g1 30 (RowD.d r)] (fun _ hQ2 => ?_) ?_
  · skip
    rcases Bool.eq_false_or_eq_true ((decide (za6 r.ls = 0) && decide (z1 (zS r.ls) r.ls = 0))) with hg3 | hg3
    · skip
      refine zc rfl (za rfl rfl (zz rfl zat rfl) (za rfl rfl (zR rfl (i := 0) rfl Try.isAgg27 rfl) (zl rfl rfl (zs [] _ [] rfl rfl (.cons ArgC.id .nil) zo Try.call47 (right_c r.ls) (.inl rfl)) ?_)))
      rintro _ _ ⟨_, ⟨rfl, rfl⟩, rfl⟩
      refine OpsD.norm [.bx g1 30 (RowD.d r)] rfl (OpsD.sub ((5, dB true) :: [(1, dP g1 0), (3, dP g1 0), (4, .sh 2 (r.ls.map Lbl.d))]) ⟨se rfl (congrArg (fun b => D.v (.bool b)) hg3), sk rfl, sk rfl, sk rfl, trivial⟩ (za rfl rfl (zb rfl) (zi rfl rfl rfl rfl rfl (zz rfl zaB rfl) (zi rfl rfl rfl rfl rfl (zR rfl (i := 0) rfl Try.isAgg3 rfl) (zaH rfl rfl rfl rfl rfl (zs [] _ [] rfl rfl (.cons ArgC.id .nil) zo Try.call33 (zcS r.v) (.inl rfl)) ?_)))))
      rintro _ _ ⟨_, ⟨rfl, rfl⟩, rfl⟩
      refine OpsD.norm [.bx g1 30 (RowD.d r)] rfl (za rfl rfl (zn rfl rfl) (za rfl rfl (ze rfl) (zg rfl ?_)))
      exact PD.sub ((2, dB ((decide (za6 r.ls = 0) && decide (z1 (zS r.ls) r.ls = 0)) && zaV r.v)) :: [(1, dP g1 0)]) ⟨sc rfl (Cv.eq (congrArg (fun b => D.v (.bool b)) (by first | (simp [hg3]; done) | (simp_all; done)))), sk rfl, trivial⟩ hQ2
    · skip
      refine zc rfl (za rfl rfl (zz rfl zat rfl) (za rfl rfl (zR rfl (i := 0) rfl Try.isAgg27 rfl) (zl rfl rfl (zs [] _ [] rfl rfl (.cons ArgC.id .nil) zo Try.call47 (right_c r.ls) (.inl rfl)) ?_)))
      rintro _ _ ⟨_, ⟨rfl, rfl⟩, rfl⟩
      refine OpsD.norm [.bx g1 30 (RowD.d r)] rfl (OpsD.sub ((5, dB false) :: [(1, dP g1 0), (3, dP g1 0), (4, .sh 2 (r.ls.map Lbl.d))]) ⟨se rfl (congrArg (fun b => D.v (.bool b)) hg3), sk rfl, sk rfl, sk rfl, trivial⟩ (za rfl rfl (zb rfl) (zj rfl rfl rfl rfl rfl (by decide) (zj rfl rfl rfl rfl rfl (by decide) (zj rfl rfl rfl rfl rfl (by decide) (za rfl rfl (zm rfl rfl) (za rfl rfl (ze rfl) (zg rfl ?_))))))))
      exact PD.sub ((2, dB ((decide (za6 r.ls = 0) && decide (z1 (zS r.ls) r.ls = 0)) && zaV r.v)) :: [(1, dP g1 0)]) ⟨sc rfl (Cv.eq (congrArg (fun b => D.v (.bool b)) (by first | (simp [hg3]; done) | (simp_all; done)))), sk rfl, trivial⟩ hQ2
  · skip
    refine zf (zA rfl ?_)
    exact zw Try.results31 (.cons (zN (zr rfl) (Cv.eq (congrArg (fun b => D.v (.bool b)) (by unfold zbi; rw [rightB_eq])))) .nil) rfl HSub.none ⟨rfl, rfl⟩

set_option maxHeartbeats 4000000 in
set_option maxRecDepth 100000 in
theorem vown_c (r : RowD) (hl : r.ls.length ≤ 1000000) :
    CD Try.prog 45 [] [RowD.d r] (isR (RowD.d r)) := by
  refine zM Try.func45 rfl (N := 9) rfl rfl (fun C => ?_)
  refine JD.keep [0] [(0, RowD.d r)] rfl ?_
  refine JD.bd 0 rfl (fun bd0 => ?_)
  refine zh _ _ rfl rfl rfl (zc rfl (zl rfl rfl (zdf rfl (CellD.agg)) ?_))
  rintro _ _ ⟨g1, rfl, rfl⟩
  refine zl rfl rfl (zaM (zv := (.agg #[(.slice none 0 0), (.int .i64 0)])) Try.zeroValue30 ⟨rfl, rfl, trivial⟩ (Cv.vagg (by decide))) ?_
  rintro _ _ ⟨g2, rfl, rfl⟩
  refine zg rfl (zf (zh _ _ rfl rfl rfl (JD.keep [0, 1, 2] [(0, RowD.d r), (1, dP g1 0), (2, dP g2 0)] rfl (JD.norm [.bx g2 30 (.agg [dZ, dI 0]), .bx g1 30 (RowD.d r)] rfl (zaj 5 [(3, dP g1 0, none), (4, .sh 2 (r.ls.map Lbl.d), none), (5, .sh 2 (r.ls.map Lbl.d), none), (6, dP g1 1, none), (7, dI r.v, none)] [.bx g2 30 (.agg [dZ, dI 0]), .bx g1 30 (RowD.d r)] (Hn := [.bx g2 30 (.agg [dZ, dI 0]), .bx g1 30 (RowD.d r)]) zaz rfl rfl rfl rfl HSub.rfl' rfl ⟨sa_p rfl rfl rfl (zz rfl zat rfl), sa_p rfl rfl rfl (zR rfl (i := 1) rfl Try.isAgg27 rfl), sa_q rfl rfl rfl (zbS rfl (.cons Cv.rfl' .nil) Try.call60 (cloneL_c r.ls (by omega)) isOwn_share), sa_p rfl rfl rfl (zz rfl zaB rfl), sa_p rfl rfl rfl (zR rfl (i := 1) rfl Try.isAgg3 rfl), trivial⟩ (OpsD.keep [0, 1, 2, 3, 4, 5, 6, 7] [(0, RowD.d r), (1, dP g1 0), (2, dP g2 0), (3, dP g1 0), (4, .sh 2 (r.ls.map Lbl.d)), (5, .sh 2 (r.ls.map Lbl.d)), (6, dP g1 1), (7, dI r.v)] rfl ?_))))))
  refine za rfl rfl (zc1 [0, 1] [.tmp 5, .tmp 7] (zv := (.agg #[(.slice none 0 0), (.int .i64 0)])) rfl rfl (.cons CellD.sh (.cons (CellD.v rfl) .nil)) (Try.runUnderlying30) Try.zeroValue30 zdq ⟨rfl, rfl, trivial⟩ rfl) (zl rfl rfl (zab (i := 0) (X' := .agg [.sh 2 (r.ls.map Lbl.d), dI r.v]) rfl rfl rfl (CellD.agg) Try.sizeOf30 rfl rfl rfl) ?_)
  rintro _ _ ⟨rfl, rfl⟩
  refine OpsD.norm [.bx g2 30 (.agg [.sh 2 (r.ls.map Lbl.d), dI r.v]), .bx g1 30 (RowD.d r)] rfl (zg rfl (zf (zA rfl ?_)))
  exact zw Try.results45 (.cons (ro_cell (i := 0) rfl rfl Try.isAgg30 Try.sizeOf30 rfl rfl) .nil) rfl HSub.none ⟨rfl, rfl⟩

set_option maxHeartbeats 4000000 in
set_option maxRecDepth 100000 in
theorem zd0 (mode : Int) (names : List ByteArray) (l : List Lbl) (hl : l.length ≤ 1000000) :
    CD Try.prog 10 [] [dI mode, .sh 1 (names.map D.s), .sh 2 (l.map Lbl.d)] (zdJ 2 33 ((keyL mode names l).map Lbl.d)) := by
  refine zM Try.func10 rfl (N := 23) rfl rfl (fun C => ?_)
  refine JD.keep [0, 1, 2] [(0, dI mode), (1, .sh 1 (names.map D.s)), (2, .sh 2 (l.map Lbl.d))] rfl ?_
  refine JD.bd 1 rfl (fun bd1 => ?_)
  have nl1 := zag bd1
  refine JD.bd 2 rfl (fun bd2 => ?_)
  have nl2 := zag bd2
  have hp1 := zbZ l names false
  refine zh _ _ rfl rfl rfl (zc rfl (za rfl rfl (ze rfl) (zg rfl (zf (zh _ _ rfl rfl rfl (zh _ _ rfl rfl rfl (zc rfl (za rfl rfl (zb rfl) (zg rfl (zf (zx _ rfl rfl (zh _ _ rfl rfl rfl (zc rfl (za rfl rfl (z3 rfl rfl rfl) (za rfl rfl (ze rfl) (zg rfl (zf ?_)))))))))))))))))
  refine zt _ _ rfl rfl rfl rfl (fun hc1 => ?_) (fun hc1 => ?_)
  · replace hc1 := of_decide_eq_true hc1
    refine zh _ _ rfl rfl rfl (zc rfl (za rfl rfl (zb rfl) (za rfl rfl (zb rfl) (zl rfl rfl (zs [] _ [] rfl rfl (.cons ArgC.id (.cons ArgC.id .nil)) zo Try.call23 (only_c l names (by omega)) (.inl rfl)) ?_))))
    rintro _ _ ⟨_, ⟨v2, rfl, rfl⟩, rfl⟩
    refine OpsD.norm [.sl v2 2 33 ((za1 l names true).map Lbl.d)] rfl (za rfl rfl (ze rfl) (zg rfl (zf (zA rfl (zp (zq (PD.subH (HSub.less (zcC (i := 0) rfl)) (PD.subH (HSub.turn (h' := .sl v2 2 33 ((keyL mode names l).map Lbl.d)) rfl (Hp.eq_sl (show List.map Lbl.d (za1 l names true) = List.map Lbl.d (keyL mode names l) from congrArg _ (by unfold keyL metB; simp [*])))) ?_))))))))
    exact zc0 Try.results10 (.cons (zr rfl) .nil) rfl ⟨_, rfl, rfl⟩
  · replace hc1 := of_decide_eq_false hc1
    refine zh _ _ rfl rfl rfl (zc rfl (za rfl rfl (z3 rfl rfl rfl) (za rfl rfl (ze rfl) (zg rfl (zf ?_)))))
    refine zt _ _ rfl rfl rfl rfl (fun hc3 => ?_) (fun hc3 => ?_)
    · replace hc3 := of_decide_eq_true hc3
      refine zh _ _ rfl rfl rfl (zc rfl (za rfl rfl (zb rfl) (za rfl rfl (zb rfl) (zl rfl rfl (zs [] _ [] rfl rfl (.cons ArgC.id (.cons ArgC.id .nil)) zo Try.call24 (without_c l names (by omega)) (.inl rfl)) ?_))))
      rintro _ _ ⟨_, ⟨v4, rfl, rfl⟩, rfl⟩
      refine OpsD.norm [.sl v4 2 33 ((za1 l names false).map Lbl.d)] rfl (zl rfl rfl (z6 [.const (.string (⟨#[109, 101, 116, 114, 105, 99]⟩ : ByteArray))] rfl rfl (.cons (CellD.v rfl) .nil) rfl Try.runUnderlying23 Try.sizeOf9 Try.zeroValue9 rfl rfl rfl rfl) ?_)
      rintro _ _ ⟨g5, rfl, rfl⟩
      refine OpsD.subH (HSub.turn (h' := .sl (vS g5 1 1) 1 9 ([(⟨#[109, 101, 116, 114, 105, 99]⟩ : ByteArray)].map D.s)) rfl (Hp.cvs_sl (.cons (Cv.str (by first | decide | (unfold maxLen; omega))) .nil))) (zl rfl rfl (zs [] _ [.sl v4 2 33 ((za1 l names false).map Lbl.d), .sl (vS g5 1 1) 1 9 ([(⟨#[109, 101, 116, 114, 105, 99]⟩ : ByteArray)].map D.s)] rfl rfl (.cons (ArgC.own (j := 0) rfl rfl) (.cons (ArgC.own (j := 1) rfl rfl) .nil)) (za3 (j := 1) rfl (za3 (j := 0) rfl zo)) Try.call24 (without_c (za1 l names false) [(⟨#[109, 101, 116, 114, 105, 99]⟩ : ByteArray)] (by omega)) (.inr (isOwn_flat (flatL_map (fun _ => rfl) _)))) ?_)
      rintro _ _ ⟨_, ⟨v6, rfl, rfl⟩, rfl⟩
      refine OpsD.norm [.sl v6 2 33 ((za1 (za1 l names false) [(⟨#[109, 101, 116, 114, 105, 99]⟩ : ByteArray)] false).map Lbl.d), .sl (vS g5 1 1) 1 9 ([(⟨#[109, 101, 116, 114, 105, 99]⟩ : ByteArray)].map D.s), .sl v4 2 33 ((za1 l names false).map Lbl.d)] rfl (za rfl rfl (ze rfl) (zg rfl (zf (JD.keep [2, 6] [(2, .sh 2 (l.map Lbl.d)), (6, .ov v6)] rfl (zA rfl (zp (zq (PD.subH (HSub.less (zcC (i := 0) rfl)) (PD.subH (HSub.turn (h' := .sl v6 2 33 ((keyL mode names l).map Lbl.d)) rfl (Hp.eq_sl (show List.map Lbl.d (za1 (za1 l names false) [(⟨#[109, 101, 116, 114, 105, 99]⟩ : ByteArray)] false) = List.map Lbl.d (keyL mode names l) from congrArg _ (by unfold keyL metB; simp [*])))) ?_)))))))))
      exact zc0 Try.results10 (.cons (zr rfl) .nil) rfl ⟨_, rfl, rfl⟩
    · replace hc3 := of_decide_eq_false hc3
      refine zy rfl (zC (zf (zh _ _ rfl rfl rfl (zc rfl (za rfl rfl (zb rfl) (zl rfl rfl (z6 [.const (.string (⟨#[109, 101, 116, 114, 105, 99]⟩ : ByteArray))] rfl rfl (.cons (CellD.v rfl) .nil) rfl Try.runUnderlying23 Try.sizeOf9 Try.zeroValue9 rfl rfl rfl rfl) ?_))))))
      rintro _ _ ⟨g7, rfl, rfl⟩
      refine OpsD.subH (HSub.turn (h' := .sl (vS g7 1 1) 1 9 ([(⟨#[109, 101, 116, 114, 105, 99]⟩ : ByteArray)].map D.s)) rfl (Hp.cvs_sl (.cons (Cv.str (by first | decide | (unfold maxLen; omega))) .nil))) (zl rfl rfl (zs [] _ [.sl (vS g7 1 1) 1 9 ([(⟨#[109, 101, 116, 114, 105, 99]⟩ : ByteArray)].map D.s)] rfl rfl (.cons ArgC.id (.cons (ArgC.own (j := 0) rfl rfl) .nil)) (za3 (j := 0) rfl zo) Try.call24 (without_c l [(⟨#[109, 101, 116, 114, 105, 99]⟩ : ByteArray)] (by omega)) (.inr (isOwn_flat (flatL_map (fun _ => rfl) _)))) ?_)
      rintro _ _ ⟨_, ⟨v8, rfl, rfl⟩, rfl⟩
      refine OpsD.norm [.sl v8 2 33 ((za1 l [(⟨#[109, 101, 116, 114, 105, 99]⟩ : ByteArray)] false).map Lbl.d), .sl (vS g7 1 1) 1 9 ([(⟨#[109, 101, 116, 114, 105, 99]⟩ : ByteArray)].map D.s)] rfl (za rfl rfl (ze rfl) (zg rfl (zf (JD.keep [6] [(6, .ov v8)] rfl (zA rfl (PD.subH (HSub.less (zcC (i := 0) rfl)) (PD.subH (HSub.turn (h' := .sl v8 2 33 ((keyL mode names l).map Lbl.d)) rfl (Hp.eq_sl (show List.map Lbl.d (za1 l [(⟨#[109, 101, 116, 114, 105, 99]⟩ : ByteArray)] false) = List.map Lbl.d (keyL mode names l) from congrArg _ (by unfold keyL metB; simp [*])))) ?_)))))))
      exact zc0 Try.results10 (.cons (zr rfl) .nil) rfl ⟨_, rfl, rfl⟩

set_option maxHeartbeats 4000000 in
set_option maxRecDepth 100000 in
theorem zbQ (l : List RowD)  :
    CD Try.prog 15 [] [.sh 2 (l.map RowD.d)] (isR (dB (z0 l))) := by
  refine zM Try.func15 rfl (N := 33) rfl rfl (fun C => ?_)
  refine JD.keep [0] [(0, .sh 2 (l.map RowD.d))] rfl ?_
  refine JD.bd 0 rfl (fun bd0 => ?_)
  have nl0 := zag bd0
  refine zh _ _ rfl rfl rfl (zc rfl (za rfl rfl (ze rfl) (zg rfl (zf (zh _ _ rfl rfl rfl (zh _ _ rfl rfl rfl (zc rfl (za rfl rfl (zb rfl) (za rfl rfl (zaf (n := l.length) rfl Try.runUnderlying22 (by simp only [lm, lc, ln])) (za rfl rfl (zar rfl rfl rfl) (zg rfl (zf ?_))))))))))))
  refine zt _ _ rfl rfl rfl rfl (fun hc1 => ?_) (fun hc1 => ?_)
  · replace hc1 := of_decide_eq_true hc1
    refine zh _ _ rfl rfl rfl (zc rfl (za rfl rfl (ze rfl) (zg rfl (zf (zA rfl (zq ?_))))))
    exact zw Try.results15 (.cons (zN (zr rfl) (Cv.eq (congrArg (fun b => D.v (.bool b)) (by exact vr_long hc1)))) .nil) rfl HSub.none ⟨rfl, rfl⟩
  · replace hc1 := of_decide_eq_false hc1
    refine zy rfl (zf (zh _ _ rfl rfl rfl (zh _ _ rfl rfl rfl (zc rfl (za rfl rfl (zb rfl) (za rfl rfl (zaf (n := l.length) rfl Try.runUnderlying22 (by simp only [lm, lc, ln])) (za rfl rfl (zb rfl) (zg rfl (zf (zx _ rfl rfl (z7 (fun (g : Nat) => [(0, .sh 2 (l.map RowD.d)), (8, .sh 2 (l.map RowD.d)), (9, dN l.length), (10, dN g)]) (fun (g : Nat) => []) (fun (g : Nat) => (zbE l 0 = zbE l g)) (fun (g : Nat) => l.length - g) _ 0 rfl rfl ⟨sk rfl, sk rfl, sk rfl, sk rfl, trivial⟩ HSub.rfl' rfl ?_)))))))))))
    rintro k hk
    refine JD.keep [0, 8, 9, 10] [(0, .sh 2 (l.map RowD.d)), (8, .sh 2 (l.map RowD.d)), (9, dN l.length), (10, dN k)] rfl (JD.norm [] rfl (zh _ _ rfl rfl rfl (zc rfl (za rfl rfl (z9 rfl rfl rfl) (zg rfl (zf (zh _ _ rfl rfl rfl ?_)))))))
    refine zt _ _ rfl rfl rfl rfl (fun hc2 => ?_) (fun hc2 => ?_)
    · replace hc2 := of_decide_eq_true hc2
      refine zy rfl (zf (zh _ _ rfl rfl rfl (zx _ rfl rfl (zh _ _ rfl rfl rfl (zc rfl (za rfl rfl (zb rfl) ?_))))))
      obtain ⟨x1, hx1⟩ := zW l k (by omega)
      refine za rfl rfl (zL (k := k) rfl rfl Try.runUnderlying22 Try.sizeOf30 (by first | rfl | omega) (zu hx1)) (za rfl rfl (zaK (d := RowD.d x1) rfl Try.isAgg30 Try.sizeOf30 rfl rfl) (zl rfl rfl (zaM (zv := (.agg #[(.slice none 0 0), (.int .i64 0)])) Try.zeroValue30 ⟨rfl, rfl, trivial⟩ (Cv.vagg (by decide))) ?_))
      rintro _ _ ⟨g3, rfl, rfl⟩
      refine za rfl rfl (ze rfl) (zl rfl rfl (zab (i := 0) (X' := RowD.d x1) rfl rfl rfl (CellD.agg) Try.sizeOf30 rfl rfl rfl) ?_)
      rintro _ _ ⟨rfl, rfl⟩
      refine OpsD.norm [.bx g3 30 (RowD.d x1)] rfl (zg rfl (zf (zh _ _ rfl rfl rfl ?_)))
      rcases Bool.eq_false_or_eq_true (zbi x1) with hg4 | hg4
      · skip
        by_cases hg5 : (0 : Int) < ((k : Nat) : Int)
        · skip
          refine JD.keep [0, 3, 4, 8, 9, 10, 11, 12, 13, 14] [(0, .sh 2 (l.map RowD.d)), (3, dN k), (4, dP g3 0), (8, .sh 2 (l.map RowD.d)), (9, dN l.length), (10, dN k), (11, dB (decide (((k : Nat) : Int) < ((l.length : Nat) : Int)))), (12, dN k), (13, .el (RowD.d x1) 0), (14, RowD.d x1)] rfl (JD.norm [.bx g3 30 (RowD.d x1)] rfl ?_)
          obtain ⟨x2, hx2⟩ := zW l (k - 1) (by omega)
          refine zaj 13 [(15, RowD.d x1, none), (16, dB true, none), (17, dB false, none), (18, dB false, none), (19, dN k, none), (20, dB true, none), (21, dB true, none), (22, .sh 2 (l.map RowD.d), none), (23, dN k, none), (24, dN (k - 1), none), (25, .el (RowD.d x2) 0, none), (26, RowD.d x2, none), (27, RowD.d x1, none)] [.bx g3 30 (RowD.d x1)] (Hn := [.bx g3 30 (RowD.d x1)]) zaz rfl rfl rfl rfl HSub.rfl' rfl ⟨sa_p rfl rfl rfl (za2 (d := RowD.d x1) rfl (i := 0) rfl Try.isAgg30 Try.sizeOf30 rfl rfl), sa_q rfl rfl rfl ((zbS rfl (.cons Cv.rfl' .nil) Try.call31 (single_c x1) zbt).cv (Cv.eq (congrArg (fun b => D.v (.bool b)) hg4))), sa_p rfl rfl rfl (zae (q := true) rfl), sa_p rfl rfl rfl (zb rfl), zQ rfl rfl rfl rfl rfl rfl (zb rfl).qu, zQ rfl rfl rfl rfl rfl rfl (zar rfl rfl (decide_eq_true hg5)).qu, zQ rfl rfl rfl rfl rfl rfl (zb rfl).qu, zQ rfl rfl rfl rfl rfl rfl (zb rfl).qu, zQ rfl rfl rfl rfl rfl rfl (zb rfl).qu, zQ rfl rfl rfl rfl rfl rfl (zaS (c := ((k - 1 : Nat) : Int)) rfl rfl (zU (by omega) (by omega))).qu, zQ rfl rfl rfl rfl rfl rfl (zL (k := k - 1) rfl rfl Try.runUnderlying22 Try.sizeOf30 (by first | rfl | omega) (zu hx2)).qu, zQ rfl rfl rfl rfl rfl rfl (zaK (d := RowD.d x2) rfl Try.isAgg30 Try.sizeOf30 rfl rfl).qu, zQ rfl rfl rfl rfl rfl rfl (za2 (d := RowD.d x1) rfl (i := 0) rfl Try.isAgg30 Try.sizeOf30 rfl rfl).qu, trivial⟩ ?_
          refine OpsD.keep [0, 3, 4, 8, 9, 10, 11, 12, 13, 14, 15, 16, 17, 18, 19, 20, 21, 22, 23, 24, 25, 26, 27] [(0, .sh 2 (l.map RowD.d)), (3, dN k), (4, dP g3 0), (8, .sh 2 (l.map RowD.d)), (9, dN l.length), (10, dN k), (11, dB (decide (((k : Nat) : Int) < ((l.length : Nat) : Int)))), (12, dN k), (13, .el (RowD.d x1) 0), (14, RowD.d x1), (15, RowD.d x1), (16, dB true), (17, dB false), (18, dB false), (19, dN k), (20, dB true), (21, dB true), (22, .sh 2 (l.map RowD.d)), (23, dN k), (24, dN (k - 1)), (25, .el (RowD.d x2) 0), (26, RowD.d x2), (27, RowD.d x1)] rfl (zaH rfl rfl rfl rfl rfl (zs [] _ [] rfl rfl (.cons ArgC.id (.cons ArgC.id .nil)) zo Try.call32 (vorder_c x2 x1) (.inl rfl)) ?_)
          rintro _ _ ⟨_, ⟨rfl, rfl⟩, rfl⟩
          refine OpsD.norm [.bx g3 30 (RowD.d x1)] rfl (zi rfl rfl rfl rfl rfl (zac rfl rfl rfl) (zi rfl rfl rfl rfl rfl (zn rfl rfl) (za rfl rfl (zm rfl rfl) (zg rfl (zf ?_)))))
          refine zt _ _ rfl rfl rfl rfl (fun hc6 => ?_) (fun hc6 => ?_)
          · replace hc6 := of_decide_eq_true hc6
            refine zh _ _ rfl rfl rfl (zc rfl (za rfl rfl (ze rfl) (zg rfl (zf (zA rfl (zp (zq (zZ (zp (zq ?_))))))))))
            exact zw Try.results15 (.cons (zN (zr rfl) (Cv.eq (congrArg (fun b => D.v (.bool b)) (by exact vr_bad2 hk hx1 (prevR_pos hg5 hx2) hc6)))) .nil) rfl HSub.none ⟨rfl, rfl⟩
          · replace hc6 := of_decide_eq_false hc6
            refine zy rfl (zC (zf (zc rfl (za rfl rfl (z8 (c := ((k + 1 : Nat) : Int)) rfl rfl (zU (by omega) (by omega))) (za rfl rfl (zb rfl) (zg rfl ?_))))))
            exact zT (k + 1) ⟨sk rfl, sk rfl, sk rfl, sk rfl, trivial⟩ HSub.none (vr_step hk hx1 hg4 (prevR_pos hg5 hx2) hc6) (by omega)
        · skip
          refine JD.keep [0, 3, 4, 8, 9, 10, 11, 12, 13, 14] [(0, .sh 2 (l.map RowD.d)), (3, dN k), (4, dP g3 0), (8, .sh 2 (l.map RowD.d)), (9, dN l.length), (10, dN k), (11, dB (decide (((k : Nat) : Int) < ((l.length : Nat) : Int)))), (12, dN k), (13, .el (RowD.d x1) 0), (14, RowD.d x1)] rfl (JD.norm [.bx g3 30 (RowD.d x1)] rfl ?_)
          refine zaj 13 [(15, RowD.d x1, none), (16, dB true, none), (17, dB false, none), (18, dB false, none), (19, dN k, none), (20, dB false, none), (21, dB false, none), (22, .v undef, none), (23, .v undef, none), (24, .v undef, none), (25, .v undef, none), (26, .v undef, none), (27, .v undef, none)] [.bx g3 30 (RowD.d x1)] (Hn := [.bx g3 30 (RowD.d x1)]) zaz rfl rfl rfl rfl HSub.rfl' rfl ⟨sa_p rfl rfl rfl (za2 (d := RowD.d x1) rfl (i := 0) rfl Try.isAgg30 Try.sizeOf30 rfl rfl), sa_q rfl rfl rfl ((zbS rfl (.cons Cv.rfl' .nil) Try.call31 (single_c x1) zbt).cv (Cv.eq (congrArg (fun b => D.v (.bool b)) hg4))), sa_p rfl rfl rfl (zae (q := true) rfl), sa_p rfl rfl rfl (zb rfl), zQ rfl rfl rfl rfl rfl rfl (zb rfl).qu, zQ rfl rfl rfl rfl rfl rfl (zar rfl rfl (decide_eq_false hg5)).qu, zQ rfl rfl rfl rfl rfl rfl (zb rfl).qu, sa_s rfl rfl rfl rfl rfl rfl (by decide), sa_s rfl rfl rfl rfl rfl rfl (by decide), sa_s rfl rfl rfl rfl rfl rfl (by decide), sa_s rfl rfl rfl rfl rfl rfl (by decide), sa_s rfl rfl rfl rfl rfl rfl (by decide), sa_s rfl rfl rfl rfl rfl rfl (by decide), trivial⟩ ?_
          refine OpsD.keep [0, 3, 4, 8, 9, 10, 11, 12, 13, 14, 15, 16, 17, 18, 19, 20, 21, 22, 23, 24, 25, 26, 27] [(0, .sh 2 (l.map RowD.d)), (3, dN k), (4, dP g3 0), (8, .sh 2 (l.map RowD.d)), (9, dN l.length), (10, dN k), (11, dB (decide (((k : Nat) : Int) < ((l.length : Nat) : Int)))), (12, dN k), (13, .el (RowD.d x1) 0), (14, RowD.d x1), (15, RowD.d x1), (16, dB true), (17, dB false), (18, dB false), (19, dN k), (20, dB false), (21, dB false), (22, .v undef), (23, .v undef), (24, .v undef), (25, .v undef), (26, .v undef), (27, .v undef)] rfl (zj rfl rfl rfl rfl rfl (by decide) (zj rfl rfl rfl rfl rfl (by decide) (zi rfl rfl rfl rfl rfl (zm rfl rfl) (za rfl rfl (zm rfl rfl) (zg rfl (zf (zay _ rfl rfl rfl (zy rfl (zC (zf (zc rfl (za rfl rfl (z8 (c := ((k + 1 : Nat) : Int)) rfl rfl (zU (by omega) (by omega))) (za rfl rfl (zb rfl) (zg rfl ?_))))))))))))))
          exact zT (k + 1) ⟨sk rfl, sk rfl, sk rfl, sk rfl, trivial⟩ HSub.none (vr_step0 hk hx1 hg4 (prevR_zero hg5)) (by omega)
      · skip
        refine JD.keep [0, 3, 4, 8, 9, 10, 11, 12, 13, 14] [(0, .sh 2 (l.map RowD.d)), (3, dN k), (4, dP g3 0), (8, .sh 2 (l.map RowD.d)), (9, dN l.length), (10, dN k), (11, dB (decide (((k : Nat) : Int) < ((l.length : Nat) : Int)))), (12, dN k), (13, .el (RowD.d x1) 0), (14, RowD.d x1)] rfl (JD.norm [.bx g3 30 (RowD.d x1)] rfl ?_)
        refine zaj 13 [(15, RowD.d x1, none), (16, dB false, none), (17, dB true, none), (18, dB true, none), (19, .v undef, none), (20, .v undef, none), (21, .v undef, none), (22, .v undef, none), (23, .v undef, none), (24, .v undef, none), (25, .v undef, none), (26, .v undef, none), (27, .v undef, none)] [.bx g3 30 (RowD.d x1)] (Hn := [.bx g3 30 (RowD.d x1)]) zaz rfl rfl rfl rfl HSub.rfl' rfl ⟨sa_p rfl rfl rfl (za2 (d := RowD.d x1) rfl (i := 0) rfl Try.isAgg30 Try.sizeOf30 rfl rfl), sa_q rfl rfl rfl ((zbS rfl (.cons Cv.rfl' .nil) Try.call31 (single_c x1) zbt).cv (Cv.eq (congrArg (fun b => D.v (.bool b)) hg4))), sa_p rfl rfl rfl (zae (q := false) rfl), sa_p rfl rfl rfl (zb rfl), sa_s rfl rfl rfl rfl rfl rfl (by decide), sa_s rfl rfl rfl rfl rfl rfl (by decide), sa_s rfl rfl rfl rfl rfl rfl (by decide), sa_s rfl rfl rfl rfl rfl rfl (by decide), sa_s rfl rfl rfl rfl rfl rfl (by decide), sa_s rfl rfl rfl rfl rfl rfl (by decide), sa_s rfl rfl rfl rfl rfl rfl (by decide), sa_s rfl rfl rfl rfl rfl rfl (by decide), sa_s rfl rfl rfl rfl rfl rfl (by decide), trivial⟩ ?_
        refine OpsD.keep [0, 3, 4, 8, 9, 10, 11, 12, 13, 14, 15, 16, 17, 18, 19, 20, 21, 22, 23, 24, 25, 26, 27] [(0, .sh 2 (l.map RowD.d)), (3, dN k), (4, dP g3 0), (8, .sh 2 (l.map RowD.d)), (9, dN l.length), (10, dN k), (11, dB (decide (((k : Nat) : Int) < ((l.length : Nat) : Int)))), (12, dN k), (13, .el (RowD.d x1) 0), (14, RowD.d x1), (15, RowD.d x1), (16, dB false), (17, dB true), (18, dB true), (19, .v undef), (20, .v undef), (21, .v undef), (22, .v undef), (23, .v undef), (24, .v undef), (25, .v undef), (26, .v undef), (27, .v undef)] rfl (zj rfl rfl rfl rfl rfl (by decide) (zj rfl rfl rfl rfl rfl (by decide) (zj rfl rfl rfl rfl rfl (by decide) (za rfl rfl (zn rfl rfl) (zg rfl (zf (zav _ rfl rfl rfl (zh _ _ rfl rfl rfl (zc rfl (za rfl rfl (ze rfl) (zg rfl (zf (zA rfl (zp (zq (zZ (zp (zq ?_))))))))))))))))))
        exact zw Try.results15 (.cons (zN (zr rfl) (Cv.eq (congrArg (fun b => D.v (.bool b)) (by exact vr_bad1 hk hx1 hg4)))) .nil) rfl HSub.none ⟨rfl, rfl⟩
    · replace hc2 := of_decide_eq_false hc2
      refine z2 rfl (zJ (zH (zB (zf (zh _ _ rfl rfl rfl (zc rfl (za rfl rfl (ze rfl) (zg rfl (zf (zA rfl ?_))))))))))
      exact zw Try.results15 (.cons (zN (zr rfl) (Cv.eq (congrArg (fun b => D.v (.bool b)) (by exact vr_good hk (by omega) (by omega))))) .nil) rfl HSub.none ⟨rfl, rfl⟩

set_option maxHeartbeats 4000000 in
set_option maxRecDepth 100000 in
theorem vTidy_c (l : List RowD)  :
    CD Try.prog 30 [] [.sh 2 (l.map RowD.d)] (fun r H' => ∃ v0_, r = .tup [.ov v0_, dI (rtE l)] ∧ H' = [.sl v0_ 2 30 ((rtL l).map RowD.d)]) := by
  refine zM Try.func30 rfl (N := 46) rfl rfl (fun C => ?_)
  refine JD.keep [0] [(0, .sh 2 (l.map RowD.d))] rfl ?_
  refine JD.bd 0 rfl (fun bd0 => ?_)
  have nl0 := zag bd0
  refine zh _ _ rfl rfl rfl (zc rfl (za rfl rfl (ze rfl) (za rfl rfl (ze rfl) (zg rfl (zf (zh _ _ rfl rfl rfl (zh _ _ rfl rfl rfl (zc rfl (za rfl rfl (zb rfl) (za rfl rfl (zaf (n := l.length) rfl Try.runUnderlying22 (by simp only [lm, lc, ln])) (za rfl rfl (zar rfl rfl rfl) (zg rfl (zf ?_)))))))))))))
  refine zt _ _ rfl rfl rfl rfl (fun hc1 => ?_) (fun hc1 => ?_)
  · replace hc1 := of_decide_eq_true hc1
    refine zh _ _ rfl rfl rfl (zc rfl (za rfl rfl (ze rfl) (za rfl rfl (ze rfl) (zg rfl (zf (zA rfl (zq (PD.subH (HSub.nil 2 30) (PD.norm [.sl (.slice none 0 0) 2 30 ((rtL l).map RowD.d)] (by have hw : [] = rtL l := (by first | exact (zcE hc1).1 | exact (zcE hc1).2); rw [show ([] : List D) = List.map RowD.d (rtL l) from congrArg (List.map RowD.d) hw]) ?_)))))))))
    exact zw Try.results30 (.cons (zN (zr rfl) (Cv.ov rfl)) (.cons (zN (zr rfl) (Cv.eq (congrArg (fun n => D.v (.int .i64 n)) (by first | exact (zcE hc1).1 | exact (zcE hc1).2)))) .nil)) rfl (HSub.fst 1 rfl) ⟨(.slice none 0 0), rfl, rfl⟩
  · replace hc1 := of_decide_eq_false hc1
    refine zy rfl (zf (zh _ _ rfl rfl rfl (zc rfl (za rfl rfl (ze rfl) (zg rfl (zf (zh _ _ rfl rfl rfl (zh _ _ rfl rfl rfl (zc rfl (za rfl rfl (zb rfl) (za rfl rfl (zaf (n := l.length) rfl Try.runUnderlying22 (by simp only [lm, lc, ln])) (za rfl rfl (zb rfl) (zg rfl (zf (zx _ rfl rfl (z7 (fun (g : Nat × Value × List RowD) => [(11, .sh 2 (l.map RowD.d)), (12, dN l.length), (13, dN g.1), (4, .ov g.2.1)]) (fun (g : Nat × Value × List RowD) => [.sl g.2.1 2 30 (g.2.2.map RowD.d)]) (fun (g : Nat × Value × List RowD) => (g.1 ≤ l.length) ∧ (g.2.2 = l.take g.1) ∧ (zbq (l.take g.1) = true)) (fun (g : Nat × Value × List RowD) => l.length - g.1) _ (0, .slice none 0 0, []) rfl rfl ⟨sk rfl, sk rfl, sk rfl, sc rfl (Cv.ov rfl), trivial⟩ (HSub.nil 2 30) ⟨Nat.zero_le _, rfl, rfl⟩ ?_))))))))))))))))
    rintro ⟨k, ov, o⟩ ⟨hkl, ho, hw⟩
    replace hkl : k ≤ l.length := hkl
    replace ho : o = l.take k := ho
    replace hw : zbq (l.take k) = true := hw
    refine JD.keep [11, 12, 13, 4] [(11, .sh 2 (l.map RowD.d)), (12, dN l.length), (13, dN k), (4, .ov ov)] rfl (JD.norm [.sl ov 2 30 (o.map RowD.d)] rfl ?_)
    have hol : o.length ≤ 2000 := by rw [ho, List.length_take]; omega
    refine zh _ _ rfl rfl rfl (zc rfl (za rfl rfl (z9 rfl rfl rfl) (zg rfl (zf (zh _ _ rfl rfl rfl ?_)))))
    refine zt _ _ rfl rfl rfl rfl (fun hc2 => ?_) (fun hc2 => ?_)
    · replace hc2 := of_decide_eq_true hc2
      refine zy rfl (zf (zh _ _ rfl rfl rfl (zx _ rfl rfl (zh _ _ rfl rfl rfl (zc rfl ?_)))))
      obtain ⟨x1, hx1⟩ := zW l k (by omega)
      refine za rfl rfl (zL (k := k) rfl rfl Try.runUnderlying22 Try.sizeOf30 (by first | rfl | omega) (zu hx1)) (za rfl rfl (zaK (d := RowD.d x1) rfl Try.isAgg30 Try.sizeOf30 rfl rfl) (zl rfl rfl (zaM (zv := (.agg #[(.slice none 0 0), (.int .i64 0)])) Try.zeroValue30 ⟨rfl, rfl, trivial⟩ (Cv.vagg (by decide))) ?_))
      rintro _ _ ⟨g3, rfl, rfl⟩
      refine zl rfl rfl (zab (i := 0) (X' := RowD.d x1) rfl rfl rfl (CellD.agg) Try.sizeOf30 rfl rfl rfl) ?_
      rintro _ _ ⟨rfl, rfl⟩
      refine OpsD.norm [.bx g3 30 (RowD.d x1), .sl ov 2 30 (o.map RowD.d)] rfl (zg rfl (zf (zh _ _ rfl rfl rfl (zh _ _ rfl rfl rfl (zc rfl (za rfl rfl (za2 (d := RowD.d x1) rfl (i := 0) rfl Try.isAgg30 Try.sizeOf30 rfl rfl) (zl rfl rfl (zs [] _ [] rfl rfl (.cons ArgC.id .nil) zo Try.call31 (single_c x1) (.inl rfl)) ?_)))))))
      rintro _ _ ⟨_, ⟨rfl, rfl⟩, rfl⟩
      refine OpsD.norm [.bx g3 30 (RowD.d x1), .sl ov 2 30 (o.map RowD.d)] rfl (za rfl rfl (zae rfl) (zg rfl (zf ?_)))
      refine zt _ _ rfl rfl rfl rfl (fun hc4 => ?_) (fun hc4 => ?_)
      · simp only [Bool.and_eq_true, Bool.or_eq_true, Bool.not_eq_true', Bool.not_eq_false', Bool.and_eq_false_iff, Bool.or_eq_false_iff, decide_eq_true_eq, decide_eq_false_iff_not, Decidable.not_not, ne_eq] at hc4
        refine zh _ _ rfl rfl rfl (zc rfl (za rfl rfl (ze rfl) (za rfl rfl (ze rfl) (zg rfl (zf (zA rfl (zq (zp (zq (zZ (zp (zq (PD.subH (HSub.nil 2 30) (PD.norm [.sl (.slice none 0 0) 2 30 ((rtL l).map RowD.d), .bx g3 30 (RowD.d x1), .sl ov 2 30 (o.map RowD.d)] (by have hw : [] = rtL l := (by first | exact (rt_bad' hx1 hc4).1 | exact (rt_bad' hx1 hc4).2); rw [show ([] : List D) = List.map RowD.d (rtL l) from congrArg (List.map RowD.d) hw]) ?_))))))))))))))
        exact zw Try.results30 (.cons (zN (zr rfl) (Cv.ov rfl)) (.cons (zN (zr rfl) (Cv.eq (congrArg (fun n => D.v (.int .i64 n)) (by first | exact (rt_bad' hx1 hc4).1 | exact (rt_bad' hx1 hc4).2)))) .nil)) rfl (HSub.fst 1 rfl) ⟨(.slice none 0 0), rfl, rfl⟩
      · simp only [Bool.and_eq_true, Bool.or_eq_true, Bool.not_eq_true', Bool.not_eq_false', Bool.and_eq_false_iff, Bool.or_eq_false_iff, decide_eq_true_eq, decide_eq_false_iff_not, Decidable.not_not, ne_eq] at hc4
        refine zy rfl (zf (zc rfl (za rfl rfl (zb rfl) (za rfl rfl (za2 (d := RowD.d x1) rfl (i := 0) rfl Try.isAgg30 Try.sizeOf30 rfl rfl) (zl rfl rfl (zs [] _ [] rfl rfl (.cons ArgC.id .nil) zo Try.call45 (vown_c x1 (by have h := okRow_len hc4; omega)) (.inl rfl)) ?_)))))
        rintro _ _ ⟨_, ⟨rfl, rfl⟩, rfl⟩
        refine OpsD.norm [.bx g3 30 (RowD.d x1), .sl ov 2 30 (o.map RowD.d)] rfl (zl rfl rfl (z6 [.tmp 22] rfl rfl (.cons CellD.agg .nil) rfl Try.runUnderlying22 Try.sizeOf30 Try.zeroValue30 rfl rfl rfl rfl) ?_)
        rintro _ _ ⟨g5, rfl, rfl⟩
        refine zl rfl rfl (z4 (f := RowD.d) (l := o) (l' := [x1]) (i := 2) rfl rfl rfl (SrcD.own (j := 0) rfl rfl) zbg za4 rfl rfl (by unfold maxLen; (try simp only [la, lc, ln, lm, lt', ld, ls, lr]); omega) (by (try simp only [la, lc, ln, lm, lt', ld, ls, lr]); omega)) ?_
        rintro _ _ ⟨v6, rfl, rfl⟩
        refine OpsD.norm [.sl (vS g5 1 1) 2 30 ([RowD.d x1]), .bx g3 30 (RowD.d x1), .sl v6 2 30 ((o ++ [x1]).map RowD.d)] rfl (za rfl rfl (ze rfl) (zg rfl (zC (zf (zc rfl (za rfl rfl (z8 (c := ((k + 1 : Nat) : Int)) rfl rfl (zU (by omega) (by omega))) (za rfl rfl (zb rfl) (zg rfl (PD.subH (HSub.perm (zP (i := 2) rfl)) (PD.norm [.sl v6 2 30 ((o ++ [x1]).map RowD.d), .sl (vS g5 1 1) 2 30 ([RowD.d x1]), .bx g3 30 (RowD.d x1)] rfl (PD.subH (HSub.fst 1 rfl) (PD.norm [.sl v6 2 30 ((o ++ [x1]).map RowD.d)] rfl ?_))))))))))))
        exact zT (k + 1, v6, (o ++ [x1])) ⟨sk rfl, sk rfl, sk rfl, sk rfl, trivial⟩ HSub.rfl' ⟨by show k + 1 ≤ l.length; omega, by rw [ho, zak hx1], rowsB_snoc' hx1 hw hc4⟩ (by omega)
    · replace hc2 := of_decide_eq_false hc2
      have hrow := td_rows hw (by omega)
      obtain rfl : l = o := by rw [ho, List.take_of_length_le (by omega)]
      have hil := zcm (c := zI 0) _ l rfl
      refine z2 rfl (zJ (zH (zB (zf (zh _ _ rfl rfl rfl (zc rfl (za rfl rfl (zb rfl) (zl rfl rfl (zs [.sl ov 2 30 (l.map RowD.d)] [] [] rfl rfl (.cons ArgC.id (.cons ArgC.id .nil)) zo Try.call46 (sortstR_c ov l 0 (by omega)) (.inl rfl)) ?_))))))))
      rintro _ _ ⟨_, ⟨rfl, rfl⟩, rfl⟩
      refine OpsD.norm [.sl ov 2 30 ((zO (zI 0) l).map RowD.d)] rfl (zg rfl (zf (zh _ _ rfl rfl rfl (zh _ _ rfl rfl rfl (zc rfl (za rfl rfl (ze rfl) (zg rfl (zf (zx _ rfl rfl (z7 (fun (g : Nat) => [(4, .ov ov), (7, dN g)]) (fun (g : Nat) => [.sl ov 2 30 ((zO (zI 0) l).map RowD.d)]) (fun (g : Nat) => (1 ≤ g) ∧ (zc2 (zO (zI 0) l) g)) (fun (g : Nat) => l.length - g) _ 1 rfl rfl ⟨sk rfl, sk rfl, trivial⟩ HSub.rfl' ⟨Nat.le_refl _, zc2.one _⟩ ?_))))))))))
      rintro i ⟨hi, hn⟩
      refine JD.keep [4, 7] [(4, .ov ov), (7, dN i)] rfl (JD.norm [.sl ov 2 30 ((zO (zI 0) l).map RowD.d)] rfl (zh _ _ rfl rfl rfl (zh _ _ rfl rfl rfl (zc rfl (za rfl rfl (zb rfl) (za rfl rfl (zb rfl) (za rfl rfl (z5 (n := (zO (zI 0) l).length) (j := 0) rfl rfl Try.runUnderlying22 (List.length_map _)) (za rfl rfl (z9 rfl rfl rfl) (zg rfl (zf ?_))))))))))
      refine zt _ _ rfl rfl rfl rfl (fun hc7 => ?_) (fun hc7 => ?_)
      · replace hc7 := of_decide_eq_true hc7
        refine zy rfl (zf (zh _ _ rfl rfl rfl (zx _ rfl rfl (zh _ _ rfl rfl rfl (JD.keep [4, 7, 28, 29, 30, 31] [(4, .ov ov), (7, dN i), (28, dN i), (29, .ov ov), (30, dN ((zO (zI 0) l).length)), (31, dB (decide (((i : Nat) : Int) < (((zO (zI 0) l).length : Nat) : Int))))] rfl (JD.norm [.sl ov 2 30 ((zO (zI 0) l).map RowD.d)] rfl ?_))))))
        obtain ⟨x2, hx2⟩ := zW (zO (zI 0) l) (i - 1) (by omega)
        obtain ⟨x3, hx3⟩ := zW (zO (zI 0) l) i (by omega)
        refine zaj 9 [(34, .ov ov, none), (35, dN i, none), (36, dN (i - 1), none), (37, .v (.pointer (some ⟨bl ov, (i - 1) * 2 + 0, none⟩)), none), (38, RowD.d x2, none), (39, .ov ov, none), (40, dN i, none), (41, .v (.pointer (some ⟨bl ov, i * 2 + 0, none⟩)), none), (42, RowD.d x3, none)] [.sl ov 2 30 ((zO (zI 0) l).map RowD.d)] (Hn := [.sl ov 2 30 ((zO (zI 0) l).map RowD.d)]) zaz rfl rfl rfl rfl HSub.rfl' rfl ⟨sa_p rfl rfl rfl (zb rfl), sa_p rfl rfl rfl (zb rfl), sa_p rfl rfl rfl (zaS (c := ((i - 1 : Nat) : Int)) rfl rfl (zU (by omega) (by omega))), sa_p rfl rfl rfl (zD (k := i - 1) (j := 0) rfl rfl rfl Try.runUnderlying22 Try.sizeOf30 (by first | rfl | omega) (zu hx2)), sa_p rfl rfl rfl (zam (d := RowD.d x2) rfl (i := 0) rfl (zu hx2) Try.isAgg30 Try.sizeOf30 rfl rfl), sa_p rfl rfl rfl (zb rfl), sa_p rfl rfl rfl (zb rfl), sa_p rfl rfl rfl (zD (k := i) (j := 0) rfl rfl rfl Try.runUnderlying22 Try.sizeOf30 (by first | rfl | omega) (zu hx3)), sa_p rfl rfl rfl (zam (d := RowD.d x3) rfl (i := 0) rfl (zu hx3) Try.isAgg30 Try.sizeOf30 rfl rfl), trivial⟩ ?_
        refine OpsD.keep [4, 7, 28, 29, 30, 31, 34, 35, 36, 37, 38, 39, 40, 41, 42] [(4, .ov ov), (7, dN i), (28, dN i), (29, .ov ov), (30, dN ((zO (zI 0) l).length)), (31, dB (decide (((i : Nat) : Int) < (((zO (zI 0) l).length : Nat) : Int)))), (34, .ov ov), (35, dN i), (36, dN (i - 1)), (37, .v (.pointer (some ⟨bl ov, (i - 1) * 2 + 0, none⟩))), (38, RowD.d x2), (39, .ov ov), (40, dN i), (41, .v (.pointer (some ⟨bl ov, i * 2 + 0, none⟩))), (42, RowD.d x3)] rfl (zl rfl rfl (zs [] _ [] rfl rfl (.cons ArgC.id (.cons ArgC.id .nil)) zo Try.call32 (vorder_c x2 x3) (.inl rfl)) ?_)
        rintro _ _ ⟨_, ⟨rfl, rfl⟩, rfl⟩
        refine OpsD.norm [.sl ov 2 30 ((zO (zI 0) l).map RowD.d)] rfl (za rfl rfl (z3 rfl rfl rfl) (zg rfl (zf ?_)))
        refine zt _ _ rfl rfl rfl rfl (fun hc8 => ?_) (fun hc8 => ?_)
        · replace hc8 := of_decide_eq_true hc8
          refine zh _ _ rfl rfl rfl (zc rfl (za rfl rfl (ze rfl) (za rfl rfl (ze rfl) (zg rfl (zf (zA rfl (zp (zq (zZ (zp (zq (PD.subH (HSub.nil 2 30) (PD.norm [.sl (.slice none 0 0) 2 30 ((rtL l).map RowD.d), .sl ov 2 30 ((zO (zI 0) l).map RowD.d)] (by have hw : [] = rtL l := (by first | exact (td_twin (by omega) hrow hi hx2 hx3 hc8).1 | exact (td_twin (by omega) hrow hi hx2 hx3 hc8).2); rw [show ([] : List D) = List.map RowD.d (rtL l) from congrArg (List.map RowD.d) hw]) ?_)))))))))))))
          exact zw Try.results30 (.cons (zN (zr rfl) (Cv.ov rfl)) (.cons (zN (zr rfl) (Cv.eq (congrArg (fun n => D.v (.int .i64 n)) (by first | exact (td_twin (by omega) hrow hi hx2 hx3 hc8).1 | exact (td_twin (by omega) hrow hi hx2 hx3 hc8).2)))) .nil)) rfl (HSub.fst 1 rfl) ⟨(.slice none 0 0), rfl, rfl⟩
        · replace hc8 := of_decide_eq_false hc8
          refine zy rfl (zC (zf (zc rfl (za rfl rfl (zb rfl) (za rfl rfl (z8 (c := ((i + 1 : Nat) : Int)) rfl rfl (zU (by omega) (by omega))) (za rfl rfl (ze rfl) (zg rfl ?_)))))))
          exact zT (i + 1) ⟨sk rfl, sk rfl, trivial⟩ HSub.rfl' ⟨by show 1 ≤ i + 1; omega, hn.next hi hx2 hx3 hc8⟩ (by omega)
      · replace hc7 := of_decide_eq_false hc7
        refine z2 rfl (zJ (zH (zB (zf (zh _ _ rfl rfl rfl (zc rfl (za rfl rfl (zb rfl) (za rfl rfl (ze rfl) (za rfl rfl (ze rfl) (zg rfl (zf (zA rfl (PD.norm [.sl ov 2 30 ((rtL l).map RowD.d)] (by have hw : (zO (zI 0) l) = rtL l := (by first | exact (td_good (by omega) hrow hn (by omega)).1 | exact (td_good (by omega) hrow hn (by omega)).2); rw [hw]) ?_)))))))))))))
        exact zw Try.results30 (.cons (zr rfl) (.cons (zN (zr rfl) (Cv.eq (congrArg (fun n => D.v (.int .i64 n)) (by first | exact (td_good (by omega) hrow hn (by omega)).1 | exact (td_good (by omega) hrow hn (by omega)).2)))) .nil)) rfl (HSub.fst 1 rfl) ⟨ov, rfl, rfl⟩
end Lp
