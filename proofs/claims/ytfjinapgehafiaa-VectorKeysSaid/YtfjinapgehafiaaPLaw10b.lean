/- Walks, printed by a program of mine. -/
import Derived.Test.YtfjinapgehafiaaV21
set_option linter.unusedSimpArgs false
set_option linter.unusedVariables false
namespace Lp
open Go Go.RowKit Go.Proofs

namespace HdYtfjinapgehafiaaV22
theorem zdq : ∀ w, ((#[⟨"Labels", 27, 0, false, "", "", 0⟩, ⟨"V", 3, 1, false, "", "", 24⟩] : Array Field).mapM fun f => do pure (f.offset, ← Go.sizeOf f.type) : Sem (Array (Nat × Nat))).run Try.prog w = .ok ([(0, 1), (1, 1)] : List (Nat × Nat)).toArray w := fun _ => by kernel_rfl
theorem zaf (b o : Nat) : ∀ w, (Instr.fieldAt 30 (.pointer (some ⟨b, o, none⟩)) 0).run Try.prog w = .ok (.pointer (some ⟨b, o + 0, none⟩)) w := fun _ => by kernel_rfl
theorem zaQ (b o : Nat) : ∀ w, (Instr.fieldAt 30 (.pointer (some ⟨b, o, none⟩)) 1).run Try.prog w = .ok (.pointer (some ⟨b, o + 1, none⟩)) w := fun _ => by kernel_rfl
theorem zaZ : ∃ i, Try.prog.info? 30 = some i ∧ i.zero = some (.agg #[(.slice none 0 0), (.int .i64 0)]) ∧ i.size = 2 ∧ i.bytes = 32 := zbA (by kernel_rfl)
theorem zbg : Try.prog.underlying 22 = some (.slice 30) := by kernel_rfl
end HdYtfjinapgehafiaaV22
open HdYtfjinapgehafiaaV22

set_option maxHeartbeats 4000000 in
set_option maxRecDepth 100000 in
theorem refTidyR_c (l : List RowD) (hl : l.length ≤ 1000000) (hli : ∀ r ∈ l, zaO r.ls = true) :
    CD Try.prog 22 [] [.sh 2 (l.map RowD.d)] (fun r H' => ∃ v0_, r = .tup [.ov v0_, dI (rtE l)] ∧ H' = [.sl v0_ 2 30 ((rtL l).map RowD.d)]) := by
  refine zJ Try.func22 rfl (N := 34) rfl rfl (fun C => ?_)
  refine JD.keep [0] [(0, .sh 2 (l.map RowD.d))] rfl ?_
  refine JD.bd 0 rfl (fun bd0 => ?_)
  have nl0 := zah bd0
  refine zh _ _ rfl rfl rfl (zc rfl (za rfl rfl (ze rfl) (za rfl rfl (ze rfl) (zg rfl (zf (zh _ _ rfl rfl rfl (zh _ _ rfl rfl rfl (zc rfl (za rfl rfl (zb rfl) (za rfl rfl (zar (n := l.length) rfl Try.runUnderlying22 (by simp only [lm, lc, ln])) (za rfl rfl (zaF rfl rfl rfl) (zg rfl (zf ?_)))))))))))))
  refine zr _ _ rfl rfl rfl rfl (fun hc1 => ?_) (fun hc1 => ?_)
  · replace hc1 := of_decide_eq_true hc1
    refine zh _ _ rfl rfl rfl (zc rfl (za rfl rfl (ze rfl) (za rfl rfl (ze rfl) (zg rfl (zf (zC rfl (zn (PD.subH (HSub.nil 2 30) (PD.norm [.sl (.slice none 0 0) 2 30 ((rtL l).map RowD.d)] (by have hw : [] = rtL l := (by first | exact (zcB hc1).1 | exact (zcB hc1).2); rw [show ([] : List D) = List.map RowD.d (rtL l) from congrArg (List.map RowD.d) hw]) ?_)))))))))
    exact zu Try.results22 (.cons (zK (zq rfl) (Cv.ov rfl)) (.cons (zK (zq rfl) (Cv.eq (congrArg (fun n => D.v (.int .i64 n)) (by first | exact (zcB hc1).1 | exact (zcB hc1).2)))) .nil)) rfl (HSub.fst 1 rfl) ⟨(.slice none 0 0), rfl, rfl⟩
  · replace hc1 := of_decide_eq_false hc1
    refine zy rfl (zf (zh _ _ rfl rfl rfl (zh _ _ rfl rfl rfl (zc rfl (za rfl rfl (ze rfl) (zg rfl (zf (zw _ rfl rfl (z5 (fun (g : Nat) => [(0, .sh 2 (l.map RowD.d)), (4, dN g)]) (fun (g : Nat) => []) (fun (g : Nat) => (g ≤ l.length) ∧ (zbt (l.take g) = true)) (fun (g : Nat) => l.length - g) _ 0 rfl rfl ⟨sk rfl, sk rfl, trivial⟩ HSub.rfl' ⟨Nat.zero_le _, rfl⟩ ?_)))))))))
    rintro i ⟨hil, hw⟩
    refine JD.keep [0, 4] [(0, .sh 2 (l.map RowD.d)), (4, dN i)] rfl (JD.norm [] rfl (zh _ _ rfl rfl rfl (zh _ _ rfl rfl rfl (zc rfl (za rfl rfl (zb rfl) (za rfl rfl (zb rfl) (za rfl rfl (zar (n := l.length) rfl Try.runUnderlying22 (by simp only [lm, lc, ln])) (za rfl rfl (z6 rfl rfl rfl) (zg rfl (zf ?_))))))))))
    refine zr _ _ rfl rfl rfl rfl (fun hc2 => ?_) (fun hc2 => ?_)
    · replace hc2 := of_decide_eq_true hc2
      obtain ⟨x1, hx1⟩ := zU l i (by omega)
      refine zy rfl (zf (zh _ _ rfl rfl rfl (zw _ rfl rfl (zh _ _ rfl rfl rfl ?_))))
      rcases Bool.eq_false_or_eq_true (zbe x1.ls) with hg3 | hg3
      · skip
        refine zc rfl (za rfl rfl (zb rfl) (za rfl rfl (zb rfl) (za rfl rfl (zG (k := i) rfl rfl Try.runUnderlying22 Try.sizeOf30 (by first | rfl | omega) (zs hx1)) (za rfl rfl (zN rfl zaf rfl) (za rfl rfl (zV rfl Try.isAgg27 rfl) (zk rfl rfl (zt [] _ [] rfl rfl (.cons ArgC.id .nil) zo Try.call35 (refRight_c x1.ls (light_nz (hli x1 (za2 hx1)))) (.inl rfl)) ?_))))))
        rintro _ _ ⟨_, ⟨rfl, rfl⟩, rfl⟩
        refine OpsD.norm [] rfl (OpsD.sub ((19, dB true) :: [(0, .sh 2 (l.map RowD.d)), (4, dN i), (8, dN i), (9, .sh 2 (l.map RowD.d)), (10, dN l.length), (11, dB (decide (((i : Nat) : Int) < ((l.length : Nat) : Int)))), (14, .sh 2 (l.map RowD.d)), (15, dN i), (16, .el (RowD.d x1) 0), (17, .el (RowD.d x1) 0), (18, .sh 2 (x1.ls.map Lbl.d))]) ⟨se rfl (congrArg (fun b => D.v (.bool b)) hg3), sk rfl, sk rfl, sk rfl, sk rfl, sk rfl, sk rfl, sk rfl, sk rfl, sk rfl, sk rfl, sk rfl, trivial⟩ (za rfl rfl (zan (q := true) rfl) (za rfl rfl (zb rfl) (zi rfl rfl rfl rfl rfl (zb rfl) (zi rfl rfl rfl rfl rfl (zb rfl) (zi rfl rfl rfl rfl rfl (zG (k := i) rfl rfl Try.runUnderlying22 Try.sizeOf30 (by first | rfl | omega) (zs hx1)) (zi rfl rfl rfl rfl rfl (zN rfl zaQ rfl) (zi rfl rfl rfl rfl rfl (zV rfl Try.isAgg3 rfl) (za5 rfl rfl rfl rfl rfl (zt [] _ [] rfl rfl (.cons ArgC.id .nil) zo Try.call21 (refValue_c x1.v) (.inl rfl)) ?_)))))))))
        rintro _ _ ⟨_, ⟨rfl, rfl⟩, rfl⟩
        refine OpsD.norm [] rfl (zi rfl rfl rfl rfl rfl (zan rfl) (za rfl rfl (zm rfl rfl) (zg rfl (zf ?_))))
        refine zr _ _ rfl rfl rfl rfl (fun hc4 => ?_) (fun hc4 => ?_)
        · simp only [Bool.and_eq_true, Bool.or_eq_true, Bool.not_eq_true', Bool.not_eq_false', Bool.and_eq_false_iff, Bool.or_eq_false_iff, decide_eq_true_eq, decide_eq_false_iff_not, Decidable.not_not, ne_eq] at hc4
          refine zh _ _ rfl rfl rfl (zc rfl (za rfl rfl (ze rfl) (za rfl rfl (ze rfl) (zg rfl (zf (zC rfl (zl (zn (zX (zl (zn (PD.subH (HSub.nil 2 30) (PD.norm [.sl (.slice none 0 0) 2 30 ((rtL l).map RowD.d)] (by have hw : [] = rtL l := (by first | exact (zcW hx1 (by simp [*])).1 | exact (zcW hx1 (by simp [*])).2); rw [show ([] : List D) = List.map RowD.d (rtL l) from congrArg (List.map RowD.d) hw]) ?_)))))))))))))
          exact zu Try.results22 (.cons (zK (zq rfl) (Cv.ov rfl)) (.cons (zK (zq rfl) (Cv.eq (congrArg (fun n => D.v (.int .i64 n)) (by first | exact (zcW hx1 (by simp [*])).1 | exact (zcW hx1 (by simp [*])).2)))) .nil)) rfl (HSub.fst 1 rfl) ⟨(.slice none 0 0), rfl, rfl⟩
        · simp only [Bool.and_eq_true, Bool.or_eq_true, Bool.not_eq_true', Bool.not_eq_false', Bool.and_eq_false_iff, Bool.or_eq_false_iff, decide_eq_true_eq, decide_eq_false_iff_not, Decidable.not_not, ne_eq] at hc4
          refine zy rfl (zz (zf (zc rfl (za rfl rfl (zb rfl) (za rfl rfl (z3 (c := ((i + 1 : Nat) : Int)) rfl rfl (zP (by omega) (by omega))) (za rfl rfl (ze rfl) (zg rfl ?_)))))))
          exact zS (i + 1) ⟨sk rfl, sk rfl, trivial⟩ HSub.rfl' ⟨by show i + 1 ≤ l.length; omega, rowsB_snoc hx1 hw hg3 hc4⟩ (by omega)
      · skip
        refine zc rfl (za rfl rfl (zb rfl) (za rfl rfl (zb rfl) (za rfl rfl (zG (k := i) rfl rfl Try.runUnderlying22 Try.sizeOf30 (by first | rfl | omega) (zs hx1)) (za rfl rfl (zN rfl zaf rfl) (za rfl rfl (zV rfl Try.isAgg27 rfl) (zk rfl rfl (zt [] _ [] rfl rfl (.cons ArgC.id .nil) zo Try.call35 (refRight_c x1.ls (light_nz (hli x1 (za2 hx1)))) (.inl rfl)) ?_))))))
        rintro _ _ ⟨_, ⟨rfl, rfl⟩, rfl⟩
        refine OpsD.norm [] rfl (OpsD.sub ((19, dB false) :: [(0, .sh 2 (l.map RowD.d)), (4, dN i), (8, dN i), (9, .sh 2 (l.map RowD.d)), (10, dN l.length), (11, dB (decide (((i : Nat) : Int) < ((l.length : Nat) : Int)))), (14, .sh 2 (l.map RowD.d)), (15, dN i), (16, .el (RowD.d x1) 0), (17, .el (RowD.d x1) 0), (18, .sh 2 (x1.ls.map Lbl.d))]) ⟨se rfl (congrArg (fun b => D.v (.bool b)) hg3), sk rfl, sk rfl, sk rfl, sk rfl, sk rfl, sk rfl, sk rfl, sk rfl, sk rfl, sk rfl, sk rfl, trivial⟩ (za rfl rfl (zan (q := false) rfl) (za rfl rfl (zb rfl) (zj rfl rfl rfl rfl rfl (by decide) (zj rfl rfl rfl rfl rfl (by decide) (zj rfl rfl rfl rfl rfl (by decide) (zj rfl rfl rfl rfl rfl (by decide) (zj rfl rfl rfl rfl rfl (by decide) (zj rfl rfl rfl rfl rfl (by decide) (zj rfl rfl rfl rfl rfl (by decide) (za rfl rfl (zp rfl rfl) (zg rfl (zf (zav _ rfl rfl rfl (zh _ _ rfl rfl rfl (zc rfl (za rfl rfl (ze rfl) (za rfl rfl (ze rfl) (zg rfl (zf (zC rfl (zl (zn (zX (zl ?_)))))))))))))))))))))))))
        refine zn (PD.subH (HSub.nil 2 30) (PD.norm [.sl (.slice none 0 0) 2 30 ((rtL l).map RowD.d)] (by have hw : [] = rtL l := (by first | exact (zcW hx1 (by simp [*])).1 | exact (zcW hx1 (by simp [*])).2); rw [show ([] : List D) = List.map RowD.d (rtL l) from congrArg (List.map RowD.d) hw]) ?_))
        exact zu Try.results22 (.cons (zK (zq rfl) (Cv.ov rfl)) (.cons (zK (zq rfl) (Cv.eq (congrArg (fun n => D.v (.int .i64 n)) (by first | exact (zcW hx1 (by simp [*])).1 | exact (zcW hx1 (by simp [*])).2)))) .nil)) rfl (HSub.fst 1 rfl) ⟨(.slice none 0 0), rfl, rfl⟩
    · replace hc2 := of_decide_eq_false hc2
      refine z0 rfl (zI (zH (zB (zf (zh _ _ rfl rfl rfl (zc rfl (za rfl rfl (zb rfl) (zk rfl rfl (zt [] _ [] rfl rfl (.cons ArgC.id .nil) zo Try.call36 (refOrder_c l (by omega)) (.inl rfl)) ?_))))))))
      rintro _ _ ⟨_, ⟨v5, rfl, rfl⟩, rfl⟩
      refine OpsD.norm [.sl v5 2 30 ((ordL l).map RowD.d)] rfl (za rfl rfl (zE rfl rfl) (za rfl rfl (zE rfl rfl) (za rfl rfl (ze rfl) (za rfl rfl (ze rfl) (zg rfl (zf (JD.keep [2, 3] [(2, .ov v5), (3, dI (ordE l))] rfl (zC rfl (PD.norm [.sl v5 2 30 ((rtL l).map RowD.d)] (by have hw : ordL l = rtL l := (by first | exact (zdL (by omega) (by rw [← List.take_of_length_le (by omega : l.length ≤ i)]; exact hw)).1 | exact (zdL (by omega) (by rw [← List.take_of_length_le (by omega : l.length ≤ i)]; exact hw)).2); rw [hw]) ?_)))))))))
      exact zu Try.results22 (.cons (zq rfl) (.cons (zK (zq rfl) (Cv.eq (congrArg (fun n => D.v (.int .i64 n)) (by first | exact (zdL (by omega) (by rw [← List.take_of_length_le (by omega : l.length ≤ i)]; exact hw)).1 | exact (zdL (by omega) (by rw [← List.take_of_length_le (by omega : l.length ≤ i)]; exact hw)).2)))) .nil)) rfl (HSub.fst 1 rfl) ⟨v5, rfl, rfl⟩

set_option maxHeartbeats 4000000 in
set_option maxRecDepth 100000 in
theorem tidy10_c (l : List RowD) (hl : l.length ≤ 2000) (hli : ∀ r ∈ l, zaO r.ls = true) :
    CD Try.prog 9 [] [.sh 2 (l.map RowD.d)] (isR ((D.ls 2 RowD.d) (zQ l))) := by
  refine zJ Try.func9 rfl (N := 54) rfl rfl (fun C => ?_)
  refine JD.keep [0] [(0, .sh 2 (l.map RowD.d))] rfl ?_
  refine JD.bd 0 rfl (fun bd0 => ?_)
  have nl0 := zah bd0
  refine zh _ _ rfl rfl rfl (zc rfl (za rfl rfl (ze rfl) (zg rfl (zf (zh _ _ rfl rfl rfl (zc rfl (za rfl rfl (ze rfl) (zg rfl (zf (zh _ _ rfl rfl rfl (zh _ _ rfl rfl rfl (zc rfl (za rfl rfl (ze rfl) (zg rfl (zf (zw _ rfl rfl (z5 (fun (g : Nat × List RowD) => [(0, .sh 2 (l.map RowD.d)), (2, dZ), (4, dN g.1), (3, .sh 2 (g.2.map RowD.d))]) (fun (g : Nat × List RowD) => []) (fun (g : Nat × List RowD) => (g.1 ≤ l.length) ∧ (g.2 = zQ (l.take g.1))) (fun (g : Nat × List RowD) => l.length - g.1) _ (0, []) rfl rfl ⟨sk rfl, sk rfl, sk rfl, sc rfl Cv.nil, trivial⟩ HSub.none ⟨Nat.zero_le _, rfl⟩ ?_)))))))))))))))))
  rintro ⟨i, out⟩ ⟨hil, hso⟩
  replace hil : i ≤ l.length := hil
  replace hso : out = zQ (l.take i) := hso
  refine JD.keep [0, 2, 4, 3] [(0, .sh 2 (l.map RowD.d)), (2, dZ), (4, dN i), (3, .sh 2 (out.map RowD.d))] rfl (JD.norm [] rfl ?_)
  have htr := trs_take hli i
  rw [← hso] at htr
  have hol : out.length ≤ 2000 := by have := htr.len; rw [List.length_take] at this; omega
  refine zh _ _ rfl rfl rfl (zh _ _ rfl rfl rfl (zc rfl (za rfl rfl (zb rfl) (za rfl rfl (zb rfl) (za rfl rfl (zar (n := l.length) rfl Try.runUnderlying22 (by simp only [lm, lc, ln])) (za rfl rfl (z6 rfl rfl rfl) (zg rfl (zf ?_))))))))
  refine zr _ _ rfl rfl rfl rfl (fun hc1 => ?_) (fun hc1 => ?_)
  · replace hc1 := of_decide_eq_true hc1
    obtain ⟨x1, hx1⟩ := zU l i (by omega)
    refine zy rfl (zf (zh _ _ rfl rfl rfl (zw _ rfl rfl (zh _ _ rfl rfl rfl (zc rfl (za rfl rfl (zb rfl) (za rfl rfl (zb rfl) (za rfl rfl (zG (k := i) rfl rfl Try.runUnderlying22 Try.sizeOf30 (by first | rfl | omega) (zs hx1)) (za rfl rfl (zN rfl zaf rfl) (za rfl rfl (zV rfl Try.isAgg27 rfl) (zk rfl rfl (zt [] _ [] rfl rfl (.cons ArgC.id .nil) zo Try.call20 (refTidy_c x1.ls (light_nz (hli x1 (za2 hx1)))) (.inl rfl)) ?_)))))))))))
    rintro _ _ ⟨_, ⟨v2, rfl, rfl⟩, rfl⟩
    refine OpsD.norm [.sl v2 2 33 ((zR x1.ls).map Lbl.d)] rfl (za rfl rfl (zb rfl) (za rfl rfl (zE rfl rfl) (za rfl rfl (zE rfl rfl) (za rfl rfl (ze rfl) (za rfl rfl (ze rfl) (zg rfl (zf (zh _ _ rfl rfl rfl (zh _ _ rfl rfl rfl ?_)))))))))
    rcases Bool.eq_false_or_eq_true (z9 x1.ls) with hg3 | hg3
    · skip
      refine JD.sub [(0, .sh 2 (l.map RowD.d)), (2, dZ), (3, .sh 2 (out.map RowD.d)), (4, dN i), (5, .ov v2), (6, dB true), (9, dN i), (10, .sh 2 (l.map RowD.d)), (11, dN l.length), (12, dB (decide (((i : Nat) : Int) < ((l.length : Nat) : Int)))), (15, .tup [.ov v2, dB (z9 x1.ls)]), (16, .sh 2 (l.map RowD.d)), (17, dN i), (18, .el (RowD.d x1) 0), (19, .el (RowD.d x1) 0), (20, .sh 2 (x1.ls.map Lbl.d)), (21, .tup [.ov v2, dB (z9 x1.ls)]), (22, .ov v2), (23, dB true)] ⟨sk rfl, sk rfl, sk rfl, sk rfl, sk rfl, se rfl (congrArg (fun b => D.v (.bool b)) (by simp [hg3])), sk rfl, sk rfl, sk rfl, sk rfl, sk rfl, sk rfl, sk rfl, sk rfl, sk rfl, sk rfl, sk rfl, sk rfl, se rfl (congrArg (fun b => D.v (.bool b)) (by simp [hg3])), trivial⟩ (zc rfl (za rfl rfl (zb rfl) (za rfl rfl (zan (q := true) rfl) (za rfl rfl (zb rfl) (zi rfl rfl rfl rfl rfl (zb rfl) (zi rfl rfl rfl rfl rfl (zb rfl) (zi rfl rfl rfl rfl rfl (zG (k := i) rfl rfl Try.runUnderlying22 Try.sizeOf30 (by first | rfl | omega) (zs hx1)) (zi rfl rfl rfl rfl rfl (zN rfl zaQ rfl) (zi rfl rfl rfl rfl rfl (zV rfl Try.isAgg3 rfl) ?_)))))))))
      refine za5 rfl rfl rfl rfl rfl (zt [] _ [] rfl rfl (.cons ArgC.id .nil) zo Try.call21 (refValue_c x1.v) (.inl rfl)) ?_
      rintro _ _ ⟨_, ⟨rfl, rfl⟩, rfl⟩
      refine OpsD.norm [.sl v2 2 33 ((zR x1.ls).map Lbl.d)] rfl (zi rfl rfl rfl rfl rfl (zan rfl) (za rfl rfl (zm rfl rfl) (zg rfl (zf ?_))))
      refine zr _ _ rfl rfl rfl rfl (fun hc4 => ?_) (fun hc4 => ?_)
      · simp only [Bool.and_eq_true, Bool.or_eq_true, Bool.not_eq_true', Bool.not_eq_false', Bool.and_eq_false_iff, Bool.or_eq_false_iff, decide_eq_true_eq, decide_eq_false_iff_not, Decidable.not_not, ne_eq] at hc4
        refine z0 rfl (zI (zB (zf (zc rfl (za rfl rfl (zb rfl) (za rfl rfl (z3 (c := ((i + 1 : Nat) : Int)) rfl rfl (zP (by omega) (by omega))) (za rfl rfl (ze rfl) (zg rfl ?_))))))))
        exact zS (i + 1, out) ⟨sk rfl, sk rfl, sk rfl, sk rfl, trivial⟩ HSub.none ⟨by show i + 1 ≤ l.length; omega, by show _ = zQ (l.take (i + 1)); rw [tidyRs_snoc hx1, ← hso]; exact (trStep_no (.inr hc4)).symm⟩ (by omega)
      · simp only [Bool.and_eq_true, Bool.or_eq_true, Bool.not_eq_true', Bool.not_eq_false', Bool.and_eq_false_iff, Bool.or_eq_false_iff, decide_eq_true_eq, decide_eq_false_iff_not, Decidable.not_not, ne_eq] at hc4
        refine zy rfl (zf (zh _ _ rfl rfl rfl ?_))
        refine JD.mv (Mv.freeze (K' := [(0, .sh 2 (l.map RowD.d)), (2, dZ), (3, .sh 2 (out.map RowD.d)), (4, dN i), (5, .sh 2 ((zR x1.ls).map Lbl.d)), (6, dB true), (9, dN i), (10, .sh 2 (l.map RowD.d)), (11, dN l.length), (12, dB (decide (((i : Nat) : Int) < ((l.length : Nat) : Int)))), (15, .tup [.sh 2 ((zR x1.ls).map Lbl.d), dB (z9 x1.ls)]), (16, .sh 2 (l.map RowD.d)), (17, dN i), (18, .el (RowD.d x1) 0), (19, .el (RowD.d x1) 0), (20, .sh 2 (x1.ls.map Lbl.d)), (21, .tup [.sh 2 ((zR x1.ls).map Lbl.d), dB (z9 x1.ls)]), (22, .sh 2 ((zR x1.ls).map Lbl.d)), (23, dB true), (24, dB true), (25, dB false), (26, dB false), (27, .sh 2 (l.map RowD.d)), (28, dN i), (29, .el (RowD.d x1) 0), (30, .el (RowD.d x1) 1), (31, dI x1.v), (32, dB (valB x1.v)), (33, dB (!(valB x1.v))), (34, dB (!(valB x1.v)))]) [.sl v2 2 33 ((zR x1.ls).map Lbl.d)] (H1 := []) (H1' := []) ⟨⟨_, rfl, ArgC.id⟩, ⟨_, rfl, ArgC.id⟩, ⟨_, rfl, ArgC.id⟩, ⟨_, rfl, ArgC.id⟩, ⟨_, rfl, ArgC.own (j := 0) rfl rfl⟩, ⟨_, rfl, ArgC.id⟩, ⟨_, rfl, ArgC.id⟩, ⟨_, rfl, ArgC.id⟩, ⟨_, rfl, ArgC.id⟩, ⟨_, rfl, ArgC.id⟩, ⟨_, rfl, ArgC.tup (.cons (ArgC.own (j := 0) rfl rfl) (.cons ArgC.id .nil))⟩, ⟨_, rfl, ArgC.id⟩, ⟨_, rfl, ArgC.id⟩, ⟨_, rfl, ArgC.id⟩, ⟨_, rfl, ArgC.id⟩, ⟨_, rfl, ArgC.id⟩, ⟨_, rfl, ArgC.tup (.cons (ArgC.own (j := 0) rfl rfl) (.cons ArgC.id .nil))⟩, ⟨_, rfl, ArgC.own (j := 0) rfl rfl⟩, ⟨_, rfl, ArgC.id⟩, ⟨_, rfl, ArgC.id⟩, ⟨_, rfl, ArgC.id⟩, ⟨_, rfl, ArgC.id⟩, ⟨_, rfl, ArgC.id⟩, ⟨_, rfl, ArgC.id⟩, ⟨_, rfl, ArgC.id⟩, ⟨_, rfl, ArgC.id⟩, ⟨_, rfl, ArgC.id⟩, ⟨_, rfl, ArgC.id⟩, ⟨_, rfl, ArgC.id⟩, ⟨_, rfl, ArgC.id⟩, trivial⟩ .nil) ?_
        refine JD.keep [0, 2, 3, 4, 5, 6, 9, 10, 11, 12, 15, 16, 17, 18, 19, 20, 21, 22, 23, 24, 25, 26, 27, 28, 29, 30, 31, 32, 33, 34] [(0, .sh 2 (l.map RowD.d)), (2, dZ), (3, .sh 2 (out.map RowD.d)), (4, dN i), (5, .sh 2 ((zR x1.ls).map Lbl.d)), (6, dB true), (9, dN i), (10, .sh 2 (l.map RowD.d)), (11, dN l.length), (12, dB (decide (((i : Nat) : Int) < ((l.length : Nat) : Int)))), (15, .tup [.sh 2 ((zR x1.ls).map Lbl.d), dB (z9 x1.ls)]), (16, .sh 2 (l.map RowD.d)), (17, dN i), (18, .el (RowD.d x1) 0), (19, .el (RowD.d x1) 0), (20, .sh 2 (x1.ls.map Lbl.d)), (21, .tup [.sh 2 ((zR x1.ls).map Lbl.d), dB (z9 x1.ls)]), (22, .sh 2 ((zR x1.ls).map Lbl.d)), (23, dB true), (24, dB true), (25, dB false), (26, dB false), (27, .sh 2 (l.map RowD.d)), (28, dN i), (29, .el (RowD.d x1) 0), (30, .el (RowD.d x1) 1), (31, dI x1.v), (32, dB (valB x1.v)), (33, dB (!(valB x1.v))), (34, dB (!(valB x1.v)))] rfl (JD.norm [] rfl ?_)
        refine zbw 16 [(36, .q (.sh 2 (out.map RowD.d))), (37, .o (fun γ => [.sl (γ 1) 2 30 (out.map RowD.d)])), (38, .q (.sh 2 ((zR x1.ls).map Lbl.d))), (39, .q (.sh 2 (l.map RowD.d))), (40, .q (dN i)), (41, .q (.el (RowD.d x1) 0)), (42, .q (.el (RowD.d x1) 1)), (43, .q (dI x1.v)), (44, .q (.agg [.sh 2 ((zR x1.ls).map Lbl.d), dI x1.v])), (45, .q (.sh 2 ([(RowD.mk (zR x1.ls) x1.v)].map RowD.d))), (46, .o (fun γ => [.sl (γ 10) 2 30 ((out ++ [(RowD.mk (zR x1.ls) x1.v)]).map RowD.d)])), (47, .e (.tup [.sh 2 ((rtL (out ++ [(RowD.mk (zR x1.ls) x1.v)])).map RowD.d), dI (rtE (out ++ [(RowD.mk (zR x1.ls) x1.v)]))]) (fun γ => [])), (35, .q (.tup [.sh 2 ((rtL (out ++ [(RowD.mk (zR x1.ls) x1.v)])).map RowD.d), dI (rtE (out ++ [(RowD.mk (zR x1.ls) x1.v)]))])), (48, .q (.sh 2 ((rtL (out ++ [(RowD.mk (zR x1.ls) x1.v)])).map RowD.d))), (49, .q (dI (rtE (out ++ [(RowD.mk (zR x1.ls) x1.v)])))), (7, .q (.sh 2 ((rtL (out ++ [(RowD.mk (zR x1.ls) x1.v)])).map RowD.d)))] [] (Hn := fun γ => []) zaD rfl rfl (by kernel_rfl) (by kernel_rfl) (by kernel_rfl) HSub.rfl' (fun _ => rfl) (fun γ => ⟨so_p rfl rfl rfl (zb rfl), so_o rfl rfl rfl rfl ((zb8 (f := RowD.d) (l' := out) rfl rfl (SrcD.sh) zbg zaZ rfl rfl (by unfold maxLen; (try simp only [la, lc, ln, lm, lt', ld, ls, lr]); omega) (by (try simp only [la, lc, ln, lm, lt', ld, ls, lr]); omega)).mono (by rintro _ _ ⟨v, rfl, rfl⟩; exact ⟨v, rfl, rfl⟩)) (fun _ => HSub.lst 1 rfl), so_p rfl rfl rfl (zb rfl), so_p rfl rfl rfl (zb rfl), so_p rfl rfl rfl (zb rfl), so_p rfl rfl rfl (zG (k := i) rfl rfl Try.runUnderlying22 Try.sizeOf30 (by first | rfl | omega) (zs hx1)), so_p rfl rfl rfl (zN rfl zaQ rfl), so_p rfl rfl rfl (zV rfl Try.isAgg3 rfl), so_p rfl rfl rfl (zcY [0, 1] [.tmp 38, .tmp 43] (zv := (.agg #[(.slice none 0 0), (.int .i64 0)])) rfl rfl (.cons CellD.sh (.cons (CellD.v rfl) .nil)) (Try.runUnderlying30) Try.zeroValue30 zdq ⟨rfl, rfl, trivial⟩ rfl), so_q rfl rfl rfl (zaW [.tmp 44] rfl rfl (.cons CellD.agg .nil) rfl Try.runUnderlying22 Try.sizeOf30 Try.zeroValue30 rfl rfl rfl rfl), so_o rfl rfl rfl rfl ((z2 (f := RowD.d) (l := out) (l' := [(RowD.mk (zR x1.ls) x1.v)]) (i := 0) rfl rfl rfl (SrcD.sh) zbg zaZ rfl rfl (by unfold maxLen; (try simp only [la, lc, ln, lm, lt', ld, ls, lr]); omega) (by (try simp only [la, lc, ln, lm, lt', ld, ls, lr]); omega)).mono (by rintro _ _ ⟨v, rfl, rfl⟩; exact ⟨v, rfl, rfl⟩)) (fun _ => HSub.lst 1 rfl), so_e rfl rfl rfl rfl (Ef.fz (Hr := []) (d := .tup [.sh 2 ((rtL (out ++ [(RowD.mk (zR x1.ls) x1.v)])).map RowD.d), dI (rtE (out ++ [(RowD.mk (zR x1.ls) x1.v)]))]) (Ef.mv (Mvk.freeze (K' := [(46, .sh 2 ((out ++ [(RowD.mk (zR x1.ls) x1.v)]).map RowD.d))]) [.sl (γ 10) 2 30 ((out ++ [(RowD.mk (zR x1.ls) x1.v)]).map RowD.d)] (H1 := []) (H1' := []) ⟨⟨_, rfl, ArgC.own (j := 0) rfl rfl⟩, trivial⟩ .nil) (zt [] [] [] rfl rfl (.cons ArgC.id .nil) zo Try.call22 (refTidyR_c (out ++ [(RowD.mk (zR x1.ls) x1.v)]) (by first | omega | (simp only [la, List.length_singleton]; omega)) (by intro r hr; rcases List.mem_append.1 hr with e | e; (exact htr.li r e); (rw [List.mem_singleton.1 e]; exact tidyL_light (hli x1 (za2 hx1))))) (.inl rfl))) (by rintro _ _ ⟨_, ⟨v, rfl, rfl⟩, rfl⟩; exact ⟨[.sl v 2 30 ((rtL (out ++ [(RowD.mk (zR x1.ls) x1.v)])).map RowD.d)], rfl, ArgC.tup (.cons (ArgC.own (j := 0) rfl rfl) (.cons ArgC.id .nil))⟩)) HSub.rfl', so_p rfl rfl rfl (zb rfl), so_p rfl rfl rfl (zE rfl rfl), so_p rfl rfl rfl (zE rfl rfl), so_p rfl rfl rfl (ze rfl), trivial⟩) (fun γ => ?_)
        refine OpsD.keep [0, 2, 3, 4, 5, 6, 7, 9, 10, 11, 12, 15, 16, 17, 18, 19, 20, 21, 22, 23, 24, 25, 26, 27, 28, 29, 30, 31, 32, 33, 34, 35, 36, 37, 38, 39, 40, 41, 42, 43, 44, 45, 46, 47, 48, 49] [(0, .sh 2 (l.map RowD.d)), (2, dZ), (3, .sh 2 (out.map RowD.d)), (4, dN i), (5, .sh 2 ((zR x1.ls).map Lbl.d)), (6, dB true), (7, .sh 2 ((rtL (out ++ [(RowD.mk (zR x1.ls) x1.v)])).map RowD.d)), (9, dN i), (10, .sh 2 (l.map RowD.d)), (11, dN l.length), (12, dB (decide (((i : Nat) : Int) < ((l.length : Nat) : Int)))), (15, .tup [.sh 2 ((zR x1.ls).map Lbl.d), dB (z9 x1.ls)]), (16, .sh 2 (l.map RowD.d)), (17, dN i), (18, .el (RowD.d x1) 0), (19, .el (RowD.d x1) 0), (20, .sh 2 (x1.ls.map Lbl.d)), (21, .tup [.sh 2 ((zR x1.ls).map Lbl.d), dB (z9 x1.ls)]), (22, .sh 2 ((zR x1.ls).map Lbl.d)), (23, dB true), (24, dB true), (25, dB false), (26, dB false), (27, .sh 2 (l.map RowD.d)), (28, dN i), (29, .el (RowD.d x1) 0), (30, .el (RowD.d x1) 1), (31, dI x1.v), (32, dB (valB x1.v)), (33, dB (!(valB x1.v))), (34, dB (!(valB x1.v))), (35, .tup [.sh 2 ((rtL (out ++ [(RowD.mk (zR x1.ls) x1.v)])).map RowD.d), dI (rtE (out ++ [(RowD.mk (zR x1.ls) x1.v)]))]), (36, .sh 2 (out.map RowD.d)), (37, .ov (γ 1)), (38, .sh 2 ((zR x1.ls).map Lbl.d)), (39, .sh 2 (l.map RowD.d)), (40, dN i), (41, .el (RowD.d x1) 0), (42, .el (RowD.d x1) 1), (43, dI x1.v), (44, .agg [.sh 2 ((zR x1.ls).map Lbl.d), dI x1.v]), (45, .sh 2 ([(RowD.mk (zR x1.ls) x1.v)].map RowD.d)), (46, .ov (γ 10)), (47, .tup [.sh 2 ((rtL (out ++ [(RowD.mk (zR x1.ls) x1.v)])).map RowD.d), dI (rtE (out ++ [(RowD.mk (zR x1.ls) x1.v)]))]), (48, .sh 2 ((rtL (out ++ [(RowD.mk (zR x1.ls) x1.v)])).map RowD.d)), (49, dI (rtE (out ++ [(RowD.mk (zR x1.ls) x1.v)])))] rfl ?_
        refine za rfl rfl (ze rfl) (zg rfl (zf (zh _ _ rfl rfl rfl (zc rfl (za rfl rfl (zb rfl) (za rfl rfl (z1 rfl rfl rfl) (zg rfl (zf ?_))))))))
        refine zr _ _ rfl rfl rfl rfl (fun hc5 => ?_) (fun hc5 => ?_)
        · replace hc5 := of_decide_eq_true hc5
          refine zc rfl (za rfl rfl (zb rfl) (za rfl rfl (ze rfl) (zg rfl (zz (zf (zc rfl (za rfl rfl (zb rfl) (za rfl rfl (z3 (c := ((i + 1 : Nat) : Int)) rfl rfl (zP (by omega) (by omega))) (za rfl rfl (ze rfl) (zg rfl ?_))))))))))
          exact zS (i + 1, (rtL (out ++ [(RowD.mk (zR x1.ls) x1.v)]))) ⟨sk rfl, sk rfl, sk rfl, sk rfl, trivial⟩ HSub.none ⟨by show i + 1 ≤ l.length; omega, by show _ = zQ (l.take (i + 1)); rw [tidyRs_snoc hx1, ← hso]; exact (trStep_t hg3 hc4 hc5).symm⟩ (by omega)
        · replace hc5 := of_decide_eq_false hc5
          refine zy rfl (zz (zf (zc rfl (za rfl rfl (zb rfl) (za rfl rfl (z3 (c := ((i + 1 : Nat) : Int)) rfl rfl (zP (by omega) (by omega))) (za rfl rfl (ze rfl) (zg rfl ?_)))))))
          exact zS (i + 1, out) ⟨sk rfl, sk rfl, sk rfl, sk rfl, trivial⟩ HSub.none ⟨by show i + 1 ≤ l.length; omega, by show _ = zQ (l.take (i + 1)); rw [tidyRs_snoc hx1, ← hso]; exact (trStep_f hc5).symm⟩ (by omega)
    · skip
      refine JD.sub [(0, .sh 2 (l.map RowD.d)), (2, dZ), (3, .sh 2 (out.map RowD.d)), (4, dN i), (5, .ov v2), (6, dB false), (9, dN i), (10, .sh 2 (l.map RowD.d)), (11, dN l.length), (12, dB (decide (((i : Nat) : Int) < ((l.length : Nat) : Int)))), (15, .tup [.ov v2, dB (z9 x1.ls)]), (16, .sh 2 (l.map RowD.d)), (17, dN i), (18, .el (RowD.d x1) 0), (19, .el (RowD.d x1) 0), (20, .sh 2 (x1.ls.map Lbl.d)), (21, .tup [.ov v2, dB (z9 x1.ls)]), (22, .ov v2), (23, dB false)] ⟨sk rfl, sk rfl, sk rfl, sk rfl, sk rfl, se rfl (congrArg (fun b => D.v (.bool b)) (by simp [hg3])), sk rfl, sk rfl, sk rfl, sk rfl, sk rfl, sk rfl, sk rfl, sk rfl, sk rfl, sk rfl, sk rfl, sk rfl, se rfl (congrArg (fun b => D.v (.bool b)) (by simp [hg3])), trivial⟩ (zc rfl (za rfl rfl (zb rfl) (za rfl rfl (zan (q := false) rfl) (za rfl rfl (zb rfl) (zj rfl rfl rfl rfl rfl (by decide) (zj rfl rfl rfl rfl rfl (by decide) (zj rfl rfl rfl rfl rfl (by decide) (zj rfl rfl rfl rfl rfl (by decide) (zj rfl rfl rfl rfl rfl (by decide) (zj rfl rfl rfl rfl rfl (by decide) (zj rfl rfl rfl rfl rfl (by decide) (za rfl rfl (zp rfl rfl) (zg rfl (zf ?_))))))))))))))
      refine zav _ rfl rfl rfl (z0 rfl (zI (zB (zf (zc rfl (za rfl rfl (zb rfl) (za rfl rfl (z3 (c := ((i + 1 : Nat) : Int)) rfl rfl (zP (by omega) (by omega))) (za rfl rfl (ze rfl) (zg rfl ?_)))))))))
      exact zS (i + 1, out) ⟨sk rfl, sk rfl, sk rfl, sk rfl, trivial⟩ HSub.none ⟨by show i + 1 ≤ l.length; omega, by show _ = zQ (l.take (i + 1)); rw [tidyRs_snoc hx1, ← hso]; exact (trStep_no (.inl hg3)).symm⟩ (by omega)
  · replace hc1 := of_decide_eq_false hc1
    refine z0 rfl (zI (zH (zB (zf (zh _ _ rfl rfl rfl (zc rfl (za rfl rfl (zb rfl) (za rfl rfl (ze rfl) (zg rfl (zf (zC rfl ?_)))))))))))
    exact zu Try.results9 (.cons (zK (zq rfl) (Cv.eq (congrArg (D.ls 2 RowD.d) (show out = zQ l from (by rw [hso, List.take_of_length_le (by omega)]))))) .nil) rfl HSub.none ⟨rfl, rfl⟩
end Lp
/- Walks, printed by a program of mine. -/
set_option linter.unusedSimpArgs false
set_option linter.unusedVariables false
namespace Lp
open Go Go.RowKit Go.Proofs

namespace HdYtfjinapgehafiaaV2
theorem zaf (b o : Nat) : ∀ w, (Instr.fieldAt 30 (.pointer (some ⟨b, o, none⟩)) 0).run Try.prog w = .ok (.pointer (some ⟨b, o + 0, none⟩)) w := fun _ => by kernel_rfl
theorem zaQ (b o : Nat) : ∀ w, (Instr.fieldAt 30 (.pointer (some ⟨b, o, none⟩)) 1).run Try.prog w = .ok (.pointer (some ⟨b, o + 1, none⟩)) w := fun _ => by kernel_rfl
theorem zam (b o : Nat) : ∀ w, (Instr.fieldAt 33 (.pointer (some ⟨b, o, none⟩)) 0).run Try.prog w = .ok (.pointer (some ⟨b, o + 0, none⟩)) w := fun _ => by kernel_rfl
theorem zaP (b o : Nat) : ∀ w, (Instr.fieldAt 33 (.pointer (some ⟨b, o, none⟩)) 1).run Try.prog w = .ok (.pointer (some ⟨b, o + 1, none⟩)) w := fun _ => by kernel_rfl
end HdYtfjinapgehafiaaV2
open HdYtfjinapgehafiaaV2

set_option maxHeartbeats 4000000 in
set_option maxRecDepth 100000 in
theorem Light2_c (l : List Lbl)  :
    CD Try.prog 19 [] [.sh 2 (l.map Lbl.d)] (isR (dB (zaO l))) := by
  refine zJ Try.func19 rfl (N := 33) rfl rfl (fun C => ?_)
  refine JD.keep [0] [(0, .sh 2 (l.map Lbl.d))] rfl ?_
  refine JD.bd 0 rfl (fun bd0 => ?_)
  have nl0 := zah bd0
  refine zh _ _ rfl rfl rfl (zc rfl (za rfl rfl (ze rfl) (zg rfl (zf (zh _ _ rfl rfl rfl (zh _ _ rfl rfl rfl (zc rfl (za rfl rfl (ze rfl) (zg rfl (zf (zw _ rfl rfl (z5 (fun (g : Nat) => [(0, .sh 2 (l.map Lbl.d)), (3, dN g)]) (fun (g : Nat) => []) (fun (g : Nat) => (g ≤ l.length ∧ g ≤ 30) ∧ ((l.take g).all (fun x => decide (x.n.size ≤ 200) && decide (x.v.size ≤ 200)) = true)) (fun (g : Nat) => l.length - g) _ 0 rfl rfl ⟨sk rfl, sk rfl, trivial⟩ HSub.rfl' ⟨⟨Nat.zero_le _, Nat.zero_le _⟩, by simp⟩ ?_))))))))))))
  rintro k ⟨hk, hf⟩
  refine JD.keep [0, 3] [(0, .sh 2 (l.map Lbl.d)), (3, dN k)] rfl (JD.norm [] rfl (zh _ _ rfl rfl rfl (zh _ _ rfl rfl rfl (JD.keep [0, 3] [(0, .sh 2 (l.map Lbl.d)), (3, dN k)] rfl ?_))))
  refine zap 11 ((decide (((k : Nat) : Int) < ((l.length : Nat) : Int)) && decide (((k : Nat) : Int) < (30 : Int)))) [] (fun _ hQ1 => ?_) ?_
  · skip
    by_cases hg2 : ((k : Nat) : Int) < ((l.length : Nat) : Int)
    · skip
      refine zc rfl (za rfl rfl (zb rfl) (za rfl rfl (zb rfl) (za rfl rfl (zar (n := l.length) rfl Try.runUnderlying27 (by simp only [lm, lc, ln])) (za rfl rfl (z6 rfl rfl (decide_eq_true hg2)) (za rfl rfl (zb rfl) (zi rfl rfl rfl rfl rfl (zb rfl) (zi rfl rfl rfl rfl rfl (z6 rfl rfl rfl) (za rfl rfl (zp rfl rfl) (zg rfl ?_)))))))))
      exact PD.sub ((11, dB (decide (((k : Nat) : Int) < ((l.length : Nat) : Int)) && decide (((k : Nat) : Int) < (30 : Int)))) :: [(0, .sh 2 (l.map Lbl.d)), (3, dN k)]) ⟨sc rfl (Cv.eq (congrArg (fun b => D.v (.bool b)) (by first | (simp [hg2]; done) | (simp_all; done)))), sk rfl, sk rfl, trivial⟩ hQ1
    · skip
      refine zc rfl (za rfl rfl (zb rfl) (za rfl rfl (zb rfl) (za rfl rfl (zar (n := l.length) rfl Try.runUnderlying27 (by simp only [lm, lc, ln])) (za rfl rfl (z6 rfl rfl (decide_eq_false hg2)) (za rfl rfl (zb rfl) (zj rfl rfl rfl rfl rfl (by decide) (zj rfl rfl rfl rfl rfl (by decide) (za rfl rfl (zm rfl rfl) (zg rfl ?_)))))))))
      exact PD.sub ((11, dB (decide (((k : Nat) : Int) < ((l.length : Nat) : Int)) && decide (((k : Nat) : Int) < (30 : Int)))) :: [(0, .sh 2 (l.map Lbl.d)), (3, dN k)]) ⟨sc rfl (Cv.eq (congrArg (fun b => D.v (.bool b)) (by first | (simp [hg2]; done) | (simp_all; done)))), sk rfl, sk rfl, trivial⟩ hQ1
  · skip
    refine zf ?_
    refine zr _ _ rfl rfl rfl rfl (fun hc3 => ?_) (fun hc3 => ?_)
    · simp only [Bool.and_eq_true, Bool.or_eq_true, Bool.not_eq_true', Bool.not_eq_false', Bool.and_eq_false_iff, Bool.or_eq_false_iff, decide_eq_true_eq, decide_eq_false_iff_not, Decidable.not_not, ne_eq] at hc3
      refine zy rfl (zf (zh _ _ rfl rfl rfl (zw _ rfl rfl (zh _ _ rfl rfl rfl ?_))))
      obtain ⟨x1, hx1⟩ := zU l k (by omega)
      refine JD.keep [0, 3, 11] [(0, .sh 2 (l.map Lbl.d)), (3, dN k), (11, dB (decide (((k : Nat) : Int) < ((l.length : Nat) : Int)) && decide (((k : Nat) : Int) < (30 : Int))))] rfl ?_
      refine zap 29 ((decide ((200 : Int) < ((x1.n.size : Nat) : Int)) || decide ((200 : Int) < ((x1.v.size : Nat) : Int)))) [] (fun _ hQ4 => ?_) ?_
      · skip
        by_cases hg5 : (200 : Int) < ((x1.n.size : Nat) : Int)
        · skip
          refine zc rfl (za rfl rfl (zb rfl) (za rfl rfl (zb rfl) (za rfl rfl (zG (k := k) rfl rfl Try.runUnderlying27 Try.sizeOf33 (by first | rfl | omega) (zs hx1)) (za rfl rfl (zN rfl zam rfl) (za rfl rfl (zV rfl Try.isAgg9 rfl) (za rfl rfl (zaC rfl Try.runUnderlying9) (za rfl rfl (zaF rfl rfl (decide_eq_true hg5)) (za rfl rfl (zb rfl) (zj rfl rfl rfl rfl rfl (by decide) (zj rfl rfl rfl rfl rfl (by decide) (zj rfl rfl rfl rfl rfl (by decide) (zj rfl rfl rfl rfl rfl (by decide) (zj rfl rfl rfl rfl rfl (by decide) (zj rfl rfl rfl rfl rfl (by decide) (zj rfl rfl rfl rfl rfl (by decide) (za rfl rfl (zp rfl rfl) (zg rfl ?_)))))))))))))))))
          exact PD.sub ((29, dB (decide ((200 : Int) < ((x1.n.size : Nat) : Int)) || decide ((200 : Int) < ((x1.v.size : Nat) : Int)))) :: [(0, .sh 2 (l.map Lbl.d)), (3, dN k), (11, dB (decide (((k : Nat) : Int) < ((l.length : Nat) : Int)) && decide (((k : Nat) : Int) < (30 : Int))))]) ⟨sc rfl (Cv.eq (congrArg (fun b => D.v (.bool b)) (by first | (simp [hg5]; done) | (simp_all; done)))), sk rfl, sk rfl, sk rfl, trivial⟩ hQ4
        · skip
          refine zc rfl (za rfl rfl (zb rfl) (za rfl rfl (zb rfl) (za rfl rfl (zG (k := k) rfl rfl Try.runUnderlying27 Try.sizeOf33 (by first | rfl | omega) (zs hx1)) (za rfl rfl (zN rfl zam rfl) (za rfl rfl (zV rfl Try.isAgg9 rfl) (za rfl rfl (zaC rfl Try.runUnderlying9) (za rfl rfl (zaF rfl rfl (decide_eq_false hg5)) (za rfl rfl (zb rfl) (zi rfl rfl rfl rfl rfl (zb rfl) (zi rfl rfl rfl rfl rfl (zb rfl) (zi rfl rfl rfl rfl rfl (zG (k := k) rfl rfl Try.runUnderlying27 Try.sizeOf33 (by first | rfl | omega) (zs hx1)) (zi rfl rfl rfl rfl rfl (zN rfl zaP rfl) (zi rfl rfl rfl rfl rfl (zV rfl Try.isAgg9 rfl) (zi rfl rfl rfl rfl rfl (zaC rfl Try.runUnderlying9) (zi rfl rfl rfl rfl rfl (zaF rfl rfl rfl) (za rfl rfl (zm rfl rfl) (zg rfl ?_)))))))))))))))))
          exact PD.sub ((29, dB (decide ((200 : Int) < ((x1.n.size : Nat) : Int)) || decide ((200 : Int) < ((x1.v.size : Nat) : Int)))) :: [(0, .sh 2 (l.map Lbl.d)), (3, dN k), (11, dB (decide (((k : Nat) : Int) < ((l.length : Nat) : Int)) && decide (((k : Nat) : Int) < (30 : Int))))]) ⟨sc rfl (Cv.eq (congrArg (fun b => D.v (.bool b)) (by first | (simp [hg5]; done) | (simp_all; done)))), sk rfl, sk rfl, sk rfl, trivial⟩ hQ4
      · skip
        refine zf ?_
        refine zr _ _ rfl rfl rfl rfl (fun hc6 => ?_) (fun hc6 => ?_)
        · simp only [Bool.and_eq_true, Bool.or_eq_true, Bool.not_eq_true', Bool.not_eq_false', Bool.and_eq_false_iff, Bool.or_eq_false_iff, decide_eq_true_eq, decide_eq_false_iff_not, Decidable.not_not, ne_eq] at hc6
          refine zh _ _ rfl rfl rfl (zc rfl (za rfl rfl (ze rfl) (zg rfl (zf (zC rfl (zl (zn (zX (zl (zn ?_))))))))))
          exact zu Try.results19 (.cons (zK (zq rfl) (Cv.eq (congrArg (fun b => D.v (.bool b)) (by first | rw [lightL_bad hx1 (by omega) (by omega)] | (rw [lightL_end hf (by omega)]; exact decide_eq_decide.2 (by omega)))))) .nil) rfl HSub.none ⟨rfl, rfl⟩
        · simp only [Bool.and_eq_true, Bool.or_eq_true, Bool.not_eq_true', Bool.not_eq_false', Bool.and_eq_false_iff, Bool.or_eq_false_iff, decide_eq_true_eq, decide_eq_false_iff_not, Decidable.not_not, ne_eq] at hc6
          refine zy rfl (zz (zf (zc rfl (za rfl rfl (zb rfl) (za rfl rfl (z3 (c := ((k + 1 : Nat) : Int)) rfl rfl (zP (by omega) (by omega))) (za rfl rfl (ze rfl) (zg rfl ?_)))))))
          exact zS (k + 1) ⟨sk rfl, sk rfl, trivial⟩ HSub.rfl' ⟨by omega, zbD hx1 hf (by simp only [Bool.and_eq_true, decide_eq_true_eq]; omega)⟩ (by omega)
    · simp only [Bool.and_eq_true, Bool.or_eq_true, Bool.not_eq_true', Bool.not_eq_false', Bool.and_eq_false_iff, Bool.or_eq_false_iff, decide_eq_true_eq, decide_eq_false_iff_not, Decidable.not_not, ne_eq] at hc3
      refine z0 rfl (zI (zH (zB (zf (zh _ _ rfl rfl rfl (zc rfl (za rfl rfl (zb rfl) (za rfl rfl (zar (n := l.length) rfl Try.runUnderlying27 (by simp only [lm, lc, ln])) (za rfl rfl (zaM rfl rfl rfl) (za rfl rfl (ze rfl) (zg rfl (zf (zC rfl ?_)))))))))))))
      exact zu Try.results19 (.cons (zK (zq rfl) (Cv.eq (congrArg (fun b => D.v (.bool b)) (by first | rw [lightL_bad hk (by omega) (by omega)] | (rw [lightL_end hf (by omega)]; exact decide_eq_decide.2 (by omega)))))) .nil) rfl HSub.none ⟨rfl, rfl⟩

set_option maxHeartbeats 4000000 in
set_option maxRecDepth 100000 in
theorem Light10_c (l : List RowD)  :
    CD Try.prog 7 [] [.sh 2 (l.map RowD.d)] (isR (dB (zbC l))) := by
  refine zJ Try.func7 rfl (N := 24) rfl rfl (fun C => ?_)
  refine JD.keep [0] [(0, .sh 2 (l.map RowD.d))] rfl ?_
  refine JD.bd 0 rfl (fun bd0 => ?_)
  have nl0 := zah bd0
  refine zh _ _ rfl rfl rfl (zc rfl (za rfl rfl (ze rfl) (zg rfl (zf (zh _ _ rfl rfl rfl (zh _ _ rfl rfl rfl (zc rfl (za rfl rfl (ze rfl) (zg rfl (zf (zw _ rfl rfl (z5 (fun (g : Nat) => [(0, .sh 2 (l.map RowD.d)), (3, dN g)]) (fun (g : Nat) => []) (fun (g : Nat) => (g ≤ l.length ∧ g ≤ 100) ∧ ((l.take g).all (fun r => zaO r.ls) = true)) (fun (g : Nat) => l.length - g) _ 0 rfl rfl ⟨sk rfl, sk rfl, trivial⟩ HSub.rfl' ⟨⟨Nat.zero_le _, Nat.zero_le _⟩, by simp⟩ ?_))))))))))))
  rintro k ⟨hk, hf⟩
  refine JD.keep [0, 3] [(0, .sh 2 (l.map RowD.d)), (3, dN k)] rfl (JD.norm [] rfl (zh _ _ rfl rfl rfl (zh _ _ rfl rfl rfl (JD.keep [0, 3] [(0, .sh 2 (l.map RowD.d)), (3, dN k)] rfl ?_))))
  refine zap 11 ((decide (((k : Nat) : Int) < ((l.length : Nat) : Int)) && decide (((k : Nat) : Int) < (100 : Int)))) [] (fun _ hQ1 => ?_) ?_
  · skip
    by_cases hg2 : ((k : Nat) : Int) < ((l.length : Nat) : Int)
    · skip
      refine zc rfl (za rfl rfl (zb rfl) (za rfl rfl (zb rfl) (za rfl rfl (zar (n := l.length) rfl Try.runUnderlying22 (by simp only [lm, lc, ln])) (za rfl rfl (z6 rfl rfl (decide_eq_true hg2)) (za rfl rfl (zb rfl) (zi rfl rfl rfl rfl rfl (zb rfl) (zi rfl rfl rfl rfl rfl (z6 rfl rfl rfl) (za rfl rfl (zp rfl rfl) (zg rfl ?_)))))))))
      exact PD.sub ((11, dB (decide (((k : Nat) : Int) < ((l.length : Nat) : Int)) && decide (((k : Nat) : Int) < (100 : Int)))) :: [(0, .sh 2 (l.map RowD.d)), (3, dN k)]) ⟨sc rfl (Cv.eq (congrArg (fun b => D.v (.bool b)) (by first | (simp [hg2]; done) | (simp_all; done)))), sk rfl, sk rfl, trivial⟩ hQ1
    · skip
      refine zc rfl (za rfl rfl (zb rfl) (za rfl rfl (zb rfl) (za rfl rfl (zar (n := l.length) rfl Try.runUnderlying22 (by simp only [lm, lc, ln])) (za rfl rfl (z6 rfl rfl (decide_eq_false hg2)) (za rfl rfl (zb rfl) (zj rfl rfl rfl rfl rfl (by decide) (zj rfl rfl rfl rfl rfl (by decide) (za rfl rfl (zm rfl rfl) (zg rfl ?_)))))))))
      exact PD.sub ((11, dB (decide (((k : Nat) : Int) < ((l.length : Nat) : Int)) && decide (((k : Nat) : Int) < (100 : Int)))) :: [(0, .sh 2 (l.map RowD.d)), (3, dN k)]) ⟨sc rfl (Cv.eq (congrArg (fun b => D.v (.bool b)) (by first | (simp [hg2]; done) | (simp_all; done)))), sk rfl, sk rfl, trivial⟩ hQ1
  · skip
    refine zf ?_
    refine zr _ _ rfl rfl rfl rfl (fun hc3 => ?_) (fun hc3 => ?_)
    · simp only [Bool.and_eq_true, Bool.or_eq_true, Bool.not_eq_true', Bool.not_eq_false', Bool.and_eq_false_iff, Bool.or_eq_false_iff, decide_eq_true_eq, decide_eq_false_iff_not, Decidable.not_not, ne_eq] at hc3
      refine zy rfl (zf (zh _ _ rfl rfl rfl (zw _ rfl rfl (zh _ _ rfl rfl rfl (zc rfl (za rfl rfl (zb rfl) (za rfl rfl (zb rfl) ?_)))))))
      obtain ⟨x1, hx1⟩ := zU l k (by omega)
      refine za rfl rfl (zG (k := k) rfl rfl Try.runUnderlying22 Try.sizeOf30 (by first | rfl | omega) (zs hx1)) (za rfl rfl (zN rfl zaf rfl) (za rfl rfl (zV rfl Try.isAgg27 rfl) (zk rfl rfl (zt [] _ [] rfl rfl (.cons ArgC.id .nil) zo Try.call19 (Light2_c x1.ls) (.inl rfl)) ?_)))
      rintro _ _ ⟨_, ⟨rfl, rfl⟩, rfl⟩
      refine OpsD.norm [] rfl (za rfl rfl (zan rfl) (zg rfl (zf ?_)))
      refine zr _ _ rfl rfl rfl rfl (fun hc4 => ?_) (fun hc4 => ?_)
      · simp only [Bool.and_eq_true, Bool.or_eq_true, Bool.not_eq_true', Bool.not_eq_false', Bool.and_eq_false_iff, Bool.or_eq_false_iff, decide_eq_true_eq, decide_eq_false_iff_not, Decidable.not_not, ne_eq] at hc4
        refine zh _ _ rfl rfl rfl (zc rfl (za rfl rfl (ze rfl) (zg rfl (zf (zC rfl (zl (zn (zX (zl (zn ?_))))))))))
        exact zu Try.results7 (.cons (zK (zq rfl) (Cv.eq (congrArg (fun b => D.v (.bool b)) (by first | rw [lightR_bad hx1 (by omega) (by simpa using hc4)] | (rw [lightR_end hf (by omega)]; exact decide_eq_decide.2 (by omega)))))) .nil) rfl HSub.none ⟨rfl, rfl⟩
      · simp only [Bool.and_eq_true, Bool.or_eq_true, Bool.not_eq_true', Bool.not_eq_false', Bool.and_eq_false_iff, Bool.or_eq_false_iff, decide_eq_true_eq, decide_eq_false_iff_not, Decidable.not_not, ne_eq] at hc4
        refine zy rfl (zz (zf (zc rfl (za rfl rfl (zb rfl) (za rfl rfl (z3 (c := ((k + 1 : Nat) : Int)) rfl rfl (zP (by omega) (by omega))) (za rfl rfl (ze rfl) (zg rfl ?_)))))))
        exact zS (k + 1) ⟨sk rfl, sk rfl, trivial⟩ HSub.rfl' ⟨by omega, zbD hx1 hf (by simpa using hc4)⟩ (by omega)
    · simp only [Bool.and_eq_true, Bool.or_eq_true, Bool.not_eq_true', Bool.not_eq_false', Bool.and_eq_false_iff, Bool.or_eq_false_iff, decide_eq_true_eq, decide_eq_false_iff_not, Decidable.not_not, ne_eq] at hc3
      refine z0 rfl (zI (zH (zB (zf (zh _ _ rfl rfl rfl (zc rfl (za rfl rfl (zb rfl) (za rfl rfl (zar (n := l.length) rfl Try.runUnderlying22 (by simp only [lm, lc, ln])) (za rfl rfl (zaM rfl rfl rfl) (za rfl rfl (ze rfl) (zg rfl (zf (zC rfl ?_)))))))))))))
      exact zu Try.results7 (.cons (zK (zq rfl) (Cv.eq (congrArg (fun b => D.v (.bool b)) (by first | rw [lightR_bad hk (by omega) (by simpa using hc4)] | (rw [lightR_end hf (by omega)]; exact decide_eq_decide.2 (by omega)))))) .nil) rfl HSub.none ⟨rfl, rfl⟩
end Lp
/-
  What is said of vectors (chapter 10), as plain data.
-/
set_option linter.unusedVariables false
namespace Lp
open Go
/-! ### rows that may be -/
theorem rowsB_iff {l : List RowD} : zbt l = true ↔ ∀ r ∈ l, zbi r = true := by rw [rowsB_ok, List.all_eq_true]
theorem right_n {l : List Lbl} (h : zbe l = true) : zR l = l ∧ za1 l = 0 ∧ NSrt l ∧ (∀ x ∈ l, okL x = true) ∧ l.length ≤ 8 := by
  unfold zbe at h
  rw [Bool.and_eq_true, decide_eq_true_eq] at h
  have e := cmpLs_eq.1 h.2
  have e0 : za1 l = 0 := by have := tidyOk_E l; rw [h.1] at this; exact of_decide_eq_true this
  have hn := tidy_n e0
  rw [e] at hn
  exact ⟨e, e0, hn.1, hn.2, tidy_ok_len h.1⟩
theorem right_of {l : List Lbl} (h1 : l.length ≤ 8) (h2 : NSrt l) (h3 : ∀ x ∈ l, okL x = true) : zbe l = true := by
  obtain ⟨e1, e2⟩ := tidyOk_of h1 h2 (List.Perm.refl l) h3
  unfold zbe zR
  rw [e1, e2]
  simp [cmpLs_self]
theorem right_pick {l : List Lbl} (h : zbe l = true) (ns : List ByteArray) (w : Bool) : zbe (zad l ns w) = true := by
  obtain ⟨_, _, h3, h4, h5⟩ := right_n h
  exact right_of (Nat.le_trans (zbO _ _ _) h5) (List.Pairwise.filter _ h3) (fun x hx => h4 x (zcj hx))
theorem okRow_r {r : RowD} (h : zbi r = true) : zbe r.ls = true ∧ za0 r.v = true := by unfold zbi at h; rwa [Bool.and_eq_true] at h
theorem okRow_of {r : RowD} (h1 : zbe r.ls = true) (h2 : za0 r.v = true) : zbi r = true := by unfold zbi; rw [h1, h2]; rfl
theorem rt_rows {l : List RowD} (h : rtE l = 0) : l.length ≤ 2000 ∧ zbt l = true := by
  unfold rtE at h
  cases hb : decide (l.length ≤ 2000) && zbt l
  · rw [hb] at h; cases h
  · rw [Bool.and_eq_true, decide_eq_true_eq] at hb; exact hb
theorem tidyRs_rows (l : List RowD) : ∀ r ∈ zQ l, zbi r = true := by
  have key : ∀ (m out : List RowD), (∀ r ∈ out, zbi r = true) → ∀ r ∈ m.foldl zbm out, zbi r = true := by
    intro m
    induction m with
    | nil => intro out h; exact h
    | cons x m ih =>
      intro out h
      refine ih (zbm out x) ?_
      unfold zbm
      split
      · rename_i hc
        intro r hr
        have h1 := (rt_rows hc.2.2).2
        rw [rowsB_iff] at h1
        exact h1 r ((rt_strict hc.2.2).2.mem_iff.1 hr)
      · exact h
  exact key l [] (fun _ h => by cases h)
theorem vr_rows {a : List RowD} (h : zab a = true) : ∀ r ∈ a, zbi r = true := rowsB_iff.1 (zbu.1 h).2.1
theorem vr_strict {a : List RowD} (h : zab a = true) : zaV cL a := (zbu.1 h).2.2
theorem vr_of {a : List RowD} (h1 : a.length ≤ 2000) (h2 : ∀ r ∈ a, zbi r = true) (h3 : zaV cL a) : zab a = true := zbu.2 ⟨h1, rowsB_iff.2 h2, h3⟩
theorem vr_tidy {l : List RowD} (h : zbC l = true) : zab (zQ l) = true := by
  have t := tidyRs_trs (fun r hr => lightR_row h hr)
  have := lightR_len h
  exact vr_of (by have := t.len; omega) (tidyRs_rows l) t.st
theorem rt_perm {a b : List RowD} (h : zab a = true) (hp : a.Perm b) : rtL b = a ∧ rtE b = 0 := by
  have e := strict_isort zdt (vr_strict h) hp
  have hb : ordB b = true := by unfold ordB; rw [e]; exact decide_eq_true (vr_strict h)
  have h1 : ¬ (2000 : Int) < ((b.length : Nat) : Int) := by have := (zbu.1 h).1; rw [← hp.length_eq]; omega
  have h2 : zbt b = true := rowsB_iff.2 (fun r hr => vr_rows h r (hp.mem_iff.2 hr))
  obtain ⟨e1, e2⟩ := zdL h1 h2
  rw [← e1, ← e2]
  unfold ordL ordE; rw [hb, e]; exact ⟨rfl, rfl⟩
theorem rt_self {a : List RowD} (h : zab a = true) : rtL a = a ∧ rtE a = 0 := rt_perm h (List.Perm.refl a)
theorem nd_inj {α β : Type} {f : α → β} : ∀ {l : List α}, (l.map f).Nodup → ∀ {x y : α}, x ∈ l → y ∈ l → f x = f y → x = y
  | [], _, x, y, hx, _, _ => by cases hx
  | a :: l, h, x, y, hx, hy, e => by
    rw [List.map_cons, List.nodup_cons] at h
    rcases List.mem_cons.1 hx with ex | ex <;> rcases List.mem_cons.1 hy with ey | ey
    · rw [ex, ey]
    · exact absurd (List.mem_map.2 ⟨y, ey, by rw [← e, ex]⟩) h.1
    · exact absurd (List.mem_map.2 ⟨x, ex, by rw [e, ey]⟩) h.1
    · exact nd_inj h.2 ex ey e
theorem find_self {mode : Int} {ns : List ByteArray} {a : List RowD} (h : ndT mode ns a) {r : RowD} (hr : r ∈ a) : zc3 mode ns (keyT mode ns r) a = some r := by
  obtain ⟨j, q, h1, h2, h3, h4⟩ := findT_some (mode := mode) (ns := ns) (t := keyT mode ns r) (b := a) (List.mem_map.2 ⟨r, hr, rfl⟩)
  rw [h3, nd_inj (f := keyT mode ns) h (List.mem_of_getElem? h2) hr h4]
end Lp
/-
  What is said of vectors (chapter 10): the first call, twice the same, splits.
-/
set_option linter.unusedVariables false
namespace Lp
open Go
/-! ### the first call -/
def al10 : List RowD := [⟨[⟨⟨#[97]⟩, ⟨#[49]⟩⟩], 5⟩]
theorem al10_ls : zbe [⟨⟨#[97]⟩, ⟨#[49]⟩⟩] = true :=
  right_of (by decide) (List.pairwise_singleton _ _) (fun x hx => by rw [List.mem_singleton.1 hx]; unfold okL; rw [name_a]; decide)
theorem one_vr {r : RowD} (h : zbi r = true) : zab [r] = true :=
  vr_of (by simp) (fun x hx => by rw [List.mem_singleton.1 hx]; exact h) (List.pairwise_singleton _ _)
theorem al10_vr : zab al10 = true := one_vr (okRow_of al10_ls (by decide))
theorem key10 : keyL 0 [] [⟨⟨#[97]⟩, ⟨#[49]⟩⟩] = [⟨⟨#[97]⟩, ⟨#[49]⟩⟩] := by decide
theorem op_plus : opB ⟨#[43]⟩ = true := by decide
theorem op_minus : opB ⟨#[45]⟩ = true := by decide
theorem nd_one (mode : Int) (ns : List ByteArray) (r : RowD) : ndT mode ns [r] := by unfold ndT zaa; simp
theorem al10_m : zac ⟨#[43]⟩ al10 al10 0 [] = [⟨[⟨⟨#[97]⟩, ⟨#[49]⟩⟩], 10⟩] ∧ zaI ⟨#[43]⟩ al10 al10 0 [] = 0 := by
  have hg : zbX ⟨#[43]⟩ al10 al10 = true := by unfold zbX; rw [op_plus, al10_vr]; rfl
  have hn : ndT 0 [] al10 ∧ ndT 0 [] al10 := ⟨nd_one _ _ _, nd_one _ _ _⟩
  have hf := find_self hn.1 (r := ⟨[⟨⟨#[97]⟩, ⟨#[49]⟩⟩], 5⟩) List.mem_cons_self
  have d : doE ⟨#[43]⟩ 5 5 = (10, 0) := by decide
  have h0 : zaJ (maF ⟨#[43]⟩ 0 [] al10) al10 = 0 := firstE_0.2 (fun r hr => by rw [List.mem_singleton.1 hr]; unfold maF; rw [hf]; exact congrArg Prod.snd d)
  have ho : zcC ⟨#[43]⟩ 0 [] al10 al10 = [⟨[⟨⟨#[97]⟩, ⟨#[49]⟩⟩], 10⟩] := by
    have : zcN ⟨#[43]⟩ 0 [] al10 ⟨[⟨⟨#[97]⟩, ⟨#[49]⟩⟩], 5⟩ = some ⟨[⟨⟨#[97]⟩, ⟨#[49]⟩⟩], 10⟩ := by
      rw [maOne_op hf (by decide), d, key10]
    show List.filterMap (zcN ⟨#[43]⟩ 0 [] al10) [⟨[⟨⟨#[97]⟩, ⟨#[49]⟩⟩], 5⟩] = _
    rw [List.filterMap_cons_some this]; rfl
  obtain ⟨e1, e2⟩ := rt_self (one_vr (r := ⟨[⟨⟨#[97]⟩, ⟨#[49]⟩⟩], 10⟩) (okRow_of al10_ls (by decide)))
  unfold zac zaI
  rw [if_pos hg, if_pos hg, if_pos hn, if_pos hn, if_pos h0, if_pos h0, ho, e1, e2]; exact ⟨rfl, rfl⟩
theorem al10_s : zat ⟨#[45]⟩ al10 1 true = [⟨[⟨⟨#[97]⟩, ⟨#[49]⟩⟩], -4⟩] ∧ zaS ⟨#[45]⟩ al10 1 true = 0 := by
  have hg : zbW ⟨#[45]⟩ 1 al10 = true := by unfold zbW; rw [op_minus, al10_vr]; rfl
  have d : doE ⟨#[45]⟩ 1 5 = (-4, 0) := by decide
  have h0 : zaJ (scF ⟨#[45]⟩ 1 true) al10 = 0 := firstE_0.2 (fun r hr => by rw [List.mem_singleton.1 hr]; unfold scF; rw [if_pos rfl, d])
  have ho : zcA ⟨#[45]⟩ 1 true al10 = [⟨[⟨⟨#[97]⟩, ⟨#[49]⟩⟩], -4⟩] := by
    have : zc2 ⟨#[45]⟩ 1 true ⟨[⟨⟨#[97]⟩, ⟨#[49]⟩⟩], 5⟩ = some ⟨[⟨⟨#[97]⟩, ⟨#[49]⟩⟩], -4⟩ := by
      unfold zc2; rw [if_neg (by decide)]; unfold scF; rw [if_pos rfl, d, key10]
    show List.filterMap (zc2 ⟨#[45]⟩ 1 true) [⟨[⟨⟨#[97]⟩, ⟨#[49]⟩⟩], 5⟩] = _
    rw [List.filterMap_cons_some this]; rfl
  obtain ⟨e1, e2⟩ := rt_self (one_vr (r := ⟨[⟨⟨#[97]⟩, ⟨#[49]⟩⟩], -4⟩) (okRow_of al10_ls (by decide)))
  unfold zat zaS
  rw [if_pos hg, if_pos hg, if_pos h0, if_pos h0, ho, e1, e2]; exact ⟨rfl, rfl⟩
theorem al10_LZ : LZ al10 := fun r hr => by
  rw [List.mem_singleton.1 hr]
  exact ⟨by decide, fun x hx => by rw [List.mem_singleton.1 hx]; decide⟩
theorem has_one (m n : ByteArray) : hasN [m] n = decide (m = n) := by unfold hasN; simp
end Lp
