/- Walks, printed by a program of mine. -/
import Derived.Test.YtfjinapgehafiaaV21
set_option linter.unusedSimpArgs false
set_option linter.unusedVariables false
namespace Lp
open Go Go.RowKit Go.Proofs

namespace HdYtfjinapgehafiaaV22
theorem zdI : ∀ w, ((#[⟨"Labels", 27, 0, false, "", "", 0⟩, ⟨"V", 3, 1, false, "", "", 24⟩] : Array Field).mapM fun f => do pure (f.offset, ← Go.sizeOf f.type) : Sem (Array (Nat × Nat))).run Try.prog w = .ok ([(0, 1), (1, 1)] : List (Nat × Nat)).toArray w := fun _ => by kernel_rfl
theorem zao (b o : Nat) : ∀ w, (Instr.fieldAt 30 (.pointer (some ⟨b, o, none⟩)) 0).run Try.prog w = .ok (.pointer (some ⟨b, o + 0, none⟩)) w := fun _ => by kernel_rfl
theorem zaE (b o : Nat) : ∀ w, (Instr.fieldAt 30 (.pointer (some ⟨b, o, none⟩)) 1).run Try.prog w = .ok (.pointer (some ⟨b, o + 1, none⟩)) w := fun _ => by kernel_rfl
theorem za4 : ∃ i, Try.prog.info? 30 = some i ∧ i.zero = some (.agg #[(.slice none 0 0), (.int .i64 0)]) ∧ i.size = 2 ∧ i.bytes = 32 := zbG (by kernel_rfl)
theorem zbm : Try.prog.underlying 22 = some (.slice 30) := by kernel_rfl
end HdYtfjinapgehafiaaV22
open HdYtfjinapgehafiaaV22

set_option maxHeartbeats 4000000 in
set_option maxRecDepth 100000 in
theorem refTidyR_c (l : List RowD) (hl : l.length ≤ 1000000) (hli : ∀ r ∈ l, zaH r.ls = true) :
    CD Try.prog 22 [] [.sh 2 (l.map RowD.d)] (fun r H' => ∃ v0_, r = .tup [.ov v0_, dI (rtE l)] ∧ H' = [.sl v0_ 2 30 ((rtL l).map RowD.d)]) := by
  refine zL Try.func22 rfl (N := 34) rfl rfl (fun C => ?_)
  refine JD.keep [0] [(0, .sh 2 (l.map RowD.d))] rfl ?_
  refine JD.bd 0 rfl (fun bd0 => ?_)
  have nl0 := zae bd0
  refine zh _ _ rfl rfl rfl (zc rfl (za rfl rfl (ze rfl) (za rfl rfl (ze rfl) (zg rfl (zf (zh _ _ rfl rfl rfl (zh _ _ rfl rfl rfl (zc rfl (za rfl rfl (zb rfl) (za rfl rfl (zar (n := l.length) rfl Try.runUnderlying22 (by simp only [lm, lc, ln])) (za rfl rfl (zaM rfl rfl rfl) (zg rfl (zf ?_)))))))))))))
  refine zu _ _ rfl rfl rfl rfl (fun hc1 => ?_) (fun hc1 => ?_)
  · replace hc1 := of_decide_eq_true hc1
    refine zh _ _ rfl rfl rfl (zc rfl (za rfl rfl (ze rfl) (za rfl rfl (ze rfl) (zg rfl (zf (zB rfl (zp (PD.subH (HSub.nil 2 30) (PD.norm [.sl (.slice none 0 0) 2 30 ((rtL l).map RowD.d)] (by have hw : [] = rtL l := (by first | exact (zcN hc1).1 | exact (zcN hc1).2); rw [show ([] : List D) = List.map RowD.d (rtL l) from congrArg (List.map RowD.d) hw]) ?_)))))))))
    exact zx Try.results22 (.cons (zM (zs rfl) (Cv.ov rfl)) (.cons (zM (zs rfl) (Cv.eq (congrArg (fun n => D.v (.int .i64 n)) (by first | exact (zcN hc1).1 | exact (zcN hc1).2)))) .nil)) rfl (HSub.fst 1 rfl) ⟨(.slice none 0 0), rfl, rfl⟩
  · replace hc1 := of_decide_eq_false hc1
    refine zz rfl (zf (zh _ _ rfl rfl rfl (zh _ _ rfl rfl rfl (zc rfl (za rfl rfl (ze rfl) (zg rfl (zf (zy _ rfl rfl (z7 (fun (g : Nat) => [(0, .sh 2 (l.map RowD.d)), (4, dN g)]) (fun (g : Nat) => []) (fun (g : Nat) => (g ≤ l.length) ∧ (zbu (l.take g) = true)) (fun (g : Nat) => l.length - g) _ 0 rfl rfl ⟨sk rfl, sk rfl, trivial⟩ HSub.rfl' ⟨Nat.zero_le _, rfl⟩ ?_)))))))))
    rintro i ⟨hil, hw⟩
    refine JD.keep [0, 4] [(0, .sh 2 (l.map RowD.d)), (4, dN i)] rfl (JD.norm [] rfl (zh _ _ rfl rfl rfl (zh _ _ rfl rfl rfl (zc rfl (za rfl rfl (zb rfl) (za rfl rfl (zb rfl) (za rfl rfl (zar (n := l.length) rfl Try.runUnderlying22 (by simp only [lm, lc, ln])) (za rfl rfl (zaa rfl rfl rfl) (zg rfl (zf ?_))))))))))
    refine zu _ _ rfl rfl rfl rfl (fun hc2 => ?_) (fun hc2 => ?_)
    · replace hc2 := of_decide_eq_true hc2
      obtain ⟨x1, hx1⟩ := zV l i (by omega)
      refine zz rfl (zf (zh _ _ rfl rfl rfl (zy _ rfl rfl (zh _ _ rfl rfl rfl ?_))))
      rcases Bool.eq_false_or_eq_true (zbe x1.ls) with hg3 | hg3
      · skip
        refine zc rfl (za rfl rfl (zb rfl) (za rfl rfl (zb rfl) (za rfl rfl (zJ (k := i) rfl rfl Try.runUnderlying22 Try.sizeOf30 (by first | rfl | omega) (zw hx1)) (za rfl rfl (zU rfl zao rfl) (za rfl rfl (z0 rfl Try.isAgg27 rfl) (zl rfl rfl (zt [] _ [] rfl rfl (.cons ArgC.id .nil) zo Try.call35 (refRight_c x1.ls (light_nz (hli x1 (zbb hx1)))) (.inl rfl)) ?_))))))
        rintro _ _ ⟨_, ⟨rfl, rfl⟩, rfl⟩
        refine OpsD.norm [] rfl (OpsD.sub ((19, dB true) :: [(0, .sh 2 (l.map RowD.d)), (4, dN i), (8, dN i), (9, .sh 2 (l.map RowD.d)), (10, dN l.length), (11, dB (decide (((i : Nat) : Int) < ((l.length : Nat) : Int)))), (14, .sh 2 (l.map RowD.d)), (15, dN i), (16, .el (RowD.d x1) 0), (17, .el (RowD.d x1) 0), (18, .sh 2 (x1.ls.map Lbl.d))]) ⟨se rfl (congrArg (fun b => D.v (.bool b)) hg3), sk rfl, sk rfl, sk rfl, sk rfl, sk rfl, sk rfl, sk rfl, sk rfl, sk rfl, sk rfl, sk rfl, trivial⟩ (za rfl rfl (zag (q := true) rfl) (za rfl rfl (zb rfl) (zi rfl rfl rfl rfl rfl (zb rfl) (zi rfl rfl rfl rfl rfl (zb rfl) (zi rfl rfl rfl rfl rfl (zJ (k := i) rfl rfl Try.runUnderlying22 Try.sizeOf30 (by first | rfl | omega) (zw hx1)) (zi rfl rfl rfl rfl rfl (zU rfl zaE rfl) (zi rfl rfl rfl rfl rfl (z0 rfl Try.isAgg3 rfl) (zaT rfl rfl rfl rfl rfl (zt [] _ [] rfl rfl (.cons ArgC.id .nil) zo Try.call21 (refValue_c x1.v) (.inl rfl)) ?_)))))))))
        rintro _ _ ⟨_, ⟨rfl, rfl⟩, rfl⟩
        refine OpsD.norm [] rfl (zi rfl rfl rfl rfl rfl (zag rfl) (za rfl rfl (zm rfl rfl) (zg rfl (zf ?_))))
        refine zu _ _ rfl rfl rfl rfl (fun hc4 => ?_) (fun hc4 => ?_)
        · simp only [Bool.and_eq_true, Bool.or_eq_true, Bool.not_eq_true', Bool.not_eq_false', Bool.and_eq_false_iff, Bool.or_eq_false_iff, decide_eq_true_eq, decide_eq_false_iff_not, Decidable.not_not, ne_eq] at hc4
          refine zh _ _ rfl rfl rfl (zc rfl (za rfl rfl (ze rfl) (za rfl rfl (ze rfl) (zg rfl (zf (zB rfl (zn (zp (zZ (zn (zp (PD.subH (HSub.nil 2 30) (PD.norm [.sl (.slice none 0 0) 2 30 ((rtL l).map RowD.d)] (by have hw : [] = rtL l := (by first | exact (zdb hx1 (by simp [*])).1 | exact (zdb hx1 (by simp [*])).2); rw [show ([] : List D) = List.map RowD.d (rtL l) from congrArg (List.map RowD.d) hw]) ?_)))))))))))))
          exact zx Try.results22 (.cons (zM (zs rfl) (Cv.ov rfl)) (.cons (zM (zs rfl) (Cv.eq (congrArg (fun n => D.v (.int .i64 n)) (by first | exact (zdb hx1 (by simp [*])).1 | exact (zdb hx1 (by simp [*])).2)))) .nil)) rfl (HSub.fst 1 rfl) ⟨(.slice none 0 0), rfl, rfl⟩
        · simp only [Bool.and_eq_true, Bool.or_eq_true, Bool.not_eq_true', Bool.not_eq_false', Bool.and_eq_false_iff, Bool.or_eq_false_iff, decide_eq_true_eq, decide_eq_false_iff_not, Decidable.not_not, ne_eq] at hc4
          refine zz rfl (zD (zf (zc rfl (za rfl rfl (zb rfl) (za rfl rfl (z8 (c := ((i + 1 : Nat) : Int)) rfl rfl (zT (by omega) (by omega))) (za rfl rfl (ze rfl) (zg rfl ?_)))))))
          exact zS (i + 1) ⟨sk rfl, sk rfl, trivial⟩ HSub.rfl' ⟨by show i + 1 ≤ l.length; omega, rowsB_snoc hx1 hw hg3 hc4⟩ (by omega)
      · skip
        refine zc rfl (za rfl rfl (zb rfl) (za rfl rfl (zb rfl) (za rfl rfl (zJ (k := i) rfl rfl Try.runUnderlying22 Try.sizeOf30 (by first | rfl | omega) (zw hx1)) (za rfl rfl (zU rfl zao rfl) (za rfl rfl (z0 rfl Try.isAgg27 rfl) (zl rfl rfl (zt [] _ [] rfl rfl (.cons ArgC.id .nil) zo Try.call35 (refRight_c x1.ls (light_nz (hli x1 (zbb hx1)))) (.inl rfl)) ?_))))))
        rintro _ _ ⟨_, ⟨rfl, rfl⟩, rfl⟩
        refine OpsD.norm [] rfl (OpsD.sub ((19, dB false) :: [(0, .sh 2 (l.map RowD.d)), (4, dN i), (8, dN i), (9, .sh 2 (l.map RowD.d)), (10, dN l.length), (11, dB (decide (((i : Nat) : Int) < ((l.length : Nat) : Int)))), (14, .sh 2 (l.map RowD.d)), (15, dN i), (16, .el (RowD.d x1) 0), (17, .el (RowD.d x1) 0), (18, .sh 2 (x1.ls.map Lbl.d))]) ⟨se rfl (congrArg (fun b => D.v (.bool b)) hg3), sk rfl, sk rfl, sk rfl, sk rfl, sk rfl, sk rfl, sk rfl, sk rfl, sk rfl, sk rfl, sk rfl, trivial⟩ (za rfl rfl (zag (q := false) rfl) (za rfl rfl (zb rfl) (zj rfl rfl rfl rfl rfl (by decide) (zj rfl rfl rfl rfl rfl (by decide) (zj rfl rfl rfl rfl rfl (by decide) (zj rfl rfl rfl rfl rfl (by decide) (zj rfl rfl rfl rfl rfl (by decide) (zj rfl rfl rfl rfl rfl (by decide) (zj rfl rfl rfl rfl rfl (by decide) (za rfl rfl (zr rfl rfl) (zg rfl (zf (zau _ rfl rfl rfl (zh _ _ rfl rfl rfl (zc rfl (za rfl rfl (ze rfl) (za rfl rfl (ze rfl) (zg rfl (zf (zB rfl (zn (zp (zZ (zn ?_)))))))))))))))))))))))))
        refine zp (PD.subH (HSub.nil 2 30) (PD.norm [.sl (.slice none 0 0) 2 30 ((rtL l).map RowD.d)] (by have hw : [] = rtL l := (by first | exact (zdb hx1 (by simp [*])).1 | exact (zdb hx1 (by simp [*])).2); rw [show ([] : List D) = List.map RowD.d (rtL l) from congrArg (List.map RowD.d) hw]) ?_))
        exact zx Try.results22 (.cons (zM (zs rfl) (Cv.ov rfl)) (.cons (zM (zs rfl) (Cv.eq (congrArg (fun n => D.v (.int .i64 n)) (by first | exact (zdb hx1 (by simp [*])).1 | exact (zdb hx1 (by simp [*])).2)))) .nil)) rfl (HSub.fst 1 rfl) ⟨(.slice none 0 0), rfl, rfl⟩
    · replace hc2 := of_decide_eq_false hc2
      refine z3 rfl (zK (zI (zE (zf (zh _ _ rfl rfl rfl (zc rfl (za rfl rfl (zb rfl) (zl rfl rfl (zt [] _ [] rfl rfl (.cons ArgC.id .nil) zo Try.call36 (refOrder_c l (by omega)) (.inl rfl)) ?_))))))))
      rintro _ _ ⟨_, ⟨v5, rfl, rfl⟩, rfl⟩
      refine OpsD.norm [.sl v5 2 30 ((ordL l).map RowD.d)] rfl (za rfl rfl (zF rfl rfl) (za rfl rfl (zF rfl rfl) (za rfl rfl (ze rfl) (za rfl rfl (ze rfl) (zg rfl (zf (JD.keep [2, 3] [(2, .ov v5), (3, dI (ordE l))] rfl (zB rfl (PD.norm [.sl v5 2 30 ((rtL l).map RowD.d)] (by have hw : ordL l = rtL l := (by first | exact (zdZ (by omega) (by rw [← List.take_of_length_le (by omega : l.length ≤ i)]; exact hw)).1 | exact (zdZ (by omega) (by rw [← List.take_of_length_le (by omega : l.length ≤ i)]; exact hw)).2); rw [hw]) ?_)))))))))
      exact zx Try.results22 (.cons (zs rfl) (.cons (zM (zs rfl) (Cv.eq (congrArg (fun n => D.v (.int .i64 n)) (by first | exact (zdZ (by omega) (by rw [← List.take_of_length_le (by omega : l.length ≤ i)]; exact hw)).1 | exact (zdZ (by omega) (by rw [← List.take_of_length_le (by omega : l.length ≤ i)]; exact hw)).2)))) .nil)) rfl (HSub.fst 1 rfl) ⟨v5, rfl, rfl⟩

set_option maxHeartbeats 4000000 in
set_option maxRecDepth 100000 in
theorem tidy10_c (l : List RowD) (hl : l.length ≤ 2000) (hli : ∀ r ∈ l, zaH r.ls = true) :
    CD Try.prog 9 [] [.sh 2 (l.map RowD.d)] (isR ((D.ls 2 RowD.d) (zk l))) := by
  refine zL Try.func9 rfl (N := 54) rfl rfl (fun C => ?_)
  refine JD.keep [0] [(0, .sh 2 (l.map RowD.d))] rfl ?_
  refine JD.bd 0 rfl (fun bd0 => ?_)
  have nl0 := zae bd0
  refine zh _ _ rfl rfl rfl (zc rfl (za rfl rfl (ze rfl) (zg rfl (zf (zh _ _ rfl rfl rfl (zc rfl (za rfl rfl (ze rfl) (zg rfl (zf (zh _ _ rfl rfl rfl (zh _ _ rfl rfl rfl (zc rfl (za rfl rfl (ze rfl) (zg rfl (zf (zy _ rfl rfl (z7 (fun (g : Nat × List RowD) => [(0, .sh 2 (l.map RowD.d)), (2, dZ), (4, dN g.1), (3, .sh 2 (g.2.map RowD.d))]) (fun (g : Nat × List RowD) => []) (fun (g : Nat × List RowD) => (g.1 ≤ l.length) ∧ (g.2 = zk (l.take g.1))) (fun (g : Nat × List RowD) => l.length - g.1) _ (0, []) rfl rfl ⟨sk rfl, sk rfl, sk rfl, sc rfl Cv.nil, trivial⟩ HSub.none ⟨Nat.zero_le _, rfl⟩ ?_)))))))))))))))))
  rintro ⟨i, out⟩ ⟨hil, hso⟩
  replace hil : i ≤ l.length := hil
  replace hso : out = zk (l.take i) := hso
  refine JD.keep [0, 2, 4, 3] [(0, .sh 2 (l.map RowD.d)), (2, dZ), (4, dN i), (3, .sh 2 (out.map RowD.d))] rfl (JD.norm [] rfl ?_)
  have htr := trs_take hli i
  rw [← hso] at htr
  have hol : out.length ≤ 2000 := by have := htr.len; rw [List.length_take] at this; omega
  refine zh _ _ rfl rfl rfl (zh _ _ rfl rfl rfl (zc rfl (za rfl rfl (zb rfl) (za rfl rfl (zb rfl) (za rfl rfl (zar (n := l.length) rfl Try.runUnderlying22 (by simp only [lm, lc, ln])) (za rfl rfl (zaa rfl rfl rfl) (zg rfl (zf ?_))))))))
  refine zu _ _ rfl rfl rfl rfl (fun hc1 => ?_) (fun hc1 => ?_)
  · replace hc1 := of_decide_eq_true hc1
    obtain ⟨x1, hx1⟩ := zV l i (by omega)
    refine zz rfl (zf (zh _ _ rfl rfl rfl (zy _ rfl rfl (zh _ _ rfl rfl rfl (zc rfl (za rfl rfl (zb rfl) (za rfl rfl (zb rfl) (za rfl rfl (zJ (k := i) rfl rfl Try.runUnderlying22 Try.sizeOf30 (by first | rfl | omega) (zw hx1)) (za rfl rfl (zU rfl zao rfl) (za rfl rfl (z0 rfl Try.isAgg27 rfl) (zl rfl rfl (zt [] _ [] rfl rfl (.cons ArgC.id .nil) zo Try.call20 (refTidy_c x1.ls (light_nz (hli x1 (zbb hx1)))) (.inl rfl)) ?_)))))))))))
    rintro _ _ ⟨_, ⟨v2, rfl, rfl⟩, rfl⟩
    refine OpsD.norm [.sl v2 2 33 ((zQ x1.ls).map Lbl.d)] rfl (za rfl rfl (zb rfl) (za rfl rfl (zF rfl rfl) (za rfl rfl (zF rfl rfl) (za rfl rfl (ze rfl) (za rfl rfl (ze rfl) (zg rfl (zf (zh _ _ rfl rfl rfl (zh _ _ rfl rfl rfl ?_)))))))))
    rcases Bool.eq_false_or_eq_true (zad x1.ls) with hg3 | hg3
    · skip
      refine JD.sub [(0, .sh 2 (l.map RowD.d)), (2, dZ), (3, .sh 2 (out.map RowD.d)), (4, dN i), (5, .ov v2), (6, dB true), (9, dN i), (10, .sh 2 (l.map RowD.d)), (11, dN l.length), (12, dB (decide (((i : Nat) : Int) < ((l.length : Nat) : Int)))), (15, .tup [.ov v2, dB (zad x1.ls)]), (16, .sh 2 (l.map RowD.d)), (17, dN i), (18, .el (RowD.d x1) 0), (19, .el (RowD.d x1) 0), (20, .sh 2 (x1.ls.map Lbl.d)), (21, .tup [.ov v2, dB (zad x1.ls)]), (22, .ov v2), (23, dB true)] ⟨sk rfl, sk rfl, sk rfl, sk rfl, sk rfl, se rfl (congrArg (fun b => D.v (.bool b)) (by simp [hg3])), sk rfl, sk rfl, sk rfl, sk rfl, sk rfl, sk rfl, sk rfl, sk rfl, sk rfl, sk rfl, sk rfl, sk rfl, se rfl (congrArg (fun b => D.v (.bool b)) (by simp [hg3])), trivial⟩ (zc rfl (za rfl rfl (zb rfl) (za rfl rfl (zag (q := true) rfl) (za rfl rfl (zb rfl) (zi rfl rfl rfl rfl rfl (zb rfl) (zi rfl rfl rfl rfl rfl (zb rfl) (zi rfl rfl rfl rfl rfl (zJ (k := i) rfl rfl Try.runUnderlying22 Try.sizeOf30 (by first | rfl | omega) (zw hx1)) (zi rfl rfl rfl rfl rfl (zU rfl zaE rfl) (zi rfl rfl rfl rfl rfl (z0 rfl Try.isAgg3 rfl) ?_)))))))))
      refine zaT rfl rfl rfl rfl rfl (zt [] _ [] rfl rfl (.cons ArgC.id .nil) zo Try.call21 (refValue_c x1.v) (.inl rfl)) ?_
      rintro _ _ ⟨_, ⟨rfl, rfl⟩, rfl⟩
      refine OpsD.norm [.sl v2 2 33 ((zQ x1.ls).map Lbl.d)] rfl (zi rfl rfl rfl rfl rfl (zag rfl) (za rfl rfl (zm rfl rfl) (zg rfl (zf ?_))))
      refine zu _ _ rfl rfl rfl rfl (fun hc4 => ?_) (fun hc4 => ?_)
      · simp only [Bool.and_eq_true, Bool.or_eq_true, Bool.not_eq_true', Bool.not_eq_false', Bool.and_eq_false_iff, Bool.or_eq_false_iff, decide_eq_true_eq, decide_eq_false_iff_not, Decidable.not_not, ne_eq] at hc4
        refine z3 rfl (zK (zE (zf (zc rfl (za rfl rfl (zb rfl) (za rfl rfl (z8 (c := ((i + 1 : Nat) : Int)) rfl rfl (zT (by omega) (by omega))) (za rfl rfl (ze rfl) (zg rfl ?_))))))))
        exact zS (i + 1, out) ⟨sk rfl, sk rfl, sk rfl, sk rfl, trivial⟩ HSub.none ⟨by show i + 1 ≤ l.length; omega, by show _ = zk (l.take (i + 1)); rw [tidyRs_snoc hx1, ← hso]; exact (trStep_no (.inr hc4)).symm⟩ (by omega)
      · simp only [Bool.and_eq_true, Bool.or_eq_true, Bool.not_eq_true', Bool.not_eq_false', Bool.and_eq_false_iff, Bool.or_eq_false_iff, decide_eq_true_eq, decide_eq_false_iff_not, Decidable.not_not, ne_eq] at hc4
        refine zz rfl (zf (zh _ _ rfl rfl rfl ?_))
        refine JD.mv (Mv.freeze (K' := [(0, .sh 2 (l.map RowD.d)), (2, dZ), (3, .sh 2 (out.map RowD.d)), (4, dN i), (5, .sh 2 ((zQ x1.ls).map Lbl.d)), (6, dB true), (9, dN i), (10, .sh 2 (l.map RowD.d)), (11, dN l.length), (12, dB (decide (((i : Nat) : Int) < ((l.length : Nat) : Int)))), (15, .tup [.sh 2 ((zQ x1.ls).map Lbl.d), dB (zad x1.ls)]), (16, .sh 2 (l.map RowD.d)), (17, dN i), (18, .el (RowD.d x1) 0), (19, .el (RowD.d x1) 0), (20, .sh 2 (x1.ls.map Lbl.d)), (21, .tup [.sh 2 ((zQ x1.ls).map Lbl.d), dB (zad x1.ls)]), (22, .sh 2 ((zQ x1.ls).map Lbl.d)), (23, dB true), (24, dB true), (25, dB false), (26, dB false), (27, .sh 2 (l.map RowD.d)), (28, dN i), (29, .el (RowD.d x1) 0), (30, .el (RowD.d x1) 1), (31, dI x1.v), (32, dB (valB x1.v)), (33, dB (!(valB x1.v))), (34, dB (!(valB x1.v)))]) [.sl v2 2 33 ((zQ x1.ls).map Lbl.d)] (H1 := []) (H1' := []) ⟨⟨_, rfl, ArgC.id⟩, ⟨_, rfl, ArgC.id⟩, ⟨_, rfl, ArgC.id⟩, ⟨_, rfl, ArgC.id⟩, ⟨_, rfl, ArgC.own (j := 0) rfl rfl⟩, ⟨_, rfl, ArgC.id⟩, ⟨_, rfl, ArgC.id⟩, ⟨_, rfl, ArgC.id⟩, ⟨_, rfl, ArgC.id⟩, ⟨_, rfl, ArgC.id⟩, ⟨_, rfl, ArgC.tup (.cons (ArgC.own (j := 0) rfl rfl) (.cons ArgC.id .nil))⟩, ⟨_, rfl, ArgC.id⟩, ⟨_, rfl, ArgC.id⟩, ⟨_, rfl, ArgC.id⟩, ⟨_, rfl, ArgC.id⟩, ⟨_, rfl, ArgC.id⟩, ⟨_, rfl, ArgC.tup (.cons (ArgC.own (j := 0) rfl rfl) (.cons ArgC.id .nil))⟩, ⟨_, rfl, ArgC.own (j := 0) rfl rfl⟩, ⟨_, rfl, ArgC.id⟩, ⟨_, rfl, ArgC.id⟩, ⟨_, rfl, ArgC.id⟩, ⟨_, rfl, ArgC.id⟩, ⟨_, rfl, ArgC.id⟩, ⟨_, rfl, ArgC.id⟩, ⟨_, rfl, ArgC.id⟩, ⟨_, rfl, ArgC.id⟩, ⟨_, rfl, ArgC.id⟩, ⟨_, rfl, ArgC.id⟩, ⟨_, rfl, ArgC.id⟩, ⟨_, rfl, ArgC.id⟩, trivial⟩ .nil) ?_
        refine JD.keep [0, 2, 3, 4, 5, 6, 9, 10, 11, 12, 15, 16, 17, 18, 19, 20, 21, 22, 23, 24, 25, 26, 27, 28, 29, 30, 31, 32, 33, 34] [(0, .sh 2 (l.map RowD.d)), (2, dZ), (3, .sh 2 (out.map RowD.d)), (4, dN i), (5, .sh 2 ((zQ x1.ls).map Lbl.d)), (6, dB true), (9, dN i), (10, .sh 2 (l.map RowD.d)), (11, dN l.length), (12, dB (decide (((i : Nat) : Int) < ((l.length : Nat) : Int)))), (15, .tup [.sh 2 ((zQ x1.ls).map Lbl.d), dB (zad x1.ls)]), (16, .sh 2 (l.map RowD.d)), (17, dN i), (18, .el (RowD.d x1) 0), (19, .el (RowD.d x1) 0), (20, .sh 2 (x1.ls.map Lbl.d)), (21, .tup [.sh 2 ((zQ x1.ls).map Lbl.d), dB (zad x1.ls)]), (22, .sh 2 ((zQ x1.ls).map Lbl.d)), (23, dB true), (24, dB true), (25, dB false), (26, dB false), (27, .sh 2 (l.map RowD.d)), (28, dN i), (29, .el (RowD.d x1) 0), (30, .el (RowD.d x1) 1), (31, dI x1.v), (32, dB (valB x1.v)), (33, dB (!(valB x1.v))), (34, dB (!(valB x1.v)))] rfl (JD.norm [] rfl ?_)
        refine zbC 16 [(36, .q (.sh 2 (out.map RowD.d))), (37, .o (fun γ => [.sl (γ 1) 2 30 (out.map RowD.d)])), (38, .q (.sh 2 ((zQ x1.ls).map Lbl.d))), (39, .q (.sh 2 (l.map RowD.d))), (40, .q (dN i)), (41, .q (.el (RowD.d x1) 0)), (42, .q (.el (RowD.d x1) 1)), (43, .q (dI x1.v)), (44, .q (.agg [.sh 2 ((zQ x1.ls).map Lbl.d), dI x1.v])), (45, .q (.sh 2 ([(RowD.mk (zQ x1.ls) x1.v)].map RowD.d))), (46, .o (fun γ => [.sl (γ 10) 2 30 ((out ++ [(RowD.mk (zQ x1.ls) x1.v)]).map RowD.d)])), (47, .e (.tup [.sh 2 ((rtL (out ++ [(RowD.mk (zQ x1.ls) x1.v)])).map RowD.d), dI (rtE (out ++ [(RowD.mk (zQ x1.ls) x1.v)]))]) (fun γ => [])), (35, .q (.tup [.sh 2 ((rtL (out ++ [(RowD.mk (zQ x1.ls) x1.v)])).map RowD.d), dI (rtE (out ++ [(RowD.mk (zQ x1.ls) x1.v)]))])), (48, .q (.sh 2 ((rtL (out ++ [(RowD.mk (zQ x1.ls) x1.v)])).map RowD.d))), (49, .q (dI (rtE (out ++ [(RowD.mk (zQ x1.ls) x1.v)])))), (7, .q (.sh 2 ((rtL (out ++ [(RowD.mk (zQ x1.ls) x1.v)])).map RowD.d)))] [] (Hn := fun γ => []) zaz rfl rfl (by kernel_rfl) (by kernel_rfl) (by kernel_rfl) HSub.rfl' (fun _ => rfl) (fun γ => ⟨so_p rfl rfl rfl (zb rfl), so_o rfl rfl rfl rfl ((zcm (f := RowD.d) (l' := out) rfl rfl (SrcD.sh) zbm za4 rfl rfl (by unfold maxLen; (try simp only [la, lc, ln, lm, lt', ld, ls, lr]); omega) (by (try simp only [la, lc, ln, lm, lt', ld, ls, lr]); omega)).mono (by rintro _ _ ⟨v, rfl, rfl⟩; exact ⟨v, rfl, rfl⟩)) (fun _ => HSub.lst 1 rfl), so_p rfl rfl rfl (zb rfl), so_p rfl rfl rfl (zb rfl), so_p rfl rfl rfl (zb rfl), so_p rfl rfl rfl (zJ (k := i) rfl rfl Try.runUnderlying22 Try.sizeOf30 (by first | rfl | omega) (zw hx1)), so_p rfl rfl rfl (zU rfl zaE rfl), so_p rfl rfl rfl (z0 rfl Try.isAgg3 rfl), so_p rfl rfl rfl (zdd [0, 1] [.tmp 38, .tmp 43] (zv := (.agg #[(.slice none 0 0), (.int .i64 0)])) rfl rfl (.cons CellD.sh (.cons (CellD.v rfl) .nil)) (Try.runUnderlying30) Try.zeroValue30 zdI ⟨rfl, rfl, trivial⟩ rfl), so_q rfl rfl rfl (zaY [.tmp 44] rfl rfl (.cons CellD.agg .nil) rfl Try.runUnderlying22 Try.sizeOf30 Try.zeroValue30 rfl rfl rfl rfl), so_o rfl rfl rfl rfl ((z4 (f := RowD.d) (l := out) (l' := [(RowD.mk (zQ x1.ls) x1.v)]) (i := 0) rfl rfl rfl (SrcD.sh) zbm za4 rfl rfl (by unfold maxLen; (try simp only [la, lc, ln, lm, lt', ld, ls, lr]); omega) (by (try simp only [la, lc, ln, lm, lt', ld, ls, lr]); omega)).mono (by rintro _ _ ⟨v, rfl, rfl⟩; exact ⟨v, rfl, rfl⟩)) (fun _ => HSub.lst 1 rfl), so_e rfl rfl rfl rfl (Ef.fz (Hr := []) (d := .tup [.sh 2 ((rtL (out ++ [(RowD.mk (zQ x1.ls) x1.v)])).map RowD.d), dI (rtE (out ++ [(RowD.mk (zQ x1.ls) x1.v)]))]) (Ef.mv (Mvk.freeze (K' := [(46, .sh 2 ((out ++ [(RowD.mk (zQ x1.ls) x1.v)]).map RowD.d))]) [.sl (γ 10) 2 30 ((out ++ [(RowD.mk (zQ x1.ls) x1.v)]).map RowD.d)] (H1 := []) (H1' := []) ⟨⟨_, rfl, ArgC.own (j := 0) rfl rfl⟩, trivial⟩ .nil) (zt [] [] [] rfl rfl (.cons ArgC.id .nil) zo Try.call22 (refTidyR_c (out ++ [(RowD.mk (zQ x1.ls) x1.v)]) (by first | omega | (simp only [la, List.length_singleton]; omega)) (by intro r hr; rcases List.mem_append.1 hr with e | e; (exact htr.li r e); (rw [List.mem_singleton.1 e]; exact tidyL_light (hli x1 (zbb hx1))))) (.inl rfl))) (by rintro _ _ ⟨_, ⟨v, rfl, rfl⟩, rfl⟩; exact ⟨[.sl v 2 30 ((rtL (out ++ [(RowD.mk (zQ x1.ls) x1.v)])).map RowD.d)], rfl, ArgC.tup (.cons (ArgC.own (j := 0) rfl rfl) (.cons ArgC.id .nil))⟩)) HSub.rfl', so_p rfl rfl rfl (zb rfl), so_p rfl rfl rfl (zF rfl rfl), so_p rfl rfl rfl (zF rfl rfl), so_p rfl rfl rfl (ze rfl), trivial⟩) (fun γ => ?_)
        refine OpsD.keep [0, 2, 3, 4, 5, 6, 7, 9, 10, 11, 12, 15, 16, 17, 18, 19, 20, 21, 22, 23, 24, 25, 26, 27, 28, 29, 30, 31, 32, 33, 34, 35, 36, 37, 38, 39, 40, 41, 42, 43, 44, 45, 46, 47, 48, 49] [(0, .sh 2 (l.map RowD.d)), (2, dZ), (3, .sh 2 (out.map RowD.d)), (4, dN i), (5, .sh 2 ((zQ x1.ls).map Lbl.d)), (6, dB true), (7, .sh 2 ((rtL (out ++ [(RowD.mk (zQ x1.ls) x1.v)])).map RowD.d)), (9, dN i), (10, .sh 2 (l.map RowD.d)), (11, dN l.length), (12, dB (decide (((i : Nat) : Int) < ((l.length : Nat) : Int)))), (15, .tup [.sh 2 ((zQ x1.ls).map Lbl.d), dB (zad x1.ls)]), (16, .sh 2 (l.map RowD.d)), (17, dN i), (18, .el (RowD.d x1) 0), (19, .el (RowD.d x1) 0), (20, .sh 2 (x1.ls.map Lbl.d)), (21, .tup [.sh 2 ((zQ x1.ls).map Lbl.d), dB (zad x1.ls)]), (22, .sh 2 ((zQ x1.ls).map Lbl.d)), (23, dB true), (24, dB true), (25, dB false), (26, dB false), (27, .sh 2 (l.map RowD.d)), (28, dN i), (29, .el (RowD.d x1) 0), (30, .el (RowD.d x1) 1), (31, dI x1.v), (32, dB (valB x1.v)), (33, dB (!(valB x1.v))), (34, dB (!(valB x1.v))), (35, .tup [.sh 2 ((rtL (out ++ [(RowD.mk (zQ x1.ls) x1.v)])).map RowD.d), dI (rtE (out ++ [(RowD.mk (zQ x1.ls) x1.v)]))]), (36, .sh 2 (out.map RowD.d)), (37, .ov (γ 1)), (38, .sh 2 ((zQ x1.ls).map Lbl.d)), (39, .sh 2 (l.map RowD.d)), (40, dN i), (41, .el (RowD.d x1) 0), (42, .el (RowD.d x1) 1), (43, dI x1.v), (44, .agg [.sh 2 ((zQ x1.ls).map Lbl.d), dI x1.v]), (45, .sh 2 ([(RowD.mk (zQ x1.ls) x1.v)].map RowD.d)), (46, .ov (γ 10)), (47, .tup [.sh 2 ((rtL (out ++ [(RowD.mk (zQ x1.ls) x1.v)])).map RowD.d), dI (rtE (out ++ [(RowD.mk (zQ x1.ls) x1.v)]))]), (48, .sh 2 ((rtL (out ++ [(RowD.mk (zQ x1.ls) x1.v)])).map RowD.d)), (49, dI (rtE (out ++ [(RowD.mk (zQ x1.ls) x1.v)])))] rfl ?_
        refine za rfl rfl (ze rfl) (zg rfl (zf (zh _ _ rfl rfl rfl (zc rfl (za rfl rfl (zb rfl) (za rfl rfl (zY rfl rfl rfl) (zg rfl (zf ?_))))))))
        refine zu _ _ rfl rfl rfl rfl (fun hc5 => ?_) (fun hc5 => ?_)
        · replace hc5 := of_decide_eq_true hc5
          refine zc rfl (za rfl rfl (zb rfl) (za rfl rfl (ze rfl) (zg rfl (zD (zf (zc rfl (za rfl rfl (zb rfl) (za rfl rfl (z8 (c := ((i + 1 : Nat) : Int)) rfl rfl (zT (by omega) (by omega))) (za rfl rfl (ze rfl) (zg rfl ?_))))))))))
          exact zS (i + 1, (rtL (out ++ [(RowD.mk (zQ x1.ls) x1.v)]))) ⟨sk rfl, sk rfl, sk rfl, sk rfl, trivial⟩ HSub.none ⟨by show i + 1 ≤ l.length; omega, by show _ = zk (l.take (i + 1)); rw [tidyRs_snoc hx1, ← hso]; exact (trStep_t hg3 hc4 hc5).symm⟩ (by omega)
        · replace hc5 := of_decide_eq_false hc5
          refine zz rfl (zD (zf (zc rfl (za rfl rfl (zb rfl) (za rfl rfl (z8 (c := ((i + 1 : Nat) : Int)) rfl rfl (zT (by omega) (by omega))) (za rfl rfl (ze rfl) (zg rfl ?_)))))))
          exact zS (i + 1, out) ⟨sk rfl, sk rfl, sk rfl, sk rfl, trivial⟩ HSub.none ⟨by show i + 1 ≤ l.length; omega, by show _ = zk (l.take (i + 1)); rw [tidyRs_snoc hx1, ← hso]; exact (trStep_f hc5).symm⟩ (by omega)
    · skip
      refine JD.sub [(0, .sh 2 (l.map RowD.d)), (2, dZ), (3, .sh 2 (out.map RowD.d)), (4, dN i), (5, .ov v2), (6, dB false), (9, dN i), (10, .sh 2 (l.map RowD.d)), (11, dN l.length), (12, dB (decide (((i : Nat) : Int) < ((l.length : Nat) : Int)))), (15, .tup [.ov v2, dB (zad x1.ls)]), (16, .sh 2 (l.map RowD.d)), (17, dN i), (18, .el (RowD.d x1) 0), (19, .el (RowD.d x1) 0), (20, .sh 2 (x1.ls.map Lbl.d)), (21, .tup [.ov v2, dB (zad x1.ls)]), (22, .ov v2), (23, dB false)] ⟨sk rfl, sk rfl, sk rfl, sk rfl, sk rfl, se rfl (congrArg (fun b => D.v (.bool b)) (by simp [hg3])), sk rfl, sk rfl, sk rfl, sk rfl, sk rfl, sk rfl, sk rfl, sk rfl, sk rfl, sk rfl, sk rfl, sk rfl, se rfl (congrArg (fun b => D.v (.bool b)) (by simp [hg3])), trivial⟩ (zc rfl (za rfl rfl (zb rfl) (za rfl rfl (zag (q := false) rfl) (za rfl rfl (zb rfl) (zj rfl rfl rfl rfl rfl (by decide) (zj rfl rfl rfl rfl rfl (by decide) (zj rfl rfl rfl rfl rfl (by decide) (zj rfl rfl rfl rfl rfl (by decide) (zj rfl rfl rfl rfl rfl (by decide) (zj rfl rfl rfl rfl rfl (by decide) (zj rfl rfl rfl rfl rfl (by decide) (za rfl rfl (zr rfl rfl) (zg rfl (zf ?_))))))))))))))
      refine zau _ rfl rfl rfl (z3 rfl (zK (zE (zf (zc rfl (za rfl rfl (zb rfl) (za rfl rfl (z8 (c := ((i + 1 : Nat) : Int)) rfl rfl (zT (by omega) (by omega))) (za rfl rfl (ze rfl) (zg rfl ?_)))))))))
      exact zS (i + 1, out) ⟨sk rfl, sk rfl, sk rfl, sk rfl, trivial⟩ HSub.none ⟨by show i + 1 ≤ l.length; omega, by show _ = zk (l.take (i + 1)); rw [tidyRs_snoc hx1, ← hso]; exact (trStep_no (.inl hg3)).symm⟩ (by omega)
  · replace hc1 := of_decide_eq_false hc1
    refine z3 rfl (zK (zI (zE (zf (zh _ _ rfl rfl rfl (zc rfl (za rfl rfl (zb rfl) (za rfl rfl (ze rfl) (zg rfl (zf (zB rfl ?_)))))))))))
    exact zx Try.results9 (.cons (zM (zs rfl) (Cv.eq (congrArg (D.ls 2 RowD.d) (show out = zk l from (by rw [hso, List.take_of_length_le (by omega)]))))) .nil) rfl HSub.none ⟨rfl, rfl⟩
end Lp
/- Walks, printed by a program of mine. -/
set_option linter.unusedSimpArgs false
set_option linter.unusedVariables false
namespace Lp
open Go Go.RowKit Go.Proofs

namespace HdYtfjinapgehafiaaV2
theorem zao (b o : Nat) : ∀ w, (Instr.fieldAt 30 (.pointer (some ⟨b, o, none⟩)) 0).run Try.prog w = .ok (.pointer (some ⟨b, o + 0, none⟩)) w := fun _ => by kernel_rfl
theorem zaE (b o : Nat) : ∀ w, (Instr.fieldAt 30 (.pointer (some ⟨b, o, none⟩)) 1).run Try.prog w = .ok (.pointer (some ⟨b, o + 1, none⟩)) w := fun _ => by kernel_rfl
theorem zav (b o : Nat) : ∀ w, (Instr.fieldAt 33 (.pointer (some ⟨b, o, none⟩)) 0).run Try.prog w = .ok (.pointer (some ⟨b, o + 0, none⟩)) w := fun _ => by kernel_rfl
theorem zaZ (b o : Nat) : ∀ w, (Instr.fieldAt 33 (.pointer (some ⟨b, o, none⟩)) 1).run Try.prog w = .ok (.pointer (some ⟨b, o + 1, none⟩)) w := fun _ => by kernel_rfl
end HdYtfjinapgehafiaaV2
open HdYtfjinapgehafiaaV2

theorem p_eqlbl_eql {ty t' : TypeId} {K : Kd} {H : List Hp} {x y : Operand} {a b : Lbl} {q : Bool} (hx : opD K x = some (Lbl.d a)) (hy : opD K y = some (Lbl.d b)) (hq : decide (a = b) = q) : Pu Try.prog (.binOp .eql 33 x y t') ty K H (dB q) :=
  ⟨fun ρ w F hk _ _ => by
    obtain ⟨vs, e, u1, r1, rfl, _, ⟨rfl, _⟩, u2, r2, rfl, _, ⟨rfl, _⟩, rfl⟩ := hk.op hx
    obtain ⟨vs', e', u3, r3, rfl, _, ⟨rfl, _⟩, u4, r4, rfl, _, ⟨rfl, _⟩, rfl⟩ := hk.op hy
    refine zb6 (r := .bool q) (zW ρ [x, y]) (zbw ρ e) (zbv ρ e') (fun w => ?_) ⟨rfl, rfl⟩
    subst hq
    obtain ⟨a1, a2⟩ := a
    obtain ⟨b1, b2⟩ := b
    simp [go_sem, toList_beq]
    by_cases h1 : a1 = b1 <;> by_cases h2 : a2 = b2 <;> simp [h1, h2]⟩

theorem row_eq {a b : RowD} (h : a.v = b.v ∧ a.ls = b.ls) : a = b := by
  obtain ⟨p, q⟩ := a
  obtain ⟨r, s⟩ := b
  obtain ⟨h1, h2⟩ := h
  simp at h1 h2; simp [h1, h2]
theorem row_ne {a b : RowD} (h : ¬ (a.v = b.v ∧ a.ls = b.ls)) : a ≠ b := by rintro rfl; exact h ⟨rfl, rfl⟩

set_option maxHeartbeats 4000000 in
set_option maxRecDepth 100000 in
theorem SameLabels_c (a : List Lbl) (b : List Lbl)  :
    CD Try.prog 14 [] [.sh 2 (a.map Lbl.d), .sh 2 (b.map Lbl.d)] (isR (dB (decide (a = b)))) := by
  refine zL Try.func14 rfl (N := 27) rfl rfl (fun C => ?_)
  refine JD.keep [0, 1] [(0, .sh 2 (a.map Lbl.d)), (1, .sh 2 (b.map Lbl.d))] rfl ?_
  refine JD.bd 0 rfl (fun bd0 => ?_)
  have nl0 := zae bd0
  refine JD.bd 1 rfl (fun bd1 => ?_)
  have nl1 := zae bd1
  refine zh _ _ rfl rfl rfl (zc rfl (za rfl rfl (ze rfl) (zg rfl (zf (zh _ _ rfl rfl rfl (zh _ _ rfl rfl rfl (zc rfl (za rfl rfl (zb rfl) (za rfl rfl (zar (n := a.length) rfl Try.runUnderlying27 (by simp only [lm, lc, ln])) (za rfl rfl (zb rfl) (za rfl rfl (zar (n := b.length) rfl Try.runUnderlying27 (by simp only [lm, lc, ln])) (za rfl rfl (zbh rfl rfl rfl) (zg rfl (zf ?_))))))))))))))
  refine zu _ _ rfl rfl rfl rfl (fun hc1 => ?_) (fun hc1 => ?_)
  · replace hc1 := of_decide_eq_true hc1
    refine zh _ _ rfl rfl rfl (zc rfl (za rfl rfl (ze rfl) (zg rfl (zf (zB rfl (zp ?_))))))
    exact zx Try.results14 (.cons (zM (zs rfl) (Cv.eq (congrArg (fun b => D.v (.bool b)) (by first | exact (zbT (by omega)).symm | exact (zcS (by omega) (by omega) hf).symm)))) .nil) rfl HSub.none ⟨rfl, rfl⟩
  · replace hc1 := of_decide_eq_false hc1
    refine zz rfl (zf (zh _ _ rfl rfl rfl (zh _ _ rfl rfl rfl (zc rfl (za rfl rfl (ze rfl) (zg rfl (zf (zy _ rfl rfl (z7 (fun (g : Nat) => [(0, .sh 2 (a.map Lbl.d)), (1, .sh 2 (b.map Lbl.d)), (5, dN g)]) (fun (g : Nat) => []) (fun (g : Nat) => (g ≤ a.length) ∧ (a.take g = b.take g)) (fun (g : Nat) => a.length - g) _ 0 rfl rfl ⟨sk rfl, sk rfl, sk rfl, trivial⟩ HSub.rfl' ⟨Nat.zero_le _, by simp⟩ ?_)))))))))
    rintro k ⟨hk, hf⟩
    refine JD.keep [0, 1, 5] [(0, .sh 2 (a.map Lbl.d)), (1, .sh 2 (b.map Lbl.d)), (5, dN k)] rfl (JD.norm [] rfl (zh _ _ rfl rfl rfl (zh _ _ rfl rfl rfl (zc rfl (za rfl rfl (zb rfl) (za rfl rfl (zb rfl) (za rfl rfl (zar (n := a.length) rfl Try.runUnderlying27 (by simp only [lm, lc, ln])) (za rfl rfl (zaa rfl rfl rfl) (zg rfl (zf ?_))))))))))
    refine zu _ _ rfl rfl rfl rfl (fun hc2 => ?_) (fun hc2 => ?_)
    · replace hc2 := of_decide_eq_true hc2
      refine zz rfl (zf (zh _ _ rfl rfl rfl (zy _ rfl rfl (zh _ _ rfl rfl rfl (JD.keep [0, 1, 5, 11, 12, 13, 14] [(0, .sh 2 (a.map Lbl.d)), (1, .sh 2 (b.map Lbl.d)), (5, dN k), (11, dN k), (12, .sh 2 (a.map Lbl.d)), (13, dN a.length), (14, dB (decide (((k : Nat) : Int) < ((a.length : Nat) : Int))))] rfl (JD.norm [] rfl ?_))))))
      obtain ⟨x1, hx1⟩ := zV a k (by omega)
      obtain ⟨x2, hx2⟩ := zV b k (by omega)
      refine zai 8 [(17, .sh 2 (a.map Lbl.d), none), (18, dN k, none), (19, .el (Lbl.d x1) 0, none), (20, Lbl.d x1, none), (21, .sh 2 (b.map Lbl.d), none), (22, dN k, none), (23, .el (Lbl.d x2) 0, none), (24, Lbl.d x2, none)] [] (Hn := []) zaz rfl rfl rfl rfl HSub.rfl' rfl ⟨sa_p rfl rfl rfl (zb rfl), sa_p rfl rfl rfl (zb rfl), sa_p rfl rfl rfl (zJ (k := k) rfl rfl Try.runUnderlying27 Try.sizeOf33 (by first | rfl | omega) (zw hx1)), sa_p rfl rfl rfl (zaL (d := Lbl.d x1) rfl Try.isAgg33 Try.sizeOf33 rfl rfl), sa_p rfl rfl rfl (zb rfl), sa_p rfl rfl rfl (zb rfl), sa_p rfl rfl rfl (zJ (k := k) rfl rfl Try.runUnderlying27 Try.sizeOf33 (by first | rfl | omega) (zw hx2)), sa_p rfl rfl rfl (zaL (d := Lbl.d x2) rfl Try.isAgg33 Try.sizeOf33 rfl rfl), trivial⟩ ?_
      refine OpsD.keep [0, 1, 5, 11, 12, 13, 14, 17, 18, 19, 20, 21, 22, 23, 24] [(0, .sh 2 (a.map Lbl.d)), (1, .sh 2 (b.map Lbl.d)), (5, dN k), (11, dN k), (12, .sh 2 (a.map Lbl.d)), (13, dN a.length), (14, dB (decide (((k : Nat) : Int) < ((a.length : Nat) : Int)))), (17, .sh 2 (a.map Lbl.d)), (18, dN k), (19, .el (Lbl.d x1) 0), (20, Lbl.d x1), (21, .sh 2 (b.map Lbl.d)), (22, dN k), (23, .el (Lbl.d x2) 0), (24, Lbl.d x2)] rfl (za rfl rfl (p_eqlbl_eql rfl rfl rfl) (za rfl rfl (zag rfl) (zg rfl (zf ?_))))
      refine zu _ _ rfl rfl rfl rfl (fun hc3 => ?_) (fun hc3 => ?_)
      · replace hc3 := of_decide_eq_false (p := x1 = x2) (by simpa using hc3)
        refine zh _ _ rfl rfl rfl (zc rfl (za rfl rfl (ze rfl) (zg rfl (zf (zB rfl (zn (zp (zZ (zn (zp ?_))))))))))
        exact zx Try.results14 (.cons (zM (zs rfl) (Cv.eq (congrArg (fun b => D.v (.bool b)) (by first | exact (zbT (by omega)).symm | exact (same_ne_at hx1 hx2 (by simpa using hc3)).symm | exact (zcS (by omega) (by omega) hf).symm)))) .nil) rfl HSub.none ⟨rfl, rfl⟩
      · replace hc3 := of_decide_eq_true (p := x1 = x2) (by simpa using hc3)
        refine zz rfl (zD (zf (zc rfl (za rfl rfl (zb rfl) (za rfl rfl (z8 (c := ((k + 1 : Nat) : Int)) rfl rfl (zT (by omega) (by omega))) (za rfl rfl (ze rfl) (zg rfl ?_)))))))
        exact zS (k + 1) ⟨sk rfl, sk rfl, sk rfl, trivial⟩ HSub.rfl' ⟨by omega, same_snoc hx1 hx2 hf (by simpa using hc3)⟩ (by omega)
    · replace hc2 := of_decide_eq_false hc2
      refine z3 rfl (zK (zI (zE (zf (zh _ _ rfl rfl rfl (zc rfl (za rfl rfl (ze rfl) (zg rfl (zf (zB rfl ?_))))))))))
      exact zx Try.results14 (.cons (zM (zs rfl) (Cv.eq (congrArg (fun b => D.v (.bool b)) (by first | exact (zbT (by omega)).symm | exact (zcS (by omega) (by omega) hf).symm)))) .nil) rfl HSub.none ⟨rfl, rfl⟩

set_option maxHeartbeats 4000000 in
set_option maxRecDepth 100000 in
theorem SameRows_c (a : List RowD) (b : List RowD)  :
    CD Try.prog 13 [] [.sh 2 (a.map RowD.d), .sh 2 (b.map RowD.d)] (isR (dB (decide (a = b)))) := by
  refine zL Try.func13 rfl (N := 42) rfl rfl (fun C => ?_)
  refine JD.keep [0, 1] [(0, .sh 2 (a.map RowD.d)), (1, .sh 2 (b.map RowD.d))] rfl ?_
  refine JD.bd 0 rfl (fun bd0 => ?_)
  have nl0 := zae bd0
  refine JD.bd 1 rfl (fun bd1 => ?_)
  have nl1 := zae bd1
  refine zh _ _ rfl rfl rfl (zc rfl (za rfl rfl (ze rfl) (zg rfl (zf (zh _ _ rfl rfl rfl (zh _ _ rfl rfl rfl (zc rfl (za rfl rfl (zb rfl) (za rfl rfl (zar (n := a.length) rfl Try.runUnderlying22 (by simp only [lm, lc, ln])) (za rfl rfl (zb rfl) (za rfl rfl (zar (n := b.length) rfl Try.runUnderlying22 (by simp only [lm, lc, ln])) (za rfl rfl (zbh rfl rfl rfl) (zg rfl (zf ?_))))))))))))))
  refine zu _ _ rfl rfl rfl rfl (fun hc1 => ?_) (fun hc1 => ?_)
  · replace hc1 := of_decide_eq_true hc1
    refine zh _ _ rfl rfl rfl (zc rfl (za rfl rfl (ze rfl) (zg rfl (zf (zB rfl (zp ?_))))))
    exact zx Try.results13 (.cons (zM (zs rfl) (Cv.eq (congrArg (fun b => D.v (.bool b)) (by first | exact (zbT (by omega)).symm | exact (zcS (by omega) (by omega) hf).symm)))) .nil) rfl HSub.none ⟨rfl, rfl⟩
  · replace hc1 := of_decide_eq_false hc1
    refine zz rfl (zf (zh _ _ rfl rfl rfl (zh _ _ rfl rfl rfl (zc rfl (za rfl rfl (ze rfl) (zg rfl (zf (zy _ rfl rfl (z7 (fun (g : Nat) => [(0, .sh 2 (a.map RowD.d)), (1, .sh 2 (b.map RowD.d)), (5, dN g)]) (fun (g : Nat) => []) (fun (g : Nat) => (g ≤ a.length) ∧ (a.take g = b.take g)) (fun (g : Nat) => a.length - g) _ 0 rfl rfl ⟨sk rfl, sk rfl, sk rfl, trivial⟩ HSub.rfl' ⟨Nat.zero_le _, by simp⟩ ?_)))))))))
    rintro k ⟨hk, hf⟩
    refine JD.keep [0, 1, 5] [(0, .sh 2 (a.map RowD.d)), (1, .sh 2 (b.map RowD.d)), (5, dN k)] rfl (JD.norm [] rfl (zh _ _ rfl rfl rfl (zh _ _ rfl rfl rfl (zc rfl (za rfl rfl (zb rfl) (za rfl rfl (zb rfl) (za rfl rfl (zar (n := a.length) rfl Try.runUnderlying22 (by simp only [lm, lc, ln])) (za rfl rfl (zaa rfl rfl rfl) (zg rfl (zf ?_))))))))))
    refine zu _ _ rfl rfl rfl rfl (fun hc2 => ?_) (fun hc2 => ?_)
    · replace hc2 := of_decide_eq_true hc2
      refine zz rfl (zf (zh _ _ rfl rfl rfl (zy _ rfl rfl (zh _ _ rfl rfl rfl ?_))))
      obtain ⟨x1, hx1⟩ := zV a k (by omega)
      obtain ⟨x2, hx2⟩ := zV b k (by omega)
      refine JD.keep [0, 1, 5, 11, 12, 13, 14] [(0, .sh 2 (a.map RowD.d)), (1, .sh 2 (b.map RowD.d)), (5, dN k), (11, dN k), (12, .sh 2 (a.map RowD.d)), (13, dN a.length), (14, dB (decide (((k : Nat) : Int) < ((a.length : Nat) : Int))))] rfl ?_
      refine zaj 41 (!((decide (x1.v = x2.v) && decide (x1.ls = x2.ls)))) [] (fun _ hQ3 => ?_) ?_
      · skip
        by_cases hg4 : x1.v = x2.v
        · skip
          refine JD.keep [0, 1, 5, 11, 12, 13, 14] [(0, .sh 2 (a.map RowD.d)), (1, .sh 2 (b.map RowD.d)), (5, dN k), (11, dN k), (12, .sh 2 (a.map RowD.d)), (13, dN a.length), (14, dB (decide (((k : Nat) : Int) < ((a.length : Nat) : Int))))] rfl (JD.norm [] rfl ?_)
          refine zai 22 [(17, .sh 2 (a.map RowD.d), none), (18, dN k, none), (19, .el (RowD.d x1) 0, none), (20, .el (RowD.d x1) 1, none), (21, dI x1.v, none), (22, .sh 2 (b.map RowD.d), none), (23, dN k, none), (24, .el (RowD.d x2) 0, none), (25, .el (RowD.d x2) 1, none), (26, dI x2.v, none), (27, dB true, none), (28, dB true, none), (29, .sh 2 (a.map RowD.d), none), (30, dN k, none), (31, .el (RowD.d x1) 0, none), (32, .el (RowD.d x1) 0, none), (33, .sh 2 (x1.ls.map Lbl.d), none), (34, .sh 2 (b.map RowD.d), none), (35, dN k, none), (36, .el (RowD.d x2) 0, none), (37, .el (RowD.d x2) 0, none), (38, .sh 2 (x2.ls.map Lbl.d), none)] [] (Hn := []) zaz rfl rfl rfl rfl HSub.rfl' rfl ⟨sa_p rfl rfl rfl (zb rfl), sa_p rfl rfl rfl (zb rfl), sa_p rfl rfl rfl (zJ (k := k) rfl rfl Try.runUnderlying22 Try.sizeOf30 (by first | rfl | omega) (zw hx1)), sa_p rfl rfl rfl (zU rfl zaE rfl), sa_p rfl rfl rfl (z0 rfl Try.isAgg3 rfl), sa_p rfl rfl rfl (zb rfl), sa_p rfl rfl rfl (zb rfl), sa_p rfl rfl rfl (zJ (k := k) rfl rfl Try.runUnderlying22 Try.sizeOf30 (by first | rfl | omega) (zw hx2)), sa_p rfl rfl rfl (zU rfl zaE rfl), sa_p rfl rfl rfl (z0 rfl Try.isAgg3 rfl), sa_p rfl rfl rfl (zY rfl rfl (decide_eq_true hg4)), sa_p rfl rfl rfl (zb rfl), zX rfl rfl rfl rfl rfl rfl (zb rfl).qu, zX rfl rfl rfl rfl rfl rfl (zb rfl).qu, zX rfl rfl rfl rfl rfl rfl (zJ (k := k) rfl rfl Try.runUnderlying22 Try.sizeOf30 (by first | rfl | omega) (zw hx1)).qu, zX rfl rfl rfl rfl rfl rfl (zU rfl zao rfl).qu, zX rfl rfl rfl rfl rfl rfl (z0 rfl Try.isAgg27 rfl).qu, zX rfl rfl rfl rfl rfl rfl (zb rfl).qu, zX rfl rfl rfl rfl rfl rfl (zb rfl).qu, zX rfl rfl rfl rfl rfl rfl (zJ (k := k) rfl rfl Try.runUnderlying22 Try.sizeOf30 (by first | rfl | omega) (zw hx2)).qu, zX rfl rfl rfl rfl rfl rfl (zU rfl zao rfl).qu, zX rfl rfl rfl rfl rfl rfl (z0 rfl Try.isAgg27 rfl).qu, trivial⟩ ?_
          refine OpsD.keep [0, 1, 5, 11, 12, 13, 14, 17, 18, 19, 20, 21, 22, 23, 24, 25, 26, 27, 28, 29, 30, 31, 32, 33, 34, 35, 36, 37, 38] [(0, .sh 2 (a.map RowD.d)), (1, .sh 2 (b.map RowD.d)), (5, dN k), (11, dN k), (12, .sh 2 (a.map RowD.d)), (13, dN a.length), (14, dB (decide (((k : Nat) : Int) < ((a.length : Nat) : Int)))), (17, .sh 2 (a.map RowD.d)), (18, dN k), (19, .el (RowD.d x1) 0), (20, .el (RowD.d x1) 1), (21, dI x1.v), (22, .sh 2 (b.map RowD.d)), (23, dN k), (24, .el (RowD.d x2) 0), (25, .el (RowD.d x2) 1), (26, dI x2.v), (27, dB true), (28, dB true), (29, .sh 2 (a.map RowD.d)), (30, dN k), (31, .el (RowD.d x1) 0), (32, .el (RowD.d x1) 0), (33, .sh 2 (x1.ls.map Lbl.d)), (34, .sh 2 (b.map RowD.d)), (35, dN k), (36, .el (RowD.d x2) 0), (37, .el (RowD.d x2) 0), (38, .sh 2 (x2.ls.map Lbl.d))] rfl (zaT rfl rfl rfl rfl rfl (zt [] _ [] rfl rfl (.cons ArgC.id (.cons ArgC.id .nil)) zo Try.call14 (SameLabels_c x1.ls x2.ls) (.inl rfl)) ?_)
          rintro _ _ ⟨_, ⟨rfl, rfl⟩, rfl⟩
          refine OpsD.norm [] rfl (za rfl rfl (zr rfl rfl) (za rfl rfl (zag rfl) (zg rfl ?_)))
          exact PD.sub ((41, dB (!((decide (x1.v = x2.v) && decide (x1.ls = x2.ls))))) :: [(0, .sh 2 (a.map RowD.d)), (1, .sh 2 (b.map RowD.d)), (5, dN k), (11, dN k), (12, .sh 2 (a.map RowD.d)), (13, dN a.length), (14, dB (decide (((k : Nat) : Int) < ((a.length : Nat) : Int))))]) ⟨sc rfl (Cv.eq (congrArg (fun b => D.v (.bool b)) (by first | (simp [hc2, hg4]; done) | (simp_all; done)))), sk rfl, sk rfl, sk rfl, sk rfl, sk rfl, sk rfl, sk rfl, trivial⟩ hQ3
        · skip
          refine JD.keep [0, 1, 5, 11, 12, 13, 14] [(0, .sh 2 (a.map RowD.d)), (1, .sh 2 (b.map RowD.d)), (5, dN k), (11, dN k), (12, .sh 2 (a.map RowD.d)), (13, dN a.length), (14, dB (decide (((k : Nat) : Int) < ((a.length : Nat) : Int))))] rfl (JD.norm [] rfl ?_)
          refine zai 22 [(17, .sh 2 (a.map RowD.d), none), (18, dN k, none), (19, .el (RowD.d x1) 0, none), (20, .el (RowD.d x1) 1, none), (21, dI x1.v, none), (22, .sh 2 (b.map RowD.d), none), (23, dN k, none), (24, .el (RowD.d x2) 0, none), (25, .el (RowD.d x2) 1, none), (26, dI x2.v, none), (27, dB false, none), (28, dB false, none), (29, .v undef, none), (30, .v undef, none), (31, .v undef, none), (32, .v undef, none), (33, .v undef, none), (34, .v undef, none), (35, .v undef, none), (36, .v undef, none), (37, .v undef, none), (38, .v undef, none)] [] (Hn := []) zaz rfl rfl rfl rfl HSub.rfl' rfl ⟨sa_p rfl rfl rfl (zb rfl), sa_p rfl rfl rfl (zb rfl), sa_p rfl rfl rfl (zJ (k := k) rfl rfl Try.runUnderlying22 Try.sizeOf30 (by first | rfl | omega) (zw hx1)), sa_p rfl rfl rfl (zU rfl zaE rfl), sa_p rfl rfl rfl (z0 rfl Try.isAgg3 rfl), sa_p rfl rfl rfl (zb rfl), sa_p rfl rfl rfl (zb rfl), sa_p rfl rfl rfl (zJ (k := k) rfl rfl Try.runUnderlying22 Try.sizeOf30 (by first | rfl | omega) (zw hx2)), sa_p rfl rfl rfl (zU rfl zaE rfl), sa_p rfl rfl rfl (z0 rfl Try.isAgg3 rfl), sa_p rfl rfl rfl (zY rfl rfl (decide_eq_false hg4)), sa_p rfl rfl rfl (zb rfl), sa_s rfl rfl rfl rfl rfl rfl (by decide), sa_s rfl rfl rfl rfl rfl rfl (by decide), sa_s rfl rfl rfl rfl rfl rfl (by decide), sa_s rfl rfl rfl rfl rfl rfl (by decide), sa_s rfl rfl rfl rfl rfl rfl (by decide), sa_s rfl rfl rfl rfl rfl rfl (by decide), sa_s rfl rfl rfl rfl rfl rfl (by decide), sa_s rfl rfl rfl rfl rfl rfl (by decide), sa_s rfl rfl rfl rfl rfl rfl (by decide), sa_s rfl rfl rfl rfl rfl rfl (by decide), trivial⟩ ?_
          refine OpsD.keep [0, 1, 5, 11, 12, 13, 14, 17, 18, 19, 20, 21, 22, 23, 24, 25, 26, 27, 28, 29, 30, 31, 32, 33, 34, 35, 36, 37, 38] [(0, .sh 2 (a.map RowD.d)), (1, .sh 2 (b.map RowD.d)), (5, dN k), (11, dN k), (12, .sh 2 (a.map RowD.d)), (13, dN a.length), (14, dB (decide (((k : Nat) : Int) < ((a.length : Nat) : Int)))), (17, .sh 2 (a.map RowD.d)), (18, dN k), (19, .el (RowD.d x1) 0), (20, .el (RowD.d x1) 1), (21, dI x1.v), (22, .sh 2 (b.map RowD.d)), (23, dN k), (24, .el (RowD.d x2) 0), (25, .el (RowD.d x2) 1), (26, dI x2.v), (27, dB false), (28, dB false), (29, .v undef), (30, .v undef), (31, .v undef), (32, .v undef), (33, .v undef), (34, .v undef), (35, .v undef), (36, .v undef), (37, .v undef), (38, .v undef)] rfl (zj rfl rfl rfl rfl rfl (by decide) (za rfl rfl (zm rfl rfl) (za rfl rfl (zag (q := false) rfl) (zg rfl ?_))))
          exact PD.sub ((41, dB (!((decide (x1.v = x2.v) && decide (x1.ls = x2.ls))))) :: [(0, .sh 2 (a.map RowD.d)), (1, .sh 2 (b.map RowD.d)), (5, dN k), (11, dN k), (12, .sh 2 (a.map RowD.d)), (13, dN a.length), (14, dB (decide (((k : Nat) : Int) < ((a.length : Nat) : Int))))]) ⟨sc rfl (Cv.eq (congrArg (fun b => D.v (.bool b)) (by first | (simp [hc2, hg4]; done) | (simp_all; done)))), sk rfl, sk rfl, sk rfl, sk rfl, sk rfl, sk rfl, sk rfl, trivial⟩ hQ3
      · skip
        refine zf ?_
        refine zu _ _ rfl rfl rfl rfl (fun hc5 => ?_) (fun hc5 => ?_)
        · simp only [Bool.and_eq_true, Bool.or_eq_true, Bool.not_eq_true', Bool.not_eq_false', Bool.and_eq_false_iff, Bool.or_eq_false_iff, decide_eq_true_eq, decide_eq_false_iff_not, Decidable.not_not, ne_eq] at hc5
          refine zh _ _ rfl rfl rfl (zc rfl (za rfl rfl (ze rfl) (zg rfl (zf (zB rfl (zn (zp (zZ (zn (zp ?_))))))))))
          exact zx Try.results13 (.cons (zM (zs rfl) (Cv.eq (congrArg (fun b => D.v (.bool b)) (by first | exact (zbT (by omega)).symm | exact (same_ne_at hx1 hx2 (row_ne (fun e => by rcases hc5 with h | h; exact h e.1; exact h e.2))).symm | exact (zcS (by omega) (by omega) hf).symm)))) .nil) rfl HSub.none ⟨rfl, rfl⟩
        · simp only [Bool.and_eq_true, Bool.or_eq_true, Bool.not_eq_true', Bool.not_eq_false', Bool.and_eq_false_iff, Bool.or_eq_false_iff, decide_eq_true_eq, decide_eq_false_iff_not, Decidable.not_not, ne_eq] at hc5
          refine zz rfl (zD (zf (zc rfl (za rfl rfl (zb rfl) (za rfl rfl (z8 (c := ((k + 1 : Nat) : Int)) rfl rfl (zT (by omega) (by omega))) (za rfl rfl (ze rfl) (zg rfl ?_)))))))
          exact zS (k + 1) ⟨sk rfl, sk rfl, sk rfl, trivial⟩ HSub.rfl' ⟨by omega, same_snoc hx1 hx2 hf (by refine row_eq ?_; simpa using hc5)⟩ (by omega)
    · replace hc2 := of_decide_eq_false hc2
      refine z3 rfl (zK (zI (zE (zf (zh _ _ rfl rfl rfl (zc rfl (za rfl rfl (ze rfl) (zg rfl (zf (zB rfl ?_))))))))))
      exact zx Try.results13 (.cons (zM (zs rfl) (Cv.eq (congrArg (fun b => D.v (.bool b)) (by first | exact (zbT (by omega)).symm | exact (zcS (by omega) (by omega) hf).symm)))) .nil) rfl HSub.none ⟨rfl, rfl⟩

set_option maxHeartbeats 4000000 in
set_option maxRecDepth 100000 in
theorem Light2_c (l : List Lbl)  :
    CD Try.prog 19 [] [.sh 2 (l.map Lbl.d)] (isR (dB (zaH l))) := by
  refine zL Try.func19 rfl (N := 33) rfl rfl (fun C => ?_)
  refine JD.keep [0] [(0, .sh 2 (l.map Lbl.d))] rfl ?_
  refine JD.bd 0 rfl (fun bd0 => ?_)
  have nl0 := zae bd0
  refine zh _ _ rfl rfl rfl (zc rfl (za rfl rfl (ze rfl) (zg rfl (zf (zh _ _ rfl rfl rfl (zh _ _ rfl rfl rfl (zc rfl (za rfl rfl (ze rfl) (zg rfl (zf (zy _ rfl rfl (z7 (fun (g : Nat) => [(0, .sh 2 (l.map Lbl.d)), (3, dN g)]) (fun (g : Nat) => []) (fun (g : Nat) => (g ≤ l.length ∧ g ≤ 30) ∧ ((l.take g).all (fun x => decide (x.n.size ≤ 200) && decide (x.v.size ≤ 200)) = true)) (fun (g : Nat) => l.length - g) _ 0 rfl rfl ⟨sk rfl, sk rfl, trivial⟩ HSub.rfl' ⟨⟨Nat.zero_le _, Nat.zero_le _⟩, by simp⟩ ?_))))))))))))
  rintro k ⟨hk, hf⟩
  refine JD.keep [0, 3] [(0, .sh 2 (l.map Lbl.d)), (3, dN k)] rfl (JD.norm [] rfl (zh _ _ rfl rfl rfl (zh _ _ rfl rfl rfl (JD.keep [0, 3] [(0, .sh 2 (l.map Lbl.d)), (3, dN k)] rfl ?_))))
  refine zaj 11 ((decide (((k : Nat) : Int) < ((l.length : Nat) : Int)) && decide (((k : Nat) : Int) < (30 : Int)))) [] (fun _ hQ1 => ?_) ?_
  · skip
    by_cases hg2 : ((k : Nat) : Int) < ((l.length : Nat) : Int)
    · skip
      refine zc rfl (za rfl rfl (zb rfl) (za rfl rfl (zb rfl) (za rfl rfl (zar (n := l.length) rfl Try.runUnderlying27 (by simp only [lm, lc, ln])) (za rfl rfl (zaa rfl rfl (decide_eq_true hg2)) (za rfl rfl (zb rfl) (zi rfl rfl rfl rfl rfl (zb rfl) (zi rfl rfl rfl rfl rfl (zaa rfl rfl rfl) (za rfl rfl (zr rfl rfl) (zg rfl ?_)))))))))
      exact PD.sub ((11, dB (decide (((k : Nat) : Int) < ((l.length : Nat) : Int)) && decide (((k : Nat) : Int) < (30 : Int)))) :: [(0, .sh 2 (l.map Lbl.d)), (3, dN k)]) ⟨sc rfl (Cv.eq (congrArg (fun b => D.v (.bool b)) (by first | (simp [hg2]; done) | (simp_all; done)))), sk rfl, sk rfl, trivial⟩ hQ1
    · skip
      refine zc rfl (za rfl rfl (zb rfl) (za rfl rfl (zb rfl) (za rfl rfl (zar (n := l.length) rfl Try.runUnderlying27 (by simp only [lm, lc, ln])) (za rfl rfl (zaa rfl rfl (decide_eq_false hg2)) (za rfl rfl (zb rfl) (zj rfl rfl rfl rfl rfl (by decide) (zj rfl rfl rfl rfl rfl (by decide) (za rfl rfl (zm rfl rfl) (zg rfl ?_)))))))))
      exact PD.sub ((11, dB (decide (((k : Nat) : Int) < ((l.length : Nat) : Int)) && decide (((k : Nat) : Int) < (30 : Int)))) :: [(0, .sh 2 (l.map Lbl.d)), (3, dN k)]) ⟨sc rfl (Cv.eq (congrArg (fun b => D.v (.bool b)) (by first | (simp [hg2]; done) | (simp_all; done)))), sk rfl, sk rfl, trivial⟩ hQ1
  · skip
    refine zf ?_
    refine zu _ _ rfl rfl rfl rfl (fun hc3 => ?_) (fun hc3 => ?_)
    · simp only [Bool.and_eq_true, Bool.or_eq_true, Bool.not_eq_true', Bool.not_eq_false', Bool.and_eq_false_iff, Bool.or_eq_false_iff, decide_eq_true_eq, decide_eq_false_iff_not, Decidable.not_not, ne_eq] at hc3
      refine zz rfl (zf (zh _ _ rfl rfl rfl (zy _ rfl rfl (zh _ _ rfl rfl rfl ?_))))
      obtain ⟨x1, hx1⟩ := zV l k (by omega)
      refine JD.keep [0, 3, 11] [(0, .sh 2 (l.map Lbl.d)), (3, dN k), (11, dB (decide (((k : Nat) : Int) < ((l.length : Nat) : Int)) && decide (((k : Nat) : Int) < (30 : Int))))] rfl ?_
      refine zaj 29 ((decide ((200 : Int) < ((x1.n.size : Nat) : Int)) || decide ((200 : Int) < ((x1.v.size : Nat) : Int)))) [] (fun _ hQ4 => ?_) ?_
      · skip
        by_cases hg5 : (200 : Int) < ((x1.n.size : Nat) : Int)
        · skip
          refine zc rfl (za rfl rfl (zb rfl) (za rfl rfl (zb rfl) (za rfl rfl (zJ (k := k) rfl rfl Try.runUnderlying27 Try.sizeOf33 (by first | rfl | omega) (zw hx1)) (za rfl rfl (zU rfl zav rfl) (za rfl rfl (z0 rfl Try.isAgg9 rfl) (za rfl rfl (zaF rfl Try.runUnderlying9) (za rfl rfl (zaM rfl rfl (decide_eq_true hg5)) (za rfl rfl (zb rfl) (zj rfl rfl rfl rfl rfl (by decide) (zj rfl rfl rfl rfl rfl (by decide) (zj rfl rfl rfl rfl rfl (by decide) (zj rfl rfl rfl rfl rfl (by decide) (zj rfl rfl rfl rfl rfl (by decide) (zj rfl rfl rfl rfl rfl (by decide) (zj rfl rfl rfl rfl rfl (by decide) (za rfl rfl (zr rfl rfl) (zg rfl ?_)))))))))))))))))
          exact PD.sub ((29, dB (decide ((200 : Int) < ((x1.n.size : Nat) : Int)) || decide ((200 : Int) < ((x1.v.size : Nat) : Int)))) :: [(0, .sh 2 (l.map Lbl.d)), (3, dN k), (11, dB (decide (((k : Nat) : Int) < ((l.length : Nat) : Int)) && decide (((k : Nat) : Int) < (30 : Int))))]) ⟨sc rfl (Cv.eq (congrArg (fun b => D.v (.bool b)) (by first | (simp [hg5]; done) | (simp_all; done)))), sk rfl, sk rfl, sk rfl, trivial⟩ hQ4
        · skip
          refine zc rfl (za rfl rfl (zb rfl) (za rfl rfl (zb rfl) (za rfl rfl (zJ (k := k) rfl rfl Try.runUnderlying27 Try.sizeOf33 (by first | rfl | omega) (zw hx1)) (za rfl rfl (zU rfl zav rfl) (za rfl rfl (z0 rfl Try.isAgg9 rfl) (za rfl rfl (zaF rfl Try.runUnderlying9) (za rfl rfl (zaM rfl rfl (decide_eq_false hg5)) (za rfl rfl (zb rfl) (zi rfl rfl rfl rfl rfl (zb rfl) (zi rfl rfl rfl rfl rfl (zb rfl) (zi rfl rfl rfl rfl rfl (zJ (k := k) rfl rfl Try.runUnderlying27 Try.sizeOf33 (by first | rfl | omega) (zw hx1)) (zi rfl rfl rfl rfl rfl (zU rfl zaZ rfl) (zi rfl rfl rfl rfl rfl (z0 rfl Try.isAgg9 rfl) (zi rfl rfl rfl rfl rfl (zaF rfl Try.runUnderlying9) (zi rfl rfl rfl rfl rfl (zaM rfl rfl rfl) (za rfl rfl (zm rfl rfl) (zg rfl ?_)))))))))))))))))
          exact PD.sub ((29, dB (decide ((200 : Int) < ((x1.n.size : Nat) : Int)) || decide ((200 : Int) < ((x1.v.size : Nat) : Int)))) :: [(0, .sh 2 (l.map Lbl.d)), (3, dN k), (11, dB (decide (((k : Nat) : Int) < ((l.length : Nat) : Int)) && decide (((k : Nat) : Int) < (30 : Int))))]) ⟨sc rfl (Cv.eq (congrArg (fun b => D.v (.bool b)) (by first | (simp [hg5]; done) | (simp_all; done)))), sk rfl, sk rfl, sk rfl, trivial⟩ hQ4
      · skip
        refine zf ?_
        refine zu _ _ rfl rfl rfl rfl (fun hc6 => ?_) (fun hc6 => ?_)
        · simp only [Bool.and_eq_true, Bool.or_eq_true, Bool.not_eq_true', Bool.not_eq_false', Bool.and_eq_false_iff, Bool.or_eq_false_iff, decide_eq_true_eq, decide_eq_false_iff_not, Decidable.not_not, ne_eq] at hc6
          refine zh _ _ rfl rfl rfl (zc rfl (za rfl rfl (ze rfl) (zg rfl (zf (zB rfl (zn (zp (zZ (zn (zp ?_))))))))))
          exact zx Try.results19 (.cons (zM (zs rfl) (Cv.eq (congrArg (fun b => D.v (.bool b)) (by first | rw [lightL_bad hx1 (by omega) (by omega)] | (rw [lightL_end hf (by omega)]; exact decide_eq_decide.2 (by omega)))))) .nil) rfl HSub.none ⟨rfl, rfl⟩
        · simp only [Bool.and_eq_true, Bool.or_eq_true, Bool.not_eq_true', Bool.not_eq_false', Bool.and_eq_false_iff, Bool.or_eq_false_iff, decide_eq_true_eq, decide_eq_false_iff_not, Decidable.not_not, ne_eq] at hc6
          refine zz rfl (zD (zf (zc rfl (za rfl rfl (zb rfl) (za rfl rfl (z8 (c := ((k + 1 : Nat) : Int)) rfl rfl (zT (by omega) (by omega))) (za rfl rfl (ze rfl) (zg rfl ?_)))))))
          exact zS (k + 1) ⟨sk rfl, sk rfl, trivial⟩ HSub.rfl' ⟨by omega, zbL hx1 hf (by simp only [Bool.and_eq_true, decide_eq_true_eq]; omega)⟩ (by omega)
    · simp only [Bool.and_eq_true, Bool.or_eq_true, Bool.not_eq_true', Bool.not_eq_false', Bool.and_eq_false_iff, Bool.or_eq_false_iff, decide_eq_true_eq, decide_eq_false_iff_not, Decidable.not_not, ne_eq] at hc3
      refine z3 rfl (zK (zI (zE (zf (zh _ _ rfl rfl rfl (zc rfl (za rfl rfl (zb rfl) (za rfl rfl (zar (n := l.length) rfl Try.runUnderlying27 (by simp only [lm, lc, ln])) (za rfl rfl (zaS rfl rfl rfl) (za rfl rfl (ze rfl) (zg rfl (zf (zB rfl ?_)))))))))))))
      exact zx Try.results19 (.cons (zM (zs rfl) (Cv.eq (congrArg (fun b => D.v (.bool b)) (by first | rw [lightL_bad hk (by omega) (by omega)] | (rw [lightL_end hf (by omega)]; exact decide_eq_decide.2 (by omega)))))) .nil) rfl HSub.none ⟨rfl, rfl⟩

set_option maxHeartbeats 4000000 in
set_option maxRecDepth 100000 in
theorem zcd (l : List RowD)  :
    CD Try.prog 7 [] [.sh 2 (l.map RowD.d)] (isR (dB (za7 l))) := by
  refine zL Try.func7 rfl (N := 24) rfl rfl (fun C => ?_)
  refine JD.keep [0] [(0, .sh 2 (l.map RowD.d))] rfl ?_
  refine JD.bd 0 rfl (fun bd0 => ?_)
  have nl0 := zae bd0
  refine zh _ _ rfl rfl rfl (zc rfl (za rfl rfl (ze rfl) (zg rfl (zf (zh _ _ rfl rfl rfl (zh _ _ rfl rfl rfl (zc rfl (za rfl rfl (ze rfl) (zg rfl (zf (zy _ rfl rfl (z7 (fun (g : Nat) => [(0, .sh 2 (l.map RowD.d)), (3, dN g)]) (fun (g : Nat) => []) (fun (g : Nat) => (g ≤ l.length ∧ g ≤ 100) ∧ ((l.take g).all (fun r => zaH r.ls) = true)) (fun (g : Nat) => l.length - g) _ 0 rfl rfl ⟨sk rfl, sk rfl, trivial⟩ HSub.rfl' ⟨⟨Nat.zero_le _, Nat.zero_le _⟩, by simp⟩ ?_))))))))))))
  rintro k ⟨hk, hf⟩
  refine JD.keep [0, 3] [(0, .sh 2 (l.map RowD.d)), (3, dN k)] rfl (JD.norm [] rfl (zh _ _ rfl rfl rfl (zh _ _ rfl rfl rfl (JD.keep [0, 3] [(0, .sh 2 (l.map RowD.d)), (3, dN k)] rfl ?_))))
  refine zaj 11 ((decide (((k : Nat) : Int) < ((l.length : Nat) : Int)) && decide (((k : Nat) : Int) < (100 : Int)))) [] (fun _ hQ1 => ?_) ?_
  · skip
    by_cases hg2 : ((k : Nat) : Int) < ((l.length : Nat) : Int)
    · skip
      refine zc rfl (za rfl rfl (zb rfl) (za rfl rfl (zb rfl) (za rfl rfl (zar (n := l.length) rfl Try.runUnderlying22 (by simp only [lm, lc, ln])) (za rfl rfl (zaa rfl rfl (decide_eq_true hg2)) (za rfl rfl (zb rfl) (zi rfl rfl rfl rfl rfl (zb rfl) (zi rfl rfl rfl rfl rfl (zaa rfl rfl rfl) (za rfl rfl (zr rfl rfl) (zg rfl ?_)))))))))
      exact PD.sub ((11, dB (decide (((k : Nat) : Int) < ((l.length : Nat) : Int)) && decide (((k : Nat) : Int) < (100 : Int)))) :: [(0, .sh 2 (l.map RowD.d)), (3, dN k)]) ⟨sc rfl (Cv.eq (congrArg (fun b => D.v (.bool b)) (by first | (simp [hg2]; done) | (simp_all; done)))), sk rfl, sk rfl, trivial⟩ hQ1
    · skip
      refine zc rfl (za rfl rfl (zb rfl) (za rfl rfl (zb rfl) (za rfl rfl (zar (n := l.length) rfl Try.runUnderlying22 (by simp only [lm, lc, ln])) (za rfl rfl (zaa rfl rfl (decide_eq_false hg2)) (za rfl rfl (zb rfl) (zj rfl rfl rfl rfl rfl (by decide) (zj rfl rfl rfl rfl rfl (by decide) (za rfl rfl (zm rfl rfl) (zg rfl ?_)))))))))
      exact PD.sub ((11, dB (decide (((k : Nat) : Int) < ((l.length : Nat) : Int)) && decide (((k : Nat) : Int) < (100 : Int)))) :: [(0, .sh 2 (l.map RowD.d)), (3, dN k)]) ⟨sc rfl (Cv.eq (congrArg (fun b => D.v (.bool b)) (by first | (simp [hg2]; done) | (simp_all; done)))), sk rfl, sk rfl, trivial⟩ hQ1
  · skip
    refine zf ?_
    refine zu _ _ rfl rfl rfl rfl (fun hc3 => ?_) (fun hc3 => ?_)
    · simp only [Bool.and_eq_true, Bool.or_eq_true, Bool.not_eq_true', Bool.not_eq_false', Bool.and_eq_false_iff, Bool.or_eq_false_iff, decide_eq_true_eq, decide_eq_false_iff_not, Decidable.not_not, ne_eq] at hc3
      refine zz rfl (zf (zh _ _ rfl rfl rfl (zy _ rfl rfl (zh _ _ rfl rfl rfl (zc rfl (za rfl rfl (zb rfl) (za rfl rfl (zb rfl) ?_)))))))
      obtain ⟨x1, hx1⟩ := zV l k (by omega)
      refine za rfl rfl (zJ (k := k) rfl rfl Try.runUnderlying22 Try.sizeOf30 (by first | rfl | omega) (zw hx1)) (za rfl rfl (zU rfl zao rfl) (za rfl rfl (z0 rfl Try.isAgg27 rfl) (zl rfl rfl (zt [] _ [] rfl rfl (.cons ArgC.id .nil) zo Try.call19 (Light2_c x1.ls) (.inl rfl)) ?_)))
      rintro _ _ ⟨_, ⟨rfl, rfl⟩, rfl⟩
      refine OpsD.norm [] rfl (za rfl rfl (zag rfl) (zg rfl (zf ?_)))
      refine zu _ _ rfl rfl rfl rfl (fun hc4 => ?_) (fun hc4 => ?_)
      · simp only [Bool.and_eq_true, Bool.or_eq_true, Bool.not_eq_true', Bool.not_eq_false', Bool.and_eq_false_iff, Bool.or_eq_false_iff, decide_eq_true_eq, decide_eq_false_iff_not, Decidable.not_not, ne_eq] at hc4
        refine zh _ _ rfl rfl rfl (zc rfl (za rfl rfl (ze rfl) (zg rfl (zf (zB rfl (zn (zp (zZ (zn (zp ?_))))))))))
        exact zx Try.results7 (.cons (zM (zs rfl) (Cv.eq (congrArg (fun b => D.v (.bool b)) (by first | rw [lightR_bad hx1 (by omega) (by simpa using hc4)] | (rw [lightR_end hf (by omega)]; exact decide_eq_decide.2 (by omega)))))) .nil) rfl HSub.none ⟨rfl, rfl⟩
      · simp only [Bool.and_eq_true, Bool.or_eq_true, Bool.not_eq_true', Bool.not_eq_false', Bool.and_eq_false_iff, Bool.or_eq_false_iff, decide_eq_true_eq, decide_eq_false_iff_not, Decidable.not_not, ne_eq] at hc4
        refine zz rfl (zD (zf (zc rfl (za rfl rfl (zb rfl) (za rfl rfl (z8 (c := ((k + 1 : Nat) : Int)) rfl rfl (zT (by omega) (by omega))) (za rfl rfl (ze rfl) (zg rfl ?_)))))))
        exact zS (k + 1) ⟨sk rfl, sk rfl, trivial⟩ HSub.rfl' ⟨by omega, zbL hx1 hf (by simpa using hc4)⟩ (by omega)
    · simp only [Bool.and_eq_true, Bool.or_eq_true, Bool.not_eq_true', Bool.not_eq_false', Bool.and_eq_false_iff, Bool.or_eq_false_iff, decide_eq_true_eq, decide_eq_false_iff_not, Decidable.not_not, ne_eq] at hc3
      refine z3 rfl (zK (zI (zE (zf (zh _ _ rfl rfl rfl (zc rfl (za rfl rfl (zb rfl) (za rfl rfl (zar (n := l.length) rfl Try.runUnderlying22 (by simp only [lm, lc, ln])) (za rfl rfl (zaS rfl rfl rfl) (za rfl rfl (ze rfl) (zg rfl (zf (zB rfl ?_)))))))))))))
      exact zx Try.results7 (.cons (zM (zs rfl) (Cv.eq (congrArg (fun b => D.v (.bool b)) (by first | rw [lightR_bad hk (by omega) (by simpa using hc4)] | (rw [lightR_end hf (by omega)]; exact decide_eq_decide.2 (by omega)))))) .nil) rfl HSub.none ⟨rfl, rfl⟩
end Lp
