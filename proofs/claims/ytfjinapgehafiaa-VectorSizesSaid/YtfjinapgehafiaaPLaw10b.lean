/- Walks, printed by a program of mine. -/
import Derived.Test.YtfjinapgehafiaaV21
set_option linter.unusedSimpArgs false
set_option linter.unusedVariables false
namespace Lp
open Go Go.RowKit Go.Proofs

namespace HdYtfjinapgehafiaaV22
theorem zdq : ∀ w, ((#[⟨"Labels", 27, 0, false, "", "", 0⟩, ⟨"V", 3, 1, false, "", "", 24⟩] : Array Field).mapM fun f => do pure (f.offset, ← Go.sizeOf f.type) : Sem (Array (Nat × Nat))).run Try.prog w = .ok ([(0, 1), (1, 1)] : List (Nat × Nat)).toArray w := fun _ => by kernel_rfl
theorem zat (b o : Nat) : ∀ w, (Instr.fieldAt 30 (.pointer (some ⟨b, o, none⟩)) 0).run Try.prog w = .ok (.pointer (some ⟨b, o + 0, none⟩)) w := fun _ => by kernel_rfl
theorem zaB (b o : Nat) : ∀ w, (Instr.fieldAt 30 (.pointer (some ⟨b, o, none⟩)) 1).run Try.prog w = .ok (.pointer (some ⟨b, o + 1, none⟩)) w := fun _ => by kernel_rfl
theorem za4 : ∃ i, Try.prog.info? 30 = some i ∧ i.zero = some (.agg #[(.slice none 0 0), (.int .i64 0)]) ∧ i.size = 2 ∧ i.bytes = 32 := zbC (by kernel_rfl)
theorem zbg : Try.prog.underlying 22 = some (.slice 30) := by kernel_rfl
end HdYtfjinapgehafiaaV22
open HdYtfjinapgehafiaaV22

set_option maxHeartbeats 4000000 in
set_option maxRecDepth 100000 in
theorem refTidyR_c (l : List RowD) (hl : l.length ≤ 1000000) (hli : ∀ r ∈ l, zaI r.ls = true) :
    CD Try.prog 22 [] [.sh 2 (l.map RowD.d)] (fun r H' => ∃ v0_, r = .tup [.ov v0_, dI (rtE l)] ∧ H' = [.sl v0_ 2 30 ((rtL l).map RowD.d)]) := by
  refine zM Try.func22 rfl (N := 34) rfl rfl (fun C => ?_)
  refine JD.keep [0] [(0, .sh 2 (l.map RowD.d))] rfl ?_
  refine JD.bd 0 rfl (fun bd0 => ?_)
  have nl0 := zag bd0
  refine zh _ _ rfl rfl rfl (zc rfl (za rfl rfl (ze rfl) (za rfl rfl (ze rfl) (zg rfl (zf (zh _ _ rfl rfl rfl (zh _ _ rfl rfl rfl (zc rfl (za rfl rfl (zb rfl) (za rfl rfl (zaf (n := l.length) rfl Try.runUnderlying22 (by simp only [lm, lc, ln])) (za rfl rfl (zar rfl rfl rfl) (zg rfl (zf ?_)))))))))))))
  refine zt _ _ rfl rfl rfl rfl (fun hc1 => ?_) (fun hc1 => ?_)
  · replace hc1 := of_decide_eq_true hc1
    refine zh _ _ rfl rfl rfl (zc rfl (za rfl rfl (ze rfl) (za rfl rfl (ze rfl) (zg rfl (zf (zA rfl (zq (PD.subH (HSub.nil 2 30) (PD.norm [.sl (.slice none 0 0) 2 30 ((rtL l).map RowD.d)] (by have hw : [] = rtL l := (by first | exact (zcE hc1).1 | exact (zcE hc1).2); rw [show ([] : List D) = List.map RowD.d (rtL l) from congrArg (List.map RowD.d) hw]) ?_)))))))))
    exact zw Try.results22 (.cons (zN (zr rfl) (Cv.ov rfl)) (.cons (zN (zr rfl) (Cv.eq (congrArg (fun n => D.v (.int .i64 n)) (by first | exact (zcE hc1).1 | exact (zcE hc1).2)))) .nil)) rfl (HSub.fst 1 rfl) ⟨(.slice none 0 0), rfl, rfl⟩
  · replace hc1 := of_decide_eq_false hc1
    refine zy rfl (zf (zh _ _ rfl rfl rfl (zh _ _ rfl rfl rfl (zc rfl (za rfl rfl (ze rfl) (zg rfl (zf (zx _ rfl rfl (z7 (fun (g : Nat) => [(0, .sh 2 (l.map RowD.d)), (4, dN g)]) (fun (g : Nat) => []) (fun (g : Nat) => (g ≤ l.length) ∧ (zbq (l.take g) = true)) (fun (g : Nat) => l.length - g) _ 0 rfl rfl ⟨sk rfl, sk rfl, trivial⟩ HSub.rfl' ⟨Nat.zero_le _, rfl⟩ ?_)))))))))
    rintro i ⟨hil, hw⟩
    refine JD.keep [0, 4] [(0, .sh 2 (l.map RowD.d)), (4, dN i)] rfl (JD.norm [] rfl (zh _ _ rfl rfl rfl (zh _ _ rfl rfl rfl (zc rfl (za rfl rfl (zb rfl) (za rfl rfl (zb rfl) (za rfl rfl (zaf (n := l.length) rfl Try.runUnderlying22 (by simp only [lm, lc, ln])) (za rfl rfl (z9 rfl rfl rfl) (zg rfl (zf ?_))))))))))
    refine zt _ _ rfl rfl rfl rfl (fun hc2 => ?_) (fun hc2 => ?_)
    · replace hc2 := of_decide_eq_true hc2
      obtain ⟨x1, hx1⟩ := zW l i (by omega)
      refine zy rfl (zf (zh _ _ rfl rfl rfl (zx _ rfl rfl (zh _ _ rfl rfl rfl ?_))))
      rcases Bool.eq_false_or_eq_true (zbR x1.ls) with hg3 | hg3
      · skip
        refine zc rfl (za rfl rfl (zb rfl) (za rfl rfl (zb rfl) (za rfl rfl (zL (k := i) rfl rfl Try.runUnderlying22 Try.sizeOf30 (by first | rfl | omega) (zu hx1)) (za rfl rfl (zX rfl zat rfl) (za rfl rfl (zY rfl Try.isAgg27 rfl) (zl rfl rfl (zs [] _ [] rfl rfl (.cons ArgC.id .nil) zo Try.call35 (refRight_c x1.ls (light_nz (hli x1 (za8 hx1)))) (.inl rfl)) ?_))))))
        rintro _ _ ⟨_, ⟨rfl, rfl⟩, rfl⟩
        refine OpsD.norm [] rfl (OpsD.sub ((19, dB true) :: [(0, .sh 2 (l.map RowD.d)), (4, dN i), (8, dN i), (9, .sh 2 (l.map RowD.d)), (10, dN l.length), (11, dB (decide (((i : Nat) : Int) < ((l.length : Nat) : Int)))), (14, .sh 2 (l.map RowD.d)), (15, dN i), (16, .el (RowD.d x1) 0), (17, .el (RowD.d x1) 0), (18, .sh 2 (x1.ls.map Lbl.d))]) ⟨se rfl (congrArg (fun b => D.v (.bool b)) hg3), sk rfl, sk rfl, sk rfl, sk rfl, sk rfl, sk rfl, sk rfl, sk rfl, sk rfl, sk rfl, sk rfl, trivial⟩ (za rfl rfl (zae (q := true) rfl) (za rfl rfl (zb rfl) (zi rfl rfl rfl rfl rfl (zb rfl) (zi rfl rfl rfl rfl rfl (zb rfl) (zi rfl rfl rfl rfl rfl (zL (k := i) rfl rfl Try.runUnderlying22 Try.sizeOf30 (by first | rfl | omega) (zu hx1)) (zi rfl rfl rfl rfl rfl (zX rfl zaB rfl) (zi rfl rfl rfl rfl rfl (zY rfl Try.isAgg3 rfl) (zaH rfl rfl rfl rfl rfl (zs [] _ [] rfl rfl (.cons ArgC.id .nil) zo Try.call21 (refValue_c x1.v) (.inl rfl)) ?_)))))))))
        rintro _ _ ⟨_, ⟨rfl, rfl⟩, rfl⟩
        refine OpsD.norm [] rfl (zi rfl rfl rfl rfl rfl (zae rfl) (za rfl rfl (zm rfl rfl) (zg rfl (zf ?_))))
        refine zt _ _ rfl rfl rfl rfl (fun hc4 => ?_) (fun hc4 => ?_)
        · simp only [Bool.and_eq_true, Bool.or_eq_true, Bool.not_eq_true', Bool.not_eq_false', Bool.and_eq_false_iff, Bool.or_eq_false_iff, decide_eq_true_eq, decide_eq_false_iff_not, Decidable.not_not, ne_eq] at hc4
          refine zh _ _ rfl rfl rfl (zc rfl (za rfl rfl (ze rfl) (za rfl rfl (ze rfl) (zg rfl (zf (zA rfl (zp (zq (zZ (zp (zq (PD.subH (HSub.nil 2 30) (PD.norm [.sl (.slice none 0 0) 2 30 ((rtL l).map RowD.d)] (by have hw : [] = rtL l := (by first | exact (zcZ hx1 (by simp [*])).1 | exact (zcZ hx1 (by simp [*])).2); rw [show ([] : List D) = List.map RowD.d (rtL l) from congrArg (List.map RowD.d) hw]) ?_)))))))))))))
          exact zw Try.results22 (.cons (zN (zr rfl) (Cv.ov rfl)) (.cons (zN (zr rfl) (Cv.eq (congrArg (fun n => D.v (.int .i64 n)) (by first | exact (zcZ hx1 (by simp [*])).1 | exact (zcZ hx1 (by simp [*])).2)))) .nil)) rfl (HSub.fst 1 rfl) ⟨(.slice none 0 0), rfl, rfl⟩
        · simp only [Bool.and_eq_true, Bool.or_eq_true, Bool.not_eq_true', Bool.not_eq_false', Bool.and_eq_false_iff, Bool.or_eq_false_iff, decide_eq_true_eq, decide_eq_false_iff_not, Decidable.not_not, ne_eq] at hc4
          refine zy rfl (zC (zf (zc rfl (za rfl rfl (zb rfl) (za rfl rfl (z8 (c := ((i + 1 : Nat) : Int)) rfl rfl (zU (by omega) (by omega))) (za rfl rfl (ze rfl) (zg rfl ?_)))))))
          exact zT (i + 1) ⟨sk rfl, sk rfl, trivial⟩ HSub.rfl' ⟨by show i + 1 ≤ l.length; omega, rowsB_snoc hx1 hw hg3 hc4⟩ (by omega)
      · skip
        refine zc rfl (za rfl rfl (zb rfl) (za rfl rfl (zb rfl) (za rfl rfl (zL (k := i) rfl rfl Try.runUnderlying22 Try.sizeOf30 (by first | rfl | omega) (zu hx1)) (za rfl rfl (zX rfl zat rfl) (za rfl rfl (zY rfl Try.isAgg27 rfl) (zl rfl rfl (zs [] _ [] rfl rfl (.cons ArgC.id .nil) zo Try.call35 (refRight_c x1.ls (light_nz (hli x1 (za8 hx1)))) (.inl rfl)) ?_))))))
        rintro _ _ ⟨_, ⟨rfl, rfl⟩, rfl⟩
        refine OpsD.norm [] rfl (OpsD.sub ((19, dB false) :: [(0, .sh 2 (l.map RowD.d)), (4, dN i), (8, dN i), (9, .sh 2 (l.map RowD.d)), (10, dN l.length), (11, dB (decide (((i : Nat) : Int) < ((l.length : Nat) : Int)))), (14, .sh 2 (l.map RowD.d)), (15, dN i), (16, .el (RowD.d x1) 0), (17, .el (RowD.d x1) 0), (18, .sh 2 (x1.ls.map Lbl.d))]) ⟨se rfl (congrArg (fun b => D.v (.bool b)) hg3), sk rfl, sk rfl, sk rfl, sk rfl, sk rfl, sk rfl, sk rfl, sk rfl, sk rfl, sk rfl, sk rfl, trivial⟩ (za rfl rfl (zae (q := false) rfl) (za rfl rfl (zb rfl) (zj rfl rfl rfl rfl rfl (by decide) (zj rfl rfl rfl rfl rfl (by decide) (zj rfl rfl rfl rfl rfl (by decide) (zj rfl rfl rfl rfl rfl (by decide) (zj rfl rfl rfl rfl rfl (by decide) (zj rfl rfl rfl rfl rfl (by decide) (zj rfl rfl rfl rfl rfl (by decide) (za rfl rfl (zn rfl rfl) (zg rfl (zf (zav _ rfl rfl rfl (zh _ _ rfl rfl rfl (zc rfl (za rfl rfl (ze rfl) (za rfl rfl (ze rfl) (zg rfl (zf (zA rfl (zp (zq (zZ (zp ?_)))))))))))))))))))))))))
        refine zq (PD.subH (HSub.nil 2 30) (PD.norm [.sl (.slice none 0 0) 2 30 ((rtL l).map RowD.d)] (by have hw : [] = rtL l := (by first | exact (zcZ hx1 (by simp [*])).1 | exact (zcZ hx1 (by simp [*])).2); rw [show ([] : List D) = List.map RowD.d (rtL l) from congrArg (List.map RowD.d) hw]) ?_))
        exact zw Try.results22 (.cons (zN (zr rfl) (Cv.ov rfl)) (.cons (zN (zr rfl) (Cv.eq (congrArg (fun n => D.v (.int .i64 n)) (by first | exact (zcZ hx1 (by simp [*])).1 | exact (zcZ hx1 (by simp [*])).2)))) .nil)) rfl (HSub.fst 1 rfl) ⟨(.slice none 0 0), rfl, rfl⟩
    · replace hc2 := of_decide_eq_false hc2
      refine z2 rfl (zJ (zH (zB (zf (zh _ _ rfl rfl rfl (zc rfl (za rfl rfl (zb rfl) (zl rfl rfl (zs [] _ [] rfl rfl (.cons ArgC.id .nil) zo Try.call36 (refOrder_c l (by omega)) (.inl rfl)) ?_))))))))
      rintro _ _ ⟨_, ⟨v5, rfl, rfl⟩, rfl⟩
      refine OpsD.norm [.sl v5 2 30 ((ordL l).map RowD.d)] rfl (za rfl rfl (zF rfl rfl) (za rfl rfl (zF rfl rfl) (za rfl rfl (ze rfl) (za rfl rfl (ze rfl) (zg rfl (zf (JD.keep [2, 3] [(2, .ov v5), (3, dI (ordE l))] rfl (zA rfl (PD.norm [.sl v5 2 30 ((rtL l).map RowD.d)] (by have hw : ordL l = rtL l := (by first | exact (zdL (by omega) (by rw [← List.take_of_length_le (by omega : l.length ≤ i)]; exact hw)).1 | exact (zdL (by omega) (by rw [← List.take_of_length_le (by omega : l.length ≤ i)]; exact hw)).2); rw [hw]) ?_)))))))))
      exact zw Try.results22 (.cons (zr rfl) (.cons (zN (zr rfl) (Cv.eq (congrArg (fun n => D.v (.int .i64 n)) (by first | exact (zdL (by omega) (by rw [← List.take_of_length_le (by omega : l.length ≤ i)]; exact hw)).1 | exact (zdL (by omega) (by rw [← List.take_of_length_le (by omega : l.length ≤ i)]; exact hw)).2)))) .nil)) rfl (HSub.fst 1 rfl) ⟨v5, rfl, rfl⟩

set_option maxHeartbeats 4000000 in
set_option maxRecDepth 100000 in
theorem tidy10_c (l : List RowD) (hl : l.length ≤ 2000) (hli : ∀ r ∈ l, zaI r.ls = true) :
    CD Try.prog 9 [] [.sh 2 (l.map RowD.d)] (isR ((D.ls 2 RowD.d) (zk l))) := by
  refine zM Try.func9 rfl (N := 54) rfl rfl (fun C => ?_)
  refine JD.keep [0] [(0, .sh 2 (l.map RowD.d))] rfl ?_
  refine JD.bd 0 rfl (fun bd0 => ?_)
  have nl0 := zag bd0
  refine zh _ _ rfl rfl rfl (zc rfl (za rfl rfl (ze rfl) (zg rfl (zf (zh _ _ rfl rfl rfl (zc rfl (za rfl rfl (ze rfl) (zg rfl (zf (zh _ _ rfl rfl rfl (zh _ _ rfl rfl rfl (zc rfl (za rfl rfl (ze rfl) (zg rfl (zf (zx _ rfl rfl (z7 (fun (g : Nat × List RowD) => [(0, .sh 2 (l.map RowD.d)), (2, dZ), (4, dN g.1), (3, .sh 2 (g.2.map RowD.d))]) (fun (g : Nat × List RowD) => []) (fun (g : Nat × List RowD) => (g.1 ≤ l.length) ∧ (g.2 = zk (l.take g.1))) (fun (g : Nat × List RowD) => l.length - g.1) _ (0, []) rfl rfl ⟨sk rfl, sk rfl, sk rfl, sc rfl Cv.nil, trivial⟩ HSub.none ⟨Nat.zero_le _, rfl⟩ ?_)))))))))))))))))
  rintro ⟨i, out⟩ ⟨hil, hso⟩
  replace hil : i ≤ l.length := hil
  replace hso : out = zk (l.take i) := hso
  refine JD.keep [0, 2, 4, 3] [(0, .sh 2 (l.map RowD.d)), (2, dZ), (4, dN i), (3, .sh 2 (out.map RowD.d))] rfl (JD.norm [] rfl ?_)
  have htr := trs_take hli i
  rw [← hso] at htr
  have hol : out.length ≤ 2000 := by have := htr.len; rw [List.length_take] at this; omega
  refine zh _ _ rfl rfl rfl (zh _ _ rfl rfl rfl (zc rfl (za rfl rfl (zb rfl) (za rfl rfl (zb rfl) (za rfl rfl (zaf (n := l.length) rfl Try.runUnderlying22 (by simp only [lm, lc, ln])) (za rfl rfl (z9 rfl rfl rfl) (zg rfl (zf ?_))))))))
  refine zt _ _ rfl rfl rfl rfl (fun hc1 => ?_) (fun hc1 => ?_)
  · replace hc1 := of_decide_eq_true hc1
    obtain ⟨x1, hx1⟩ := zW l i (by omega)
    refine zy rfl (zf (zh _ _ rfl rfl rfl (zx _ rfl rfl (zh _ _ rfl rfl rfl (zc rfl (za rfl rfl (zb rfl) (za rfl rfl (zb rfl) (za rfl rfl (zL (k := i) rfl rfl Try.runUnderlying22 Try.sizeOf30 (by first | rfl | omega) (zu hx1)) (za rfl rfl (zX rfl zat rfl) (za rfl rfl (zY rfl Try.isAgg27 rfl) (zl rfl rfl (zs [] _ [] rfl rfl (.cons ArgC.id .nil) zo Try.call20 (refTidy_c x1.ls (light_nz (hli x1 (za8 hx1)))) (.inl rfl)) ?_)))))))))))
    rintro _ _ ⟨_, ⟨v2, rfl, rfl⟩, rfl⟩
    refine OpsD.norm [.sl v2 2 33 ((zS x1.ls).map Lbl.d)] rfl (za rfl rfl (zb rfl) (za rfl rfl (zF rfl rfl) (za rfl rfl (zF rfl rfl) (za rfl rfl (ze rfl) (za rfl rfl (ze rfl) (zg rfl (zf (zh _ _ rfl rfl rfl (zh _ _ rfl rfl rfl ?_)))))))))
    rcases Bool.eq_false_or_eq_true (zad x1.ls) with hg3 | hg3
    · skip
      refine JD.sub [(0, .sh 2 (l.map RowD.d)), (2, dZ), (3, .sh 2 (out.map RowD.d)), (4, dN i), (5, .ov v2), (6, dB true), (9, dN i), (10, .sh 2 (l.map RowD.d)), (11, dN l.length), (12, dB (decide (((i : Nat) : Int) < ((l.length : Nat) : Int)))), (15, .tup [.ov v2, dB (zad x1.ls)]), (16, .sh 2 (l.map RowD.d)), (17, dN i), (18, .el (RowD.d x1) 0), (19, .el (RowD.d x1) 0), (20, .sh 2 (x1.ls.map Lbl.d)), (21, .tup [.ov v2, dB (zad x1.ls)]), (22, .ov v2), (23, dB true)] ⟨sk rfl, sk rfl, sk rfl, sk rfl, sk rfl, se rfl (congrArg (fun b => D.v (.bool b)) (by simp [hg3])), sk rfl, sk rfl, sk rfl, sk rfl, sk rfl, sk rfl, sk rfl, sk rfl, sk rfl, sk rfl, sk rfl, sk rfl, se rfl (congrArg (fun b => D.v (.bool b)) (by simp [hg3])), trivial⟩ (zc rfl (za rfl rfl (zb rfl) (za rfl rfl (zae (q := true) rfl) (za rfl rfl (zb rfl) (zi rfl rfl rfl rfl rfl (zb rfl) (zi rfl rfl rfl rfl rfl (zb rfl) (zi rfl rfl rfl rfl rfl (zL (k := i) rfl rfl Try.runUnderlying22 Try.sizeOf30 (by first | rfl | omega) (zu hx1)) (zi rfl rfl rfl rfl rfl (zX rfl zaB rfl) (zi rfl rfl rfl rfl rfl (zY rfl Try.isAgg3 rfl) ?_)))))))))
      refine zaH rfl rfl rfl rfl rfl (zs [] _ [] rfl rfl (.cons ArgC.id .nil) zo Try.call21 (refValue_c x1.v) (.inl rfl)) ?_
      rintro _ _ ⟨_, ⟨rfl, rfl⟩, rfl⟩
      refine OpsD.norm [.sl v2 2 33 ((zS x1.ls).map Lbl.d)] rfl (zi rfl rfl rfl rfl rfl (zae rfl) (za rfl rfl (zm rfl rfl) (zg rfl (zf ?_))))
      refine zt _ _ rfl rfl rfl rfl (fun hc4 => ?_) (fun hc4 => ?_)
      · simp only [Bool.and_eq_true, Bool.or_eq_true, Bool.not_eq_true', Bool.not_eq_false', Bool.and_eq_false_iff, Bool.or_eq_false_iff, decide_eq_true_eq, decide_eq_false_iff_not, Decidable.not_not, ne_eq] at hc4
        refine z2 rfl (zJ (zB (zf (zc rfl (za rfl rfl (zb rfl) (za rfl rfl (z8 (c := ((i + 1 : Nat) : Int)) rfl rfl (zU (by omega) (by omega))) (za rfl rfl (ze rfl) (zg rfl ?_))))))))
        exact zT (i + 1, out) ⟨sk rfl, sk rfl, sk rfl, sk rfl, trivial⟩ HSub.none ⟨by show i + 1 ≤ l.length; omega, by show _ = zk (l.take (i + 1)); rw [tidyRs_snoc hx1, ← hso]; exact (trStep_no (.inr hc4)).symm⟩ (by omega)
      · simp only [Bool.and_eq_true, Bool.or_eq_true, Bool.not_eq_true', Bool.not_eq_false', Bool.and_eq_false_iff, Bool.or_eq_false_iff, decide_eq_true_eq, decide_eq_false_iff_not, Decidable.not_not, ne_eq] at hc4
        refine zy rfl (zf (zh _ _ rfl rfl rfl ?_))
        refine JD.mv (Mv.freeze (K' := [(0, .sh 2 (l.map RowD.d)), (2, dZ), (3, .sh 2 (out.map RowD.d)), (4, dN i), (5, .sh 2 ((zS x1.ls).map Lbl.d)), (6, dB true), (9, dN i), (10, .sh 2 (l.map RowD.d)), (11, dN l.length), (12, dB (decide (((i : Nat) : Int) < ((l.length : Nat) : Int)))), (15, .tup [.sh 2 ((zS x1.ls).map Lbl.d), dB (zad x1.ls)]), (16, .sh 2 (l.map RowD.d)), (17, dN i), (18, .el (RowD.d x1) 0), (19, .el (RowD.d x1) 0), (20, .sh 2 (x1.ls.map Lbl.d)), (21, .tup [.sh 2 ((zS x1.ls).map Lbl.d), dB (zad x1.ls)]), (22, .sh 2 ((zS x1.ls).map Lbl.d)), (23, dB true), (24, dB true), (25, dB false), (26, dB false), (27, .sh 2 (l.map RowD.d)), (28, dN i), (29, .el (RowD.d x1) 0), (30, .el (RowD.d x1) 1), (31, dI x1.v), (32, dB (valB x1.v)), (33, dB (!(valB x1.v))), (34, dB (!(valB x1.v)))]) [.sl v2 2 33 ((zS x1.ls).map Lbl.d)] (H1 := []) (H1' := []) ⟨⟨_, rfl, ArgC.id⟩, ⟨_, rfl, ArgC.id⟩, ⟨_, rfl, ArgC.id⟩, ⟨_, rfl, ArgC.id⟩, ⟨_, rfl, ArgC.own (j := 0) rfl rfl⟩, ⟨_, rfl, ArgC.id⟩, ⟨_, rfl, ArgC.id⟩, ⟨_, rfl, ArgC.id⟩, ⟨_, rfl, ArgC.id⟩, ⟨_, rfl, ArgC.id⟩, ⟨_, rfl, ArgC.tup (.cons (ArgC.own (j := 0) rfl rfl) (.cons ArgC.id .nil))⟩, ⟨_, rfl, ArgC.id⟩, ⟨_, rfl, ArgC.id⟩, ⟨_, rfl, ArgC.id⟩, ⟨_, rfl, ArgC.id⟩, ⟨_, rfl, ArgC.id⟩, ⟨_, rfl, ArgC.tup (.cons (ArgC.own (j := 0) rfl rfl) (.cons ArgC.id .nil))⟩, ⟨_, rfl, ArgC.own (j := 0) rfl rfl⟩, ⟨_, rfl, ArgC.id⟩, ⟨_, rfl, ArgC.id⟩, ⟨_, rfl, ArgC.id⟩, ⟨_, rfl, ArgC.id⟩, ⟨_, rfl, ArgC.id⟩, ⟨_, rfl, ArgC.id⟩, ⟨_, rfl, ArgC.id⟩, ⟨_, rfl, ArgC.id⟩, ⟨_, rfl, ArgC.id⟩, ⟨_, rfl, ArgC.id⟩, ⟨_, rfl, ArgC.id⟩, ⟨_, rfl, ArgC.id⟩, trivial⟩ .nil) ?_
        refine JD.keep [0, 2, 3, 4, 5, 6, 9, 10, 11, 12, 15, 16, 17, 18, 19, 20, 21, 22, 23, 24, 25, 26, 27, 28, 29, 30, 31, 32, 33, 34] [(0, .sh 2 (l.map RowD.d)), (2, dZ), (3, .sh 2 (out.map RowD.d)), (4, dN i), (5, .sh 2 ((zS x1.ls).map Lbl.d)), (6, dB true), (9, dN i), (10, .sh 2 (l.map RowD.d)), (11, dN l.length), (12, dB (decide (((i : Nat) : Int) < ((l.length : Nat) : Int)))), (15, .tup [.sh 2 ((zS x1.ls).map Lbl.d), dB (zad x1.ls)]), (16, .sh 2 (l.map RowD.d)), (17, dN i), (18, .el (RowD.d x1) 0), (19, .el (RowD.d x1) 0), (20, .sh 2 (x1.ls.map Lbl.d)), (21, .tup [.sh 2 ((zS x1.ls).map Lbl.d), dB (zad x1.ls)]), (22, .sh 2 ((zS x1.ls).map Lbl.d)), (23, dB true), (24, dB true), (25, dB false), (26, dB false), (27, .sh 2 (l.map RowD.d)), (28, dN i), (29, .el (RowD.d x1) 0), (30, .el (RowD.d x1) 1), (31, dI x1.v), (32, dB (valB x1.v)), (33, dB (!(valB x1.v))), (34, dB (!(valB x1.v)))] rfl (JD.norm [] rfl ?_)
        refine zbx 16 [(36, .q (.sh 2 (out.map RowD.d))), (37, .o (fun γ => [.sl (γ 1) 2 30 (out.map RowD.d)])), (38, .q (.sh 2 ((zS x1.ls).map Lbl.d))), (39, .q (.sh 2 (l.map RowD.d))), (40, .q (dN i)), (41, .q (.el (RowD.d x1) 0)), (42, .q (.el (RowD.d x1) 1)), (43, .q (dI x1.v)), (44, .q (.agg [.sh 2 ((zS x1.ls).map Lbl.d), dI x1.v])), (45, .q (.sh 2 ([(RowD.mk (zS x1.ls) x1.v)].map RowD.d))), (46, .o (fun γ => [.sl (γ 10) 2 30 ((out ++ [(RowD.mk (zS x1.ls) x1.v)]).map RowD.d)])), (47, .e (.tup [.sh 2 ((rtL (out ++ [(RowD.mk (zS x1.ls) x1.v)])).map RowD.d), dI (rtE (out ++ [(RowD.mk (zS x1.ls) x1.v)]))]) (fun γ => [])), (35, .q (.tup [.sh 2 ((rtL (out ++ [(RowD.mk (zS x1.ls) x1.v)])).map RowD.d), dI (rtE (out ++ [(RowD.mk (zS x1.ls) x1.v)]))])), (48, .q (.sh 2 ((rtL (out ++ [(RowD.mk (zS x1.ls) x1.v)])).map RowD.d))), (49, .q (dI (rtE (out ++ [(RowD.mk (zS x1.ls) x1.v)])))), (7, .q (.sh 2 ((rtL (out ++ [(RowD.mk (zS x1.ls) x1.v)])).map RowD.d)))] [] (Hn := fun γ => []) zaz rfl rfl (by kernel_rfl) (by kernel_rfl) (by kernel_rfl) HSub.rfl' (fun _ => rfl) (fun γ => ⟨so_p rfl rfl rfl (zb rfl), so_o rfl rfl rfl rfl ((zca (f := RowD.d) (l' := out) rfl rfl (SrcD.sh) zbg za4 rfl rfl (by unfold maxLen; (try simp only [la, lc, ln, lm, lt', ld, ls, lr]); omega) (by (try simp only [la, lc, ln, lm, lt', ld, ls, lr]); omega)).mono (by rintro _ _ ⟨v, rfl, rfl⟩; exact ⟨v, rfl, rfl⟩)) (fun _ => HSub.lst 1 rfl), so_p rfl rfl rfl (zb rfl), so_p rfl rfl rfl (zb rfl), so_p rfl rfl rfl (zb rfl), so_p rfl rfl rfl (zL (k := i) rfl rfl Try.runUnderlying22 Try.sizeOf30 (by first | rfl | omega) (zu hx1)), so_p rfl rfl rfl (zX rfl zaB rfl), so_p rfl rfl rfl (zY rfl Try.isAgg3 rfl), so_p rfl rfl rfl (zc1 [0, 1] [.tmp 38, .tmp 43] (zv := (.agg #[(.slice none 0 0), (.int .i64 0)])) rfl rfl (.cons CellD.sh (.cons (CellD.v rfl) .nil)) (Try.runUnderlying30) Try.zeroValue30 zdq ⟨rfl, rfl, trivial⟩ rfl), so_q rfl rfl rfl (zaQ [.tmp 44] rfl rfl (.cons CellD.agg .nil) rfl Try.runUnderlying22 Try.sizeOf30 Try.zeroValue30 rfl rfl rfl rfl), so_o rfl rfl rfl rfl ((z4 (f := RowD.d) (l := out) (l' := [(RowD.mk (zS x1.ls) x1.v)]) (i := 0) rfl rfl rfl (SrcD.sh) zbg za4 rfl rfl (by unfold maxLen; (try simp only [la, lc, ln, lm, lt', ld, ls, lr]); omega) (by (try simp only [la, lc, ln, lm, lt', ld, ls, lr]); omega)).mono (by rintro _ _ ⟨v, rfl, rfl⟩; exact ⟨v, rfl, rfl⟩)) (fun _ => HSub.lst 1 rfl), so_e rfl rfl rfl rfl (Ef.fz (Hr := []) (d := .tup [.sh 2 ((rtL (out ++ [(RowD.mk (zS x1.ls) x1.v)])).map RowD.d), dI (rtE (out ++ [(RowD.mk (zS x1.ls) x1.v)]))]) (Ef.mv (Mvk.freeze (K' := [(46, .sh 2 ((out ++ [(RowD.mk (zS x1.ls) x1.v)]).map RowD.d))]) [.sl (γ 10) 2 30 ((out ++ [(RowD.mk (zS x1.ls) x1.v)]).map RowD.d)] (H1 := []) (H1' := []) ⟨⟨_, rfl, ArgC.own (j := 0) rfl rfl⟩, trivial⟩ .nil) (zs [] [] [] rfl rfl (.cons ArgC.id .nil) zo Try.call22 (refTidyR_c (out ++ [(RowD.mk (zS x1.ls) x1.v)]) (by first | omega | (simp only [la, List.length_singleton]; omega)) (by intro r hr; rcases List.mem_append.1 hr with e | e; (exact htr.li r e); (rw [List.mem_singleton.1 e]; exact tidyL_light (hli x1 (za8 hx1))))) (.inl rfl))) (by rintro _ _ ⟨_, ⟨v, rfl, rfl⟩, rfl⟩; exact ⟨[.sl v 2 30 ((rtL (out ++ [(RowD.mk (zS x1.ls) x1.v)])).map RowD.d)], rfl, ArgC.tup (.cons (ArgC.own (j := 0) rfl rfl) (.cons ArgC.id .nil))⟩)) HSub.rfl', so_p rfl rfl rfl (zb rfl), so_p rfl rfl rfl (zF rfl rfl), so_p rfl rfl rfl (zF rfl rfl), so_p rfl rfl rfl (ze rfl), trivial⟩) (fun γ => ?_)
        refine OpsD.keep [0, 2, 3, 4, 5, 6, 7, 9, 10, 11, 12, 15, 16, 17, 18, 19, 20, 21, 22, 23, 24, 25, 26, 27, 28, 29, 30, 31, 32, 33, 34, 35, 36, 37, 38, 39, 40, 41, 42, 43, 44, 45, 46, 47, 48, 49] [(0, .sh 2 (l.map RowD.d)), (2, dZ), (3, .sh 2 (out.map RowD.d)), (4, dN i), (5, .sh 2 ((zS x1.ls).map Lbl.d)), (6, dB true), (7, .sh 2 ((rtL (out ++ [(RowD.mk (zS x1.ls) x1.v)])).map RowD.d)), (9, dN i), (10, .sh 2 (l.map RowD.d)), (11, dN l.length), (12, dB (decide (((i : Nat) : Int) < ((l.length : Nat) : Int)))), (15, .tup [.sh 2 ((zS x1.ls).map Lbl.d), dB (zad x1.ls)]), (16, .sh 2 (l.map RowD.d)), (17, dN i), (18, .el (RowD.d x1) 0), (19, .el (RowD.d x1) 0), (20, .sh 2 (x1.ls.map Lbl.d)), (21, .tup [.sh 2 ((zS x1.ls).map Lbl.d), dB (zad x1.ls)]), (22, .sh 2 ((zS x1.ls).map Lbl.d)), (23, dB true), (24, dB true), (25, dB false), (26, dB false), (27, .sh 2 (l.map RowD.d)), (28, dN i), (29, .el (RowD.d x1) 0), (30, .el (RowD.d x1) 1), (31, dI x1.v), (32, dB (valB x1.v)), (33, dB (!(valB x1.v))), (34, dB (!(valB x1.v))), (35, .tup [.sh 2 ((rtL (out ++ [(RowD.mk (zS x1.ls) x1.v)])).map RowD.d), dI (rtE (out ++ [(RowD.mk (zS x1.ls) x1.v)]))]), (36, .sh 2 (out.map RowD.d)), (37, .ov (γ 1)), (38, .sh 2 ((zS x1.ls).map Lbl.d)), (39, .sh 2 (l.map RowD.d)), (40, dN i), (41, .el (RowD.d x1) 0), (42, .el (RowD.d x1) 1), (43, dI x1.v), (44, .agg [.sh 2 ((zS x1.ls).map Lbl.d), dI x1.v]), (45, .sh 2 ([(RowD.mk (zS x1.ls) x1.v)].map RowD.d)), (46, .ov (γ 10)), (47, .tup [.sh 2 ((rtL (out ++ [(RowD.mk (zS x1.ls) x1.v)])).map RowD.d), dI (rtE (out ++ [(RowD.mk (zS x1.ls) x1.v)]))]), (48, .sh 2 ((rtL (out ++ [(RowD.mk (zS x1.ls) x1.v)])).map RowD.d)), (49, dI (rtE (out ++ [(RowD.mk (zS x1.ls) x1.v)])))] rfl ?_
        refine za rfl rfl (ze rfl) (zg rfl (zf (zh _ _ rfl rfl rfl (zc rfl (za rfl rfl (zb rfl) (za rfl rfl (z3 rfl rfl rfl) (zg rfl (zf ?_))))))))
        refine zt _ _ rfl rfl rfl rfl (fun hc5 => ?_) (fun hc5 => ?_)
        · replace hc5 := of_decide_eq_true hc5
          refine zc rfl (za rfl rfl (zb rfl) (za rfl rfl (ze rfl) (zg rfl (zC (zf (zc rfl (za rfl rfl (zb rfl) (za rfl rfl (z8 (c := ((i + 1 : Nat) : Int)) rfl rfl (zU (by omega) (by omega))) (za rfl rfl (ze rfl) (zg rfl ?_))))))))))
          exact zT (i + 1, (rtL (out ++ [(RowD.mk (zS x1.ls) x1.v)]))) ⟨sk rfl, sk rfl, sk rfl, sk rfl, trivial⟩ HSub.none ⟨by show i + 1 ≤ l.length; omega, by show _ = zk (l.take (i + 1)); rw [tidyRs_snoc hx1, ← hso]; exact (trStep_t hg3 hc4 hc5).symm⟩ (by omega)
        · replace hc5 := of_decide_eq_false hc5
          refine zy rfl (zC (zf (zc rfl (za rfl rfl (zb rfl) (za rfl rfl (z8 (c := ((i + 1 : Nat) : Int)) rfl rfl (zU (by omega) (by omega))) (za rfl rfl (ze rfl) (zg rfl ?_)))))))
          exact zT (i + 1, out) ⟨sk rfl, sk rfl, sk rfl, sk rfl, trivial⟩ HSub.none ⟨by show i + 1 ≤ l.length; omega, by show _ = zk (l.take (i + 1)); rw [tidyRs_snoc hx1, ← hso]; exact (trStep_f hc5).symm⟩ (by omega)
    · skip
      refine JD.sub [(0, .sh 2 (l.map RowD.d)), (2, dZ), (3, .sh 2 (out.map RowD.d)), (4, dN i), (5, .ov v2), (6, dB false), (9, dN i), (10, .sh 2 (l.map RowD.d)), (11, dN l.length), (12, dB (decide (((i : Nat) : Int) < ((l.length : Nat) : Int)))), (15, .tup [.ov v2, dB (zad x1.ls)]), (16, .sh 2 (l.map RowD.d)), (17, dN i), (18, .el (RowD.d x1) 0), (19, .el (RowD.d x1) 0), (20, .sh 2 (x1.ls.map Lbl.d)), (21, .tup [.ov v2, dB (zad x1.ls)]), (22, .ov v2), (23, dB false)] ⟨sk rfl, sk rfl, sk rfl, sk rfl, sk rfl, se rfl (congrArg (fun b => D.v (.bool b)) (by simp [hg3])), sk rfl, sk rfl, sk rfl, sk rfl, sk rfl, sk rfl, sk rfl, sk rfl, sk rfl, sk rfl, sk rfl, sk rfl, se rfl (congrArg (fun b => D.v (.bool b)) (by simp [hg3])), trivial⟩ (zc rfl (za rfl rfl (zb rfl) (za rfl rfl (zae (q := false) rfl) (za rfl rfl (zb rfl) (zj rfl rfl rfl rfl rfl (by decide) (zj rfl rfl rfl rfl rfl (by decide) (zj rfl rfl rfl rfl rfl (by decide) (zj rfl rfl rfl rfl rfl (by decide) (zj rfl rfl rfl rfl rfl (by decide) (zj rfl rfl rfl rfl rfl (by decide) (zj rfl rfl rfl rfl rfl (by decide) (za rfl rfl (zn rfl rfl) (zg rfl (zf ?_))))))))))))))
      refine zav _ rfl rfl rfl (z2 rfl (zJ (zB (zf (zc rfl (za rfl rfl (zb rfl) (za rfl rfl (z8 (c := ((i + 1 : Nat) : Int)) rfl rfl (zU (by omega) (by omega))) (za rfl rfl (ze rfl) (zg rfl ?_)))))))))
      exact zT (i + 1, out) ⟨sk rfl, sk rfl, sk rfl, sk rfl, trivial⟩ HSub.none ⟨by show i + 1 ≤ l.length; omega, by show _ = zk (l.take (i + 1)); rw [tidyRs_snoc hx1, ← hso]; exact (trStep_no (.inl hg3)).symm⟩ (by omega)
  · replace hc1 := of_decide_eq_false hc1
    refine z2 rfl (zJ (zH (zB (zf (zh _ _ rfl rfl rfl (zc rfl (za rfl rfl (zb rfl) (za rfl rfl (ze rfl) (zg rfl (zf (zA rfl ?_)))))))))))
    exact zw Try.results9 (.cons (zN (zr rfl) (Cv.eq (congrArg (D.ls 2 RowD.d) (show out = zk l from (by rw [hso, List.take_of_length_le (by omega)]))))) .nil) rfl HSub.none ⟨rfl, rfl⟩
end Lp
/- Walks, printed by a program of mine. -/
set_option linter.unusedSimpArgs false
set_option linter.unusedVariables false
namespace Lp
open Go Go.RowKit Go.Proofs

namespace HdYtfjinapgehafiaaV2
theorem zat (b o : Nat) : ∀ w, (Instr.fieldAt 30 (.pointer (some ⟨b, o, none⟩)) 0).run Try.prog w = .ok (.pointer (some ⟨b, o + 0, none⟩)) w := fun _ => by kernel_rfl
theorem zaB (b o : Nat) : ∀ w, (Instr.fieldAt 30 (.pointer (some ⟨b, o, none⟩)) 1).run Try.prog w = .ok (.pointer (some ⟨b, o + 1, none⟩)) w := fun _ => by kernel_rfl
theorem zax (b o : Nat) : ∀ w, (Instr.fieldAt 33 (.pointer (some ⟨b, o, none⟩)) 0).run Try.prog w = .ok (.pointer (some ⟨b, o + 0, none⟩)) w := fun _ => by kernel_rfl
theorem zaY (b o : Nat) : ∀ w, (Instr.fieldAt 33 (.pointer (some ⟨b, o, none⟩)) 1).run Try.prog w = .ok (.pointer (some ⟨b, o + 1, none⟩)) w := fun _ => by kernel_rfl
end HdYtfjinapgehafiaaV2
open HdYtfjinapgehafiaaV2

theorem p_eqlbl_eql {ty t' : TypeId} {K : Kd} {H : List Hp} {x y : Operand} {a b : Lbl} {q : Bool} (hx : opD K x = some (Lbl.d a)) (hy : opD K y = some (Lbl.d b)) (hq : decide (a = b) = q) : Pu Try.prog (.binOp .eql 33 x y t') ty K H (dB q) :=
  ⟨fun ρ w F hk _ _ => by
    obtain ⟨vs, e, u1, r1, rfl, _, ⟨rfl, _⟩, u2, r2, rfl, _, ⟨rfl, _⟩, rfl⟩ := hk.op hx
    obtain ⟨vs', e', u3, r3, rfl, _, ⟨rfl, _⟩, u4, r4, rfl, _, ⟨rfl, _⟩, rfl⟩ := hk.op hy
    refine zbX (r := .bool q) (zV ρ [x, y]) (zbs ρ e) (zbr ρ e') (fun w => ?_) ⟨rfl, rfl⟩
    subst hq
    obtain ⟨a1, a2⟩ := a
    obtain ⟨b1, b2⟩ := b
    simp [go_sem, toList_beq]
    by_cases h1 : a1 = b1 <;> by_cases h2 : a2 = b2 <;> simp [h1, h2]⟩

set_option maxHeartbeats 4000000 in
set_option maxRecDepth 100000 in
theorem SameLabels_c (a : List Lbl) (b : List Lbl)  :
    CD Try.prog 14 [] [.sh 2 (a.map Lbl.d), .sh 2 (b.map Lbl.d)] (isR (dB (decide (a = b)))) := by
  refine zM Try.func14 rfl (N := 27) rfl rfl (fun C => ?_)
  refine JD.keep [0, 1] [(0, .sh 2 (a.map Lbl.d)), (1, .sh 2 (b.map Lbl.d))] rfl ?_
  refine JD.bd 0 rfl (fun bd0 => ?_)
  have nl0 := zag bd0
  refine JD.bd 1 rfl (fun bd1 => ?_)
  have nl1 := zag bd1
  refine zh _ _ rfl rfl rfl (zc rfl (za rfl rfl (ze rfl) (zg rfl (zf (zh _ _ rfl rfl rfl (zh _ _ rfl rfl rfl (zc rfl (za rfl rfl (zb rfl) (za rfl rfl (zaf (n := a.length) rfl Try.runUnderlying27 (by simp only [lm, lc, ln])) (za rfl rfl (zb rfl) (za rfl rfl (zaf (n := b.length) rfl Try.runUnderlying27 (by simp only [lm, lc, ln])) (za rfl rfl (zbk rfl rfl rfl) (zg rfl (zf ?_))))))))))))))
  refine zt _ _ rfl rfl rfl rfl (fun hc1 => ?_) (fun hc1 => ?_)
  · replace hc1 := of_decide_eq_true hc1
    refine zh _ _ rfl rfl rfl (zc rfl (za rfl rfl (ze rfl) (zg rfl (zf (zA rfl (zq ?_))))))
    exact zw Try.results14 (.cons (zN (zr rfl) (Cv.eq (congrArg (fun b => D.v (.bool b)) (by first | exact (same_ne_len (by omega)).symm | exact (same_all (by omega) (by omega) hf).symm)))) .nil) rfl HSub.none ⟨rfl, rfl⟩
  · replace hc1 := of_decide_eq_false hc1
    refine zy rfl (zf (zh _ _ rfl rfl rfl (zh _ _ rfl rfl rfl (zc rfl (za rfl rfl (ze rfl) (zg rfl (zf (zx _ rfl rfl (z7 (fun (g : Nat) => [(0, .sh 2 (a.map Lbl.d)), (1, .sh 2 (b.map Lbl.d)), (5, dN g)]) (fun (g : Nat) => []) (fun (g : Nat) => (g ≤ a.length) ∧ (a.take g = b.take g)) (fun (g : Nat) => a.length - g) _ 0 rfl rfl ⟨sk rfl, sk rfl, sk rfl, trivial⟩ HSub.rfl' ⟨Nat.zero_le _, by simp⟩ ?_)))))))))
    rintro k ⟨hk, hf⟩
    refine JD.keep [0, 1, 5] [(0, .sh 2 (a.map Lbl.d)), (1, .sh 2 (b.map Lbl.d)), (5, dN k)] rfl (JD.norm [] rfl (zh _ _ rfl rfl rfl (zh _ _ rfl rfl rfl (zc rfl (za rfl rfl (zb rfl) (za rfl rfl (zb rfl) (za rfl rfl (zaf (n := a.length) rfl Try.runUnderlying27 (by simp only [lm, lc, ln])) (za rfl rfl (z9 rfl rfl rfl) (zg rfl (zf ?_))))))))))
    refine zt _ _ rfl rfl rfl rfl (fun hc2 => ?_) (fun hc2 => ?_)
    · replace hc2 := of_decide_eq_true hc2
      refine zy rfl (zf (zh _ _ rfl rfl rfl (zx _ rfl rfl (zh _ _ rfl rfl rfl (JD.keep [0, 1, 5, 11, 12, 13, 14] [(0, .sh 2 (a.map Lbl.d)), (1, .sh 2 (b.map Lbl.d)), (5, dN k), (11, dN k), (12, .sh 2 (a.map Lbl.d)), (13, dN a.length), (14, dB (decide (((k : Nat) : Int) < ((a.length : Nat) : Int))))] rfl (JD.norm [] rfl ?_))))))
      obtain ⟨x1, hx1⟩ := zW a k (by omega)
      obtain ⟨x2, hx2⟩ := zW b k (by omega)
      refine zaj 8 [(17, .sh 2 (a.map Lbl.d), none), (18, dN k, none), (19, .el (Lbl.d x1) 0, none), (20, Lbl.d x1, none), (21, .sh 2 (b.map Lbl.d), none), (22, dN k, none), (23, .el (Lbl.d x2) 0, none), (24, Lbl.d x2, none)] [] (Hn := []) zaz rfl rfl rfl rfl HSub.rfl' rfl ⟨sa_p rfl rfl rfl (zb rfl), sa_p rfl rfl rfl (zb rfl), sa_p rfl rfl rfl (zL (k := k) rfl rfl Try.runUnderlying27 Try.sizeOf33 (by first | rfl | omega) (zu hx1)), sa_p rfl rfl rfl (zaK (d := Lbl.d x1) rfl Try.isAgg33 Try.sizeOf33 rfl rfl), sa_p rfl rfl rfl (zb rfl), sa_p rfl rfl rfl (zb rfl), sa_p rfl rfl rfl (zL (k := k) rfl rfl Try.runUnderlying27 Try.sizeOf33 (by first | rfl | omega) (zu hx2)), sa_p rfl rfl rfl (zaK (d := Lbl.d x2) rfl Try.isAgg33 Try.sizeOf33 rfl rfl), trivial⟩ ?_
      refine OpsD.keep [0, 1, 5, 11, 12, 13, 14, 17, 18, 19, 20, 21, 22, 23, 24] [(0, .sh 2 (a.map Lbl.d)), (1, .sh 2 (b.map Lbl.d)), (5, dN k), (11, dN k), (12, .sh 2 (a.map Lbl.d)), (13, dN a.length), (14, dB (decide (((k : Nat) : Int) < ((a.length : Nat) : Int)))), (17, .sh 2 (a.map Lbl.d)), (18, dN k), (19, .el (Lbl.d x1) 0), (20, Lbl.d x1), (21, .sh 2 (b.map Lbl.d)), (22, dN k), (23, .el (Lbl.d x2) 0), (24, Lbl.d x2)] rfl (za rfl rfl (p_eqlbl_eql rfl rfl rfl) (za rfl rfl (zae rfl) (zg rfl (zf ?_))))
      refine zt _ _ rfl rfl rfl rfl (fun hc3 => ?_) (fun hc3 => ?_)
      · replace hc3 := of_decide_eq_false (p := x1 = x2) (by simpa using hc3)
        refine zh _ _ rfl rfl rfl (zc rfl (za rfl rfl (ze rfl) (zg rfl (zf (zA rfl (zp (zq (zZ (zp (zq ?_))))))))))
        exact zw Try.results14 (.cons (zN (zr rfl) (Cv.eq (congrArg (fun b => D.v (.bool b)) (by first | exact (same_ne_len (by omega)).symm | exact (same_ne_at hx1 hx2 (by simpa using hc3)).symm | exact (same_all (by omega) (by omega) hf).symm)))) .nil) rfl HSub.none ⟨rfl, rfl⟩
      · replace hc3 := of_decide_eq_true (p := x1 = x2) (by simpa using hc3)
        refine zy rfl (zC (zf (zc rfl (za rfl rfl (zb rfl) (za rfl rfl (z8 (c := ((k + 1 : Nat) : Int)) rfl rfl (zU (by omega) (by omega))) (za rfl rfl (ze rfl) (zg rfl ?_)))))))
        exact zT (k + 1) ⟨sk rfl, sk rfl, sk rfl, trivial⟩ HSub.rfl' ⟨by omega, same_snoc hx1 hx2 hf (by simpa using hc3)⟩ (by omega)
    · replace hc2 := of_decide_eq_false hc2
      refine z2 rfl (zJ (zH (zB (zf (zh _ _ rfl rfl rfl (zc rfl (za rfl rfl (ze rfl) (zg rfl (zf (zA rfl ?_))))))))))
      exact zw Try.results14 (.cons (zN (zr rfl) (Cv.eq (congrArg (fun b => D.v (.bool b)) (by first | exact (same_ne_len (by omega)).symm | exact (same_all (by omega) (by omega) hf).symm)))) .nil) rfl HSub.none ⟨rfl, rfl⟩

set_option maxHeartbeats 4000000 in
set_option maxRecDepth 100000 in
theorem Light2_c (l : List Lbl)  :
    CD Try.prog 19 [] [.sh 2 (l.map Lbl.d)] (isR (dB (zaI l))) := by
  refine zM Try.func19 rfl (N := 33) rfl rfl (fun C => ?_)
  refine JD.keep [0] [(0, .sh 2 (l.map Lbl.d))] rfl ?_
  refine JD.bd 0 rfl (fun bd0 => ?_)
  have nl0 := zag bd0
  refine zh _ _ rfl rfl rfl (zc rfl (za rfl rfl (ze rfl) (zg rfl (zf (zh _ _ rfl rfl rfl (zh _ _ rfl rfl rfl (zc rfl (za rfl rfl (ze rfl) (zg rfl (zf (zx _ rfl rfl (z7 (fun (g : Nat) => [(0, .sh 2 (l.map Lbl.d)), (3, dN g)]) (fun (g : Nat) => []) (fun (g : Nat) => (g ≤ l.length ∧ g ≤ 30) ∧ ((l.take g).all (fun x => decide (x.n.size ≤ 200) && decide (x.v.size ≤ 200)) = true)) (fun (g : Nat) => l.length - g) _ 0 rfl rfl ⟨sk rfl, sk rfl, trivial⟩ HSub.rfl' ⟨⟨Nat.zero_le _, Nat.zero_le _⟩, by simp⟩ ?_))))))))))))
  rintro k ⟨hk, hf⟩
  refine JD.keep [0, 3] [(0, .sh 2 (l.map Lbl.d)), (3, dN k)] rfl (JD.norm [] rfl (zh _ _ rfl rfl rfl (zh _ _ rfl rfl rfl (JD.keep [0, 3] [(0, .sh 2 (l.map Lbl.d)), (3, dN k)] rfl ?_))))
  refine zan 11 ((decide (((k : Nat) : Int) < ((l.length : Nat) : Int)) && decide (((k : Nat) : Int) < (30 : Int)))) [] (fun _ hQ1 => ?_) ?_
  · skip
    by_cases hg2 : ((k : Nat) : Int) < ((l.length : Nat) : Int)
    · skip
      refine zc rfl (za rfl rfl (zb rfl) (za rfl rfl (zb rfl) (za rfl rfl (zaf (n := l.length) rfl Try.runUnderlying27 (by simp only [lm, lc, ln])) (za rfl rfl (z9 rfl rfl (decide_eq_true hg2)) (za rfl rfl (zb rfl) (zi rfl rfl rfl rfl rfl (zb rfl) (zi rfl rfl rfl rfl rfl (z9 rfl rfl rfl) (za rfl rfl (zn rfl rfl) (zg rfl ?_)))))))))
      exact PD.sub ((11, dB (decide (((k : Nat) : Int) < ((l.length : Nat) : Int)) && decide (((k : Nat) : Int) < (30 : Int)))) :: [(0, .sh 2 (l.map Lbl.d)), (3, dN k)]) ⟨sc rfl (Cv.eq (congrArg (fun b => D.v (.bool b)) (by first | (simp [hg2]; done) | (simp_all; done)))), sk rfl, sk rfl, trivial⟩ hQ1
    · skip
      refine zc rfl (za rfl rfl (zb rfl) (za rfl rfl (zb rfl) (za rfl rfl (zaf (n := l.length) rfl Try.runUnderlying27 (by simp only [lm, lc, ln])) (za rfl rfl (z9 rfl rfl (decide_eq_false hg2)) (za rfl rfl (zb rfl) (zj rfl rfl rfl rfl rfl (by decide) (zj rfl rfl rfl rfl rfl (by decide) (za rfl rfl (zm rfl rfl) (zg rfl ?_)))))))))
      exact PD.sub ((11, dB (decide (((k : Nat) : Int) < ((l.length : Nat) : Int)) && decide (((k : Nat) : Int) < (30 : Int)))) :: [(0, .sh 2 (l.map Lbl.d)), (3, dN k)]) ⟨sc rfl (Cv.eq (congrArg (fun b => D.v (.bool b)) (by first | (simp [hg2]; done) | (simp_all; done)))), sk rfl, sk rfl, trivial⟩ hQ1
  · skip
    refine zf ?_
    refine zt _ _ rfl rfl rfl rfl (fun hc3 => ?_) (fun hc3 => ?_)
    · simp only [Bool.and_eq_true, Bool.or_eq_true, Bool.not_eq_true', Bool.not_eq_false', Bool.and_eq_false_iff, Bool.or_eq_false_iff, decide_eq_true_eq, decide_eq_false_iff_not, Decidable.not_not, ne_eq] at hc3
      refine zy rfl (zf (zh _ _ rfl rfl rfl (zx _ rfl rfl (zh _ _ rfl rfl rfl ?_))))
      obtain ⟨x1, hx1⟩ := zW l k (by omega)
      refine JD.keep [0, 3, 11] [(0, .sh 2 (l.map Lbl.d)), (3, dN k), (11, dB (decide (((k : Nat) : Int) < ((l.length : Nat) : Int)) && decide (((k : Nat) : Int) < (30 : Int))))] rfl ?_
      refine zan 29 ((decide ((200 : Int) < ((x1.n.size : Nat) : Int)) || decide ((200 : Int) < ((x1.v.size : Nat) : Int)))) [] (fun _ hQ4 => ?_) ?_
      · skip
        by_cases hg5 : (200 : Int) < ((x1.n.size : Nat) : Int)
        · skip
          refine zc rfl (za rfl rfl (zb rfl) (za rfl rfl (zb rfl) (za rfl rfl (zL (k := k) rfl rfl Try.runUnderlying27 Try.sizeOf33 (by first | rfl | omega) (zu hx1)) (za rfl rfl (zX rfl zax rfl) (za rfl rfl (zY rfl Try.isAgg9 rfl) (za rfl rfl (zau rfl Try.runUnderlying9) (za rfl rfl (zar rfl rfl (decide_eq_true hg5)) (za rfl rfl (zb rfl) (zj rfl rfl rfl rfl rfl (by decide) (zj rfl rfl rfl rfl rfl (by decide) (zj rfl rfl rfl rfl rfl (by decide) (zj rfl rfl rfl rfl rfl (by decide) (zj rfl rfl rfl rfl rfl (by decide) (zj rfl rfl rfl rfl rfl (by decide) (zj rfl rfl rfl rfl rfl (by decide) (za rfl rfl (zn rfl rfl) (zg rfl ?_)))))))))))))))))
          exact PD.sub ((29, dB (decide ((200 : Int) < ((x1.n.size : Nat) : Int)) || decide ((200 : Int) < ((x1.v.size : Nat) : Int)))) :: [(0, .sh 2 (l.map Lbl.d)), (3, dN k), (11, dB (decide (((k : Nat) : Int) < ((l.length : Nat) : Int)) && decide (((k : Nat) : Int) < (30 : Int))))]) ⟨sc rfl (Cv.eq (congrArg (fun b => D.v (.bool b)) (by first | (simp [hg5]; done) | (simp_all; done)))), sk rfl, sk rfl, sk rfl, trivial⟩ hQ4
        · skip
          refine zc rfl (za rfl rfl (zb rfl) (za rfl rfl (zb rfl) (za rfl rfl (zL (k := k) rfl rfl Try.runUnderlying27 Try.sizeOf33 (by first | rfl | omega) (zu hx1)) (za rfl rfl (zX rfl zax rfl) (za rfl rfl (zY rfl Try.isAgg9 rfl) (za rfl rfl (zau rfl Try.runUnderlying9) (za rfl rfl (zar rfl rfl (decide_eq_false hg5)) (za rfl rfl (zb rfl) (zi rfl rfl rfl rfl rfl (zb rfl) (zi rfl rfl rfl rfl rfl (zb rfl) (zi rfl rfl rfl rfl rfl (zL (k := k) rfl rfl Try.runUnderlying27 Try.sizeOf33 (by first | rfl | omega) (zu hx1)) (zi rfl rfl rfl rfl rfl (zX rfl zaY rfl) (zi rfl rfl rfl rfl rfl (zY rfl Try.isAgg9 rfl) (zi rfl rfl rfl rfl rfl (zau rfl Try.runUnderlying9) (zi rfl rfl rfl rfl rfl (zar rfl rfl rfl) (za rfl rfl (zm rfl rfl) (zg rfl ?_)))))))))))))))))
          exact PD.sub ((29, dB (decide ((200 : Int) < ((x1.n.size : Nat) : Int)) || decide ((200 : Int) < ((x1.v.size : Nat) : Int)))) :: [(0, .sh 2 (l.map Lbl.d)), (3, dN k), (11, dB (decide (((k : Nat) : Int) < ((l.length : Nat) : Int)) && decide (((k : Nat) : Int) < (30 : Int))))]) ⟨sc rfl (Cv.eq (congrArg (fun b => D.v (.bool b)) (by first | (simp [hg5]; done) | (simp_all; done)))), sk rfl, sk rfl, sk rfl, trivial⟩ hQ4
      · skip
        refine zf ?_
        refine zt _ _ rfl rfl rfl rfl (fun hc6 => ?_) (fun hc6 => ?_)
        · simp only [Bool.and_eq_true, Bool.or_eq_true, Bool.not_eq_true', Bool.not_eq_false', Bool.and_eq_false_iff, Bool.or_eq_false_iff, decide_eq_true_eq, decide_eq_false_iff_not, Decidable.not_not, ne_eq] at hc6
          refine zh _ _ rfl rfl rfl (zc rfl (za rfl rfl (ze rfl) (zg rfl (zf (zA rfl (zp (zq (zZ (zp (zq ?_))))))))))
          exact zw Try.results19 (.cons (zN (zr rfl) (Cv.eq (congrArg (fun b => D.v (.bool b)) (by first | rw [lightL_bad hx1 (by omega) (by omega)] | (rw [lightL_end hf (by omega)]; exact decide_eq_decide.2 (by omega)))))) .nil) rfl HSub.none ⟨rfl, rfl⟩
        · simp only [Bool.and_eq_true, Bool.or_eq_true, Bool.not_eq_true', Bool.not_eq_false', Bool.and_eq_false_iff, Bool.or_eq_false_iff, decide_eq_true_eq, decide_eq_false_iff_not, Decidable.not_not, ne_eq] at hc6
          refine zy rfl (zC (zf (zc rfl (za rfl rfl (zb rfl) (za rfl rfl (z8 (c := ((k + 1 : Nat) : Int)) rfl rfl (zU (by omega) (by omega))) (za rfl rfl (ze rfl) (zg rfl ?_)))))))
          exact zT (k + 1) ⟨sk rfl, sk rfl, trivial⟩ HSub.rfl' ⟨by omega, zbF hx1 hf (by simp only [Bool.and_eq_true, decide_eq_true_eq]; omega)⟩ (by omega)
    · simp only [Bool.and_eq_true, Bool.or_eq_true, Bool.not_eq_true', Bool.not_eq_false', Bool.and_eq_false_iff, Bool.or_eq_false_iff, decide_eq_true_eq, decide_eq_false_iff_not, Decidable.not_not, ne_eq] at hc3
      refine z2 rfl (zJ (zH (zB (zf (zh _ _ rfl rfl rfl (zc rfl (za rfl rfl (zb rfl) (za rfl rfl (zaf (n := l.length) rfl Try.runUnderlying27 (by simp only [lm, lc, ln])) (za rfl rfl (zaT rfl rfl rfl) (za rfl rfl (ze rfl) (zg rfl (zf (zA rfl ?_)))))))))))))
      exact zw Try.results19 (.cons (zN (zr rfl) (Cv.eq (congrArg (fun b => D.v (.bool b)) (by first | rw [lightL_bad hk (by omega) (by omega)] | (rw [lightL_end hf (by omega)]; exact decide_eq_decide.2 (by omega)))))) .nil) rfl HSub.none ⟨rfl, rfl⟩

set_option maxHeartbeats 4000000 in
set_option maxRecDepth 100000 in
theorem zbD (l : List RowD)  :
    CD Try.prog 7 [] [.sh 2 (l.map RowD.d)] (isR (dB (zaZ l))) := by
  refine zM Try.func7 rfl (N := 24) rfl rfl (fun C => ?_)
  refine JD.keep [0] [(0, .sh 2 (l.map RowD.d))] rfl ?_
  refine JD.bd 0 rfl (fun bd0 => ?_)
  have nl0 := zag bd0
  refine zh _ _ rfl rfl rfl (zc rfl (za rfl rfl (ze rfl) (zg rfl (zf (zh _ _ rfl rfl rfl (zh _ _ rfl rfl rfl (zc rfl (za rfl rfl (ze rfl) (zg rfl (zf (zx _ rfl rfl (z7 (fun (g : Nat) => [(0, .sh 2 (l.map RowD.d)), (3, dN g)]) (fun (g : Nat) => []) (fun (g : Nat) => (g ≤ l.length ∧ g ≤ 100) ∧ ((l.take g).all (fun r => zaI r.ls) = true)) (fun (g : Nat) => l.length - g) _ 0 rfl rfl ⟨sk rfl, sk rfl, trivial⟩ HSub.rfl' ⟨⟨Nat.zero_le _, Nat.zero_le _⟩, by simp⟩ ?_))))))))))))
  rintro k ⟨hk, hf⟩
  refine JD.keep [0, 3] [(0, .sh 2 (l.map RowD.d)), (3, dN k)] rfl (JD.norm [] rfl (zh _ _ rfl rfl rfl (zh _ _ rfl rfl rfl (JD.keep [0, 3] [(0, .sh 2 (l.map RowD.d)), (3, dN k)] rfl ?_))))
  refine zan 11 ((decide (((k : Nat) : Int) < ((l.length : Nat) : Int)) && decide (((k : Nat) : Int) < (100 : Int)))) [] (fun _ hQ1 => ?_) ?_
  · skip
    by_cases hg2 : ((k : Nat) : Int) < ((l.length : Nat) : Int)
    · skip
      refine zc rfl (za rfl rfl (zb rfl) (za rfl rfl (zb rfl) (za rfl rfl (zaf (n := l.length) rfl Try.runUnderlying22 (by simp only [lm, lc, ln])) (za rfl rfl (z9 rfl rfl (decide_eq_true hg2)) (za rfl rfl (zb rfl) (zi rfl rfl rfl rfl rfl (zb rfl) (zi rfl rfl rfl rfl rfl (z9 rfl rfl rfl) (za rfl rfl (zn rfl rfl) (zg rfl ?_)))))))))
      exact PD.sub ((11, dB (decide (((k : Nat) : Int) < ((l.length : Nat) : Int)) && decide (((k : Nat) : Int) < (100 : Int)))) :: [(0, .sh 2 (l.map RowD.d)), (3, dN k)]) ⟨sc rfl (Cv.eq (congrArg (fun b => D.v (.bool b)) (by first | (simp [hg2]; done) | (simp_all; done)))), sk rfl, sk rfl, trivial⟩ hQ1
    · skip
      refine zc rfl (za rfl rfl (zb rfl) (za rfl rfl (zb rfl) (za rfl rfl (zaf (n := l.length) rfl Try.runUnderlying22 (by simp only [lm, lc, ln])) (za rfl rfl (z9 rfl rfl (decide_eq_false hg2)) (za rfl rfl (zb rfl) (zj rfl rfl rfl rfl rfl (by decide) (zj rfl rfl rfl rfl rfl (by decide) (za rfl rfl (zm rfl rfl) (zg rfl ?_)))))))))
      exact PD.sub ((11, dB (decide (((k : Nat) : Int) < ((l.length : Nat) : Int)) && decide (((k : Nat) : Int) < (100 : Int)))) :: [(0, .sh 2 (l.map RowD.d)), (3, dN k)]) ⟨sc rfl (Cv.eq (congrArg (fun b => D.v (.bool b)) (by first | (simp [hg2]; done) | (simp_all; done)))), sk rfl, sk rfl, trivial⟩ hQ1
  · skip
    refine zf ?_
    refine zt _ _ rfl rfl rfl rfl (fun hc3 => ?_) (fun hc3 => ?_)
    · simp only [Bool.and_eq_true, Bool.or_eq_true, Bool.not_eq_true', Bool.not_eq_false', Bool.and_eq_false_iff, Bool.or_eq_false_iff, decide_eq_true_eq, decide_eq_false_iff_not, Decidable.not_not, ne_eq] at hc3
      refine zy rfl (zf (zh _ _ rfl rfl rfl (zx _ rfl rfl (zh _ _ rfl rfl rfl (zc rfl (za rfl rfl (zb rfl) (za rfl rfl (zb rfl) ?_)))))))
      obtain ⟨x1, hx1⟩ := zW l k (by omega)
      refine za rfl rfl (zL (k := k) rfl rfl Try.runUnderlying22 Try.sizeOf30 (by first | rfl | omega) (zu hx1)) (za rfl rfl (zX rfl zat rfl) (za rfl rfl (zY rfl Try.isAgg27 rfl) (zl rfl rfl (zs [] _ [] rfl rfl (.cons ArgC.id .nil) zo Try.call19 (Light2_c x1.ls) (.inl rfl)) ?_)))
      rintro _ _ ⟨_, ⟨rfl, rfl⟩, rfl⟩
      refine OpsD.norm [] rfl (za rfl rfl (zae rfl) (zg rfl (zf ?_)))
      refine zt _ _ rfl rfl rfl rfl (fun hc4 => ?_) (fun hc4 => ?_)
      · simp only [Bool.and_eq_true, Bool.or_eq_true, Bool.not_eq_true', Bool.not_eq_false', Bool.and_eq_false_iff, Bool.or_eq_false_iff, decide_eq_true_eq, decide_eq_false_iff_not, Decidable.not_not, ne_eq] at hc4
        refine zh _ _ rfl rfl rfl (zc rfl (za rfl rfl (ze rfl) (zg rfl (zf (zA rfl (zp (zq (zZ (zp (zq ?_))))))))))
        exact zw Try.results7 (.cons (zN (zr rfl) (Cv.eq (congrArg (fun b => D.v (.bool b)) (by first | rw [lightR_bad hx1 (by omega) (by simpa using hc4)] | (rw [lightR_end hf (by omega)]; exact decide_eq_decide.2 (by omega)))))) .nil) rfl HSub.none ⟨rfl, rfl⟩
      · simp only [Bool.and_eq_true, Bool.or_eq_true, Bool.not_eq_true', Bool.not_eq_false', Bool.and_eq_false_iff, Bool.or_eq_false_iff, decide_eq_true_eq, decide_eq_false_iff_not, Decidable.not_not, ne_eq] at hc4
        refine zy rfl (zC (zf (zc rfl (za rfl rfl (zb rfl) (za rfl rfl (z8 (c := ((k + 1 : Nat) : Int)) rfl rfl (zU (by omega) (by omega))) (za rfl rfl (ze rfl) (zg rfl ?_)))))))
        exact zT (k + 1) ⟨sk rfl, sk rfl, trivial⟩ HSub.rfl' ⟨by omega, zbF hx1 hf (by simpa using hc4)⟩ (by omega)
    · simp only [Bool.and_eq_true, Bool.or_eq_true, Bool.not_eq_true', Bool.not_eq_false', Bool.and_eq_false_iff, Bool.or_eq_false_iff, decide_eq_true_eq, decide_eq_false_iff_not, Decidable.not_not, ne_eq] at hc3
      refine z2 rfl (zJ (zH (zB (zf (zh _ _ rfl rfl rfl (zc rfl (za rfl rfl (zb rfl) (za rfl rfl (zaf (n := l.length) rfl Try.runUnderlying22 (by simp only [lm, lc, ln])) (za rfl rfl (zaT rfl rfl rfl) (za rfl rfl (ze rfl) (zg rfl (zf (zA rfl ?_)))))))))))))
      exact zw Try.results7 (.cons (zN (zr rfl) (Cv.eq (congrArg (fun b => D.v (.bool b)) (by first | rw [lightR_bad hk (by omega) (by simpa using hc4)] | (rw [lightR_end hf (by omega)]; exact decide_eq_decide.2 (by omega)))))) .nil) rfl HSub.none ⟨rfl, rfl⟩
end Lp
/-
  What is said of vectors (chapter 10), as plain data.
-/
set_option linter.unusedVariables false
namespace Lp
open Go
/-! ### rows that may be -/
theorem zcJ {l : List RowD} : zbq l = true ↔ ∀ r ∈ l, zbi r = true := by rw [rowsB_ok, List.all_eq_true]
theorem right_of {l : List Lbl} (h1 : l.length ≤ 8) (h2 : NSrt l) (h3 : ∀ x ∈ l, okL x = true) : zbR l = true := by
  obtain ⟨e1, e2⟩ := tidyOk_of h1 h2 (List.Perm.refl l) h3
  unfold zbR zS
  rw [e1, e2]
  simp [cmpLs_self]
theorem zdv {r : RowD} (h : zbi r = true) : zbR r.ls = true ∧ zaV r.v = true := by unfold zbi at h; rwa [Bool.and_eq_true] at h
theorem okRow_of {r : RowD} (h1 : zbR r.ls = true) (h2 : zaV r.v = true) : zbi r = true := by unfold zbi; rw [h1, h2]; rfl
theorem rt_rows {l : List RowD} (h : rtE l = 0) : l.length ≤ 2000 ∧ zbq l = true := by
  unfold rtE at h
  cases hb : decide (l.length ≤ 2000) && zbq l
  · rw [hb] at h; cases h
  · rw [Bool.and_eq_true, decide_eq_true_eq] at hb; exact hb
theorem tidyRs_rows (l : List RowD) : ∀ r ∈ zk l, zbi r = true := by
  have key : ∀ (m out : List RowD), (∀ r ∈ out, zbi r = true) → ∀ r ∈ m.foldl zbn out, zbi r = true := by
    intro m
    induction m with
    | nil => intro out h; exact h
    | cons x m ih =>
      intro out h
      refine ih (zbn out x) ?_
      unfold zbn
      split
      · rename_i hc
        intro r hr
        have h1 := (rt_rows hc.2.2).2
        rw [zcJ] at h1
        exact h1 r ((rt_strict hc.2.2).2.mem_iff.1 hr)
      · exact h
  exact key l [] (fun _ h => by cases h)
theorem zcX {a : List RowD} (h : z0 a = true) : ∀ r ∈ a, zbi r = true := zcJ.1 (zbm.1 h).2.1
theorem vr_strict {a : List RowD} (h : z0 a = true) : zaX cL a := (zbm.1 h).2.2
theorem vr_of {a : List RowD} (h1 : a.length ≤ 2000) (h2 : ∀ r ∈ a, zbi r = true) (h3 : zaX cL a) : z0 a = true := zbm.2 ⟨h1, zcJ.2 h2, h3⟩
theorem vr_tidy {l : List RowD} (h : zaZ l = true) : z0 (zk l) = true := by
  have t := tidyRs_trs (fun r hr => lightR_row h hr)
  have := lightR_len h
  exact vr_of (by have := t.len; omega) (tidyRs_rows l) t.st
theorem vr_filter {a : List RowD} (h : z0 a = true) (p : RowD → Bool) : z0 (a.filter p) = true :=
  vr_of (Nat.le_trans (List.length_filter_le _ _) (zbm.1 h).1) (fun r hr => zcX h r (List.mem_filter.1 hr).1) (List.Pairwise.filter _ (vr_strict h))
theorem rt_perm {a b : List RowD} (h : z0 a = true) (hp : a.Perm b) : rtL b = a ∧ rtE b = 0 := by
  have e := strict_isort zdt (vr_strict h) hp
  have hb : ordB b = true := by unfold ordB; rw [e]; exact decide_eq_true (vr_strict h)
  have h1 : ¬ (2000 : Int) < ((b.length : Nat) : Int) := by have := (zbm.1 h).1; rw [← hp.length_eq]; omega
  have h2 : zbq b = true := zcJ.2 (fun r hr => zcX h r (hp.mem_iff.2 hr))
  obtain ⟨e1, e2⟩ := zdL h1 h2
  rw [← e1, ← e2]
  unfold ordL ordE; rw [hb, e]; exact ⟨rfl, rfl⟩
theorem rt_self {a : List RowD} (h : z0 a = true) : rtL a = a ∧ rtE a = 0 := rt_perm h (List.Perm.refl a)
theorem rt_cases (l : List RowD) : (rtE l = 0 ∧ z0 (rtL l) = true ∧ (rtL l).Perm l) ∨ (rtE l ≠ 0 ∧ rtL l = []) := by
  by_cases h : rtE l = 0
  · obtain ⟨s1, s2⟩ := rt_strict h
    obtain ⟨r1, r2⟩ := rt_rows h
    exact .inl ⟨h, vr_of (by rw [s2.length_eq]; exact r1) (fun r hr => zcJ.1 r2 r (s2.mem_iff.1 hr)) s1, s2⟩
  · refine .inr ⟨h, ?_⟩
    unfold rtE at h
    unfold rtL
    cases hb : decide (l.length ≤ 2000) && zbq l
    · rfl
    · rw [hb] at h
      simp only [cond_true] at h ⊢
      unfold ordE at h; unfold ordL
      cases ho : ordB l
      · rfl
      · rw [ho] at h; exact absurd rfl h
theorem vr_rt (l : List RowD) : z0 (rtL l) = true := by
  rcases rt_cases l with ⟨_, h, _⟩ | ⟨_, h⟩
  · exact h
  · rw [h]; rfl
theorem rt_len (l : List RowD) : (rtL l).length ≤ l.length := by
  rcases rt_cases l with ⟨_, _, h⟩ | ⟨_, h⟩
  · rw [h.length_eq]; exact Nat.le_refl _
  · rw [h]; exact Nat.zero_le _
theorem fm_filter {α : Type} {f : α → Option α} {p : α → Bool} : ∀ {l : List α}, (∀ r ∈ l, f r = if p r = true then some r else none) → l.filterMap f = l.filter p
  | [], _ => rfl
  | r :: l, h => by
    have e := h r List.mem_cons_self
    have ih := fm_filter (l := l) (fun x hx => h x (List.mem_cons_of_mem _ hx))
    by_cases hp : p r = true
    · rw [if_pos hp] at e; rw [List.filterMap_cons_some e, ih, List.filter_cons_of_pos hp]
    · rw [if_neg hp] at e; rw [List.filterMap_cons_none e, ih, List.filter_cons_of_neg hp]
theorem nd_inj {α β : Type} {f : α → β} : ∀ {l : List α}, (l.map f).Nodup → ∀ {x y : α}, x ∈ l → y ∈ l → f x = f y → x = y
  | [], _, x, y, hx, _, _ => by cases hx
  | a :: l, h, x, y, hx, hy, e => by
    rw [List.map_cons, List.nodup_cons] at h
    rcases List.mem_cons.1 hx with ex | ex <;> rcases List.mem_cons.1 hy with ey | ey
    · rw [ex, ey]
    · exact absurd (List.mem_map.2 ⟨y, ey, by rw [← e, ex]⟩) h.1
    · exact absurd (List.mem_map.2 ⟨x, ex, by rw [e, ey]⟩) h.1
    · exact nd_inj h.2 ex ey e
theorem find_self {mode : Int} {ns : List ByteArray} {a : List RowD} (h : ndT mode ns a) {r : RowD} (hr : r ∈ a) : zcj mode ns (keyT mode ns r) a = some r := by
  obtain ⟨j, q, h1, h2, h3, h4⟩ := findT_some (mode := mode) (ns := ns) (t := keyT mode ns r) (b := a) (List.mem_map.2 ⟨r, hr, rfl⟩)
  rw [h3, nd_inj (f := keyT mode ns) h (List.mem_of_getElem? h2) hr h4]
theorem find_q {mode : Int} {ns : List ByteArray} {b : List RowD} {t : ByteArray} {q : RowD} (h : zcj mode ns t b = some q) : q ∈ b ∧ keyT mode ns q = t :=
  ⟨List.mem_of_find?_eq_some h, by have := List.find?_some h; exact of_decide_eq_true this⟩
/-! ### comparisons -/
theorem cmpB_op {op : ByteArray} (h : cmpB op = true) : opB op = true := by
  have e : doE op 1 1 = (if cmpF op 1 1 = true then 1 else 0, 0) := by unfold doE; rw [if_neg (by decide), if_pos h]
  unfold opB; rw [e]; rfl
theorem do_cmp {op : ByteArray} (h : cmpB op = true) {a b : Int} (ha : zaV a = true) (hb : zaV b = true) : doE op a b = (if cmpF op a b = true then 1 else 0, 0) := by
  unfold doE; rw [if_neg (by rw [ha, hb]; decide), if_pos h]
theorem one_if (c : Bool) : ((if c = true then (1 : Int) else 0) = 1) = (c = true) := by cases c <;> simp
def scP (op : ByteArray) (v : Int) (left : Bool) (r : RowD) : Bool := if left = true then cmpF op v r.v else cmpF op r.v v
theorem sc_cmp {op : ByteArray} (h : cmpB op = true) {a : List RowD} (ha : z0 a = true) {v : Int} (hv : zaV v = true) (left : Bool) : zK op a v left = a.filter (scP op v left) ∧ zaR op a v left = 0 := by
  have hg : zbv op v a = true := by unfold zbv; rw [cmpB_op h, ha, hv]; rfl
  have hF : ∀ r ∈ a, scF op v left r = (if scP op v left r = true then 1 else 0, 0) := fun r hr => by
    have := (zdv (zcX ha r hr)).2
    unfold scF scP
    cases left
    · exact do_cmp h this hv
    · exact do_cmp h hv this
  have h0 : zaG (scF op v left) a = 0 := firstE_0.2 (fun r hr => by rw [hF r hr])
  have ho : zcq op v left a = a.filter (scP op v left) := fm_filter (fun r hr => by
    unfold zcI; rw [if_pos h, hF r hr]; simp only [one_if])
  obtain ⟨e1, e2⟩ := rt_self (vr_filter ha (scP op v left))
  unfold zK zaR
  rw [if_pos hg, if_pos hg, if_pos h0, if_pos h0, ho, e1, e2]; exact ⟨rfl, rfl⟩
def maP (op : ByteArray) (mode : Int) (ns : List ByteArray) (b : List RowD) (r : RowD) : Bool := match zcj mode ns (keyT mode ns r) b with
  | none => false
  | some q => cmpF op r.v q.v
theorem ma_cmp {op : ByteArray} (h : cmpB op = true) {a b : List RowD} (ha : z0 a = true) (hb : z0 b = true) {mode : Int} {ns : List ByteArray} (hn : ndT mode ns a ∧ ndT mode ns b) : zE op a b mode ns = a.filter (maP op mode ns b) ∧ zaF op a b mode ns = 0 := by
  have hg : zbw op a b = true := by unfold zbw; rw [cmpB_op h, ha, hb]; rfl
  have h0 : zaG (maF op mode ns b) a = 0 := firstE_0.2 (fun r hr => by
    unfold maF
    cases hf : zcj mode ns (keyT mode ns r) b with
    | none => rfl
    | some q => simp only; rw [do_cmp h (zdv (zcX ha r hr)).2 (zdv (zcX hb q (find_q hf).1)).2])
  have ho : zb8 op mode ns b a = a.filter (maP op mode ns b) := fm_filter (fun r hr => by
    unfold zcw maP
    cases hf : zcj mode ns (keyT mode ns r) b with
    | none => rfl
    | some q =>
      simp only
      rw [if_pos h, do_cmp h (zdv (zcX ha r hr)).2 (zdv (zcX hb q (find_q hf).1)).2]
      simp only [one_if])
  obtain ⟨e1, e2⟩ := rt_self (vr_filter ha (maP op mode ns b))
  unfold zE zaF
  rw [if_pos hg, if_pos hg, if_pos hn, if_pos hn, if_pos h0, if_pos h0, ho, e1, e2]; exact ⟨rfl, rfl⟩
end Lp
/-
  What is said of vectors (chapter 10): the first call, twice the same, splits.
-/
set_option linter.unusedVariables false
namespace Lp
open Go
/-! ### the first call -/
def al10 : List RowD := [⟨[⟨⟨#[97]⟩, ⟨#[49]⟩⟩], 5⟩]
theorem al10_ls : zbR [⟨⟨#[97]⟩, ⟨#[49]⟩⟩] = true :=
  right_of (by decide) (List.pairwise_singleton _ _) (fun x hx => by rw [List.mem_singleton.1 hx]; unfold okL; rw [name_a]; decide)
theorem one_vr {r : RowD} (h : zbi r = true) : z0 [r] = true :=
  vr_of (by simp) (fun x hx => by rw [List.mem_singleton.1 hx]; exact h) (List.pairwise_singleton _ _)
theorem al10_vr : z0 al10 = true := one_vr (okRow_of al10_ls (by decide))
theorem key10 : keyL 0 [] [⟨⟨#[97]⟩, ⟨#[49]⟩⟩] = [⟨⟨#[97]⟩, ⟨#[49]⟩⟩] := by decide
theorem op_plus : opB ⟨#[43]⟩ = true := by decide
theorem op_minus : opB ⟨#[45]⟩ = true := by decide
theorem nd_one (mode : Int) (ns : List ByteArray) (r : RowD) : ndT mode ns [r] := by unfold ndT zaa; simp
theorem al10_m : zE ⟨#[43]⟩ al10 al10 0 [] = [⟨[⟨⟨#[97]⟩, ⟨#[49]⟩⟩], 10⟩] ∧ zaF ⟨#[43]⟩ al10 al10 0 [] = 0 := by
  have hg : zbw ⟨#[43]⟩ al10 al10 = true := by unfold zbw; rw [op_plus, al10_vr]; rfl
  have hn : ndT 0 [] al10 ∧ ndT 0 [] al10 := ⟨nd_one _ _ _, nd_one _ _ _⟩
  have hf := find_self hn.1 (r := ⟨[⟨⟨#[97]⟩, ⟨#[49]⟩⟩], 5⟩) List.mem_cons_self
  have d : doE ⟨#[43]⟩ 5 5 = (10, 0) := by decide
  have h0 : zaG (maF ⟨#[43]⟩ 0 [] al10) al10 = 0 := firstE_0.2 (fun r hr => by rw [List.mem_singleton.1 hr]; unfold maF; rw [hf]; exact congrArg Prod.snd d)
  have ho : zb8 ⟨#[43]⟩ 0 [] al10 al10 = [⟨[⟨⟨#[97]⟩, ⟨#[49]⟩⟩], 10⟩] := by
    have : zcw ⟨#[43]⟩ 0 [] al10 ⟨[⟨⟨#[97]⟩, ⟨#[49]⟩⟩], 5⟩ = some ⟨[⟨⟨#[97]⟩, ⟨#[49]⟩⟩], 10⟩ := by
      rw [maOne_op hf (by decide), d, key10]
    show List.filterMap (zcw ⟨#[43]⟩ 0 [] al10) [⟨[⟨⟨#[97]⟩, ⟨#[49]⟩⟩], 5⟩] = _
    rw [List.filterMap_cons_some this]; rfl
  obtain ⟨e1, e2⟩ := rt_self (one_vr (r := ⟨[⟨⟨#[97]⟩, ⟨#[49]⟩⟩], 10⟩) (okRow_of al10_ls (by decide)))
  unfold zE zaF
  rw [if_pos hg, if_pos hg, if_pos hn, if_pos hn, if_pos h0, if_pos h0, ho, e1, e2]; exact ⟨rfl, rfl⟩
theorem al10_s : zK ⟨#[45]⟩ al10 1 true = [⟨[⟨⟨#[97]⟩, ⟨#[49]⟩⟩], -4⟩] ∧ zaR ⟨#[45]⟩ al10 1 true = 0 := by
  have hg : zbv ⟨#[45]⟩ 1 al10 = true := by unfold zbv; rw [op_minus, al10_vr]; rfl
  have d : doE ⟨#[45]⟩ 1 5 = (-4, 0) := by decide
  have h0 : zaG (scF ⟨#[45]⟩ 1 true) al10 = 0 := firstE_0.2 (fun r hr => by rw [List.mem_singleton.1 hr]; unfold scF; rw [if_pos rfl, d])
  have ho : zcq ⟨#[45]⟩ 1 true al10 = [⟨[⟨⟨#[97]⟩, ⟨#[49]⟩⟩], -4⟩] := by
    have : zcI ⟨#[45]⟩ 1 true ⟨[⟨⟨#[97]⟩, ⟨#[49]⟩⟩], 5⟩ = some ⟨[⟨⟨#[97]⟩, ⟨#[49]⟩⟩], -4⟩ := by
      unfold zcI; rw [if_neg (by decide)]; unfold scF; rw [if_pos rfl, d, key10]
    show List.filterMap (zcI ⟨#[45]⟩ 1 true) [⟨[⟨⟨#[97]⟩, ⟨#[49]⟩⟩], 5⟩] = _
    rw [List.filterMap_cons_some this]; rfl
  obtain ⟨e1, e2⟩ := rt_self (one_vr (r := ⟨[⟨⟨#[97]⟩, ⟨#[49]⟩⟩], -4⟩) (okRow_of al10_ls (by decide)))
  unfold zK zaR
  rw [if_pos hg, if_pos hg, if_pos h0, if_pos h0, ho, e1, e2]; exact ⟨rfl, rfl⟩
theorem al10_LZ : LZ al10 := fun r hr => by
  rw [List.mem_singleton.1 hr]
  exact ⟨by decide, fun x hx => by rw [List.mem_singleton.1 hx]; decide⟩
end Lp
