/- Walks, printed by a program of mine. -/
import Derived.Test.YtfjinapgehafiaaGreatV21
set_option linter.unusedSimpArgs false
set_option linter.unusedVariables false
set_option maxHeartbeats 4000000
set_option maxRecDepth 100000
namespace Lp
open Go Go.RowKit Go.Proofs

namespace HdYtfjinapgehafiaaGreatV22
theorem zbQ : ∀ w, ((#[⟨"Labels", 50, 0, false, "", "", 0⟩, ⟨"V", 3, 1, false, "", "", 24⟩] : Array Field).mapM fun f => do pure (f.offset, ← Go.sizeOf f.type) : Sem (Array (Nat × Nat))).run Tryz.prog w = .ok ([(0, 1), (1, 1)] : List (Nat × Nat)).toArray w := fun _ => by kernel_rfl
theorem z2 (b o : Nat) : ∀ w, (Instr.fieldAt 53 (.pointer (some ⟨b, o, none⟩)) 0).run Tryz.prog w = .ok (.pointer (some ⟨b, o + 0, none⟩)) w := fun _ => by kernel_rfl
theorem zaj (b o : Nat) : ∀ w, (Instr.fieldAt 53 (.pointer (some ⟨b, o, none⟩)) 1).run Tryz.prog w = .ok (.pointer (some ⟨b, o + 1, none⟩)) w := fun _ => by kernel_rfl
theorem z9 : ∃ i, Tryz.prog.info? 53 = some i ∧ i.zero = some (.agg #[(.slice none 0 0), (.int .i64 0)]) ∧ i.size = 2 ∧ i.bytes = 32 := zaS (by kernel_rfl)
theorem zao : Tryz.prog.underlying 22 = some (.slice 53) := by kernel_rfl
end HdYtfjinapgehafiaaGreatV22
open HdYtfjinapgehafiaaGreatV22

theorem refTidyR_c (l : List RowD) (hl : l.length ≤ 1000000) (hli : ∀ r ∈ l, zam r.ls = true) :
    CD Tryz.prog 19 [] [.sh 2 (l.map RowD.d)] (fun r H' => ∃ v0_, r = .tup [.ov v0_, dI (rtE l)] ∧ H' = [.sl v0_ 2 53 ((rtL l).map RowD.d)]) := by
  refine zy Tryz.func19 rfl (N := 34) rfl rfl (fun C => ?_)
  refine jk [0] rfl ?_
  refine JD.bd 0 rfl (fun bd0 => ?_)
  have nl0 := zZ bd0
  refine jT rfl (oR 2 rfl (oZ rfl (jS rfl (jT rfl (oR 1 rfl (oP rfl (zae (n := l.length) rfl Tryz.runUnderlying22 (by simp only [lm, lc, ln])) (oP rfl (zaz rfl rfl rfl) (oZ rfl ?_))))))))
  refine jD rfl (fun hc1 => ?_) (fun hc1 => ?_)
  · skip
    refine jT rfl (oR 2 rfl (oZ rfl (zs rfl (ze (PD.subH (HSub.nil 2 53) (PD.norm [.sl (.slice none 0 0) 2 53 ((rtL l).map RowD.d)] (by have hw : [] = rtL l := (by first | exact (zcO hc1).1 | exact (zcO hc1).2); rw [show ([] : List D) = List.map RowD.d (rtL l) from congrArg (List.map RowD.d) hw]) ?_))))))
    exact zj Tryz.results19 (.cons (zB (zf rfl) (Cv.ov rfl)) (.cons (zB (zf rfl) (Cv.eq (congrArg (fun n => D.v (.int .i64 n)) (by first | exact (zcO hc1).1 | exact (zcO hc1).2)))) .nil)) rfl (HSub.fst 1 rfl) ⟨(.slice none 0 0), rfl, rfl⟩
  · skip
    refine zq rfl (zc (jS rfl (jT rfl (oR 1 rfl (oZ rfl (jB rfl (jl1 (fun (a_ : Nat) => [(0, .sh 2 (l.map RowD.d)), (4, dN a_)]) (fun a_ => []) (fun a_ => (a_ ≤ l.length) ∧ (zbD (l.take a_) = true)) (fun a_ => l.length - a_) 0 rfl (sa rfl) HSub.rfl' ⟨Nat.zero_le _, rfl⟩ ?_)))))))
    rintro i ⟨hil, hw⟩
    refine ja rfl (jn rfl (jS rfl (jT rfl (oR 2 rfl (oP rfl (zae (n := l.length) rfl Tryz.runUnderlying22 (by simp only [lm, lc, ln])) (oP rfl (zL rfl rfl rfl) (oZ rfl ?_)))))))
    refine jD rfl (fun hc2 => ?_) (fun hc2 => ?_)
    · skip
      obtain ⟨x1, hx1⟩ := zG l i (by omega)
      refine zq rfl (zc (jS rfl (jB rfl (jS rfl ?_))))
      rcases Bool.eq_false_or_eq_true (zba x1.ls) with hg3 | hg3
      · skip
        refine za rfl (oR 2 rfl (oP rfl (zC (k := i) rfl rfl Tryz.runUnderlying22 Tryz.sizeOf53 (by first | rfl | omega) (zt hx1)) (oP rfl (zD rfl z2 rfl) (oP rfl (zH rfl Tryz.isAgg50 rfl) (oW rfl rfl acs Tryz.call49 (refRight_c x1.ls (light_nz (hli x1 (zav hx1)))) (os 19 rfl (congrArg (fun b => D.v (.bool b)) hg3) (oR 4 rfl (oG rfl (zC (k := i) rfl rfl Tryz.runUnderlying22 Tryz.sizeOf53 (by first | rfl | omega) (zt hx1)) (oG rfl (zD rfl zaj rfl) (oG rfl (zH rfl Tryz.isAgg3 rfl) (oV rfl rfl acs Tryz.call37 (refValue_c x1.v) (oG rfl (zaP rfl) (oR 1 rfl (oZ rfl ?_))))))))))))))
        refine jC rfl (fun hc4 => ?_) (fun hc4 => ?_)
        · simp only [bA, bB, bC, bD, bE, bF, bG, bH, bI, bJ] at hc4
          refine jT rfl (oR 2 rfl (oZ rfl (zs rfl (zi (ze (zQ (zi (ze (PD.subH (HSub.nil 2 53) (PD.norm [.sl (.slice none 0 0) 2 53 ((rtL l).map RowD.d)] (by have hw : [] = rtL l := (by first | exact (zdh hx1 (by simp [*])).1 | exact (zdh hx1 (by simp [*])).2); rw [show ([] : List D) = List.map RowD.d (rtL l) from congrArg (List.map RowD.d) hw]) ?_))))))))))
          exact zj Tryz.results19 (.cons (zB (zf rfl) (Cv.ov rfl)) (.cons (zB (zf rfl) (Cv.eq (congrArg (fun n => D.v (.int .i64 n)) (by first | exact (zdh hx1 (by simp [*])).1 | exact (zdh hx1 (by simp [*])).2)))) .nil)) rfl (HSub.fst 1 rfl) ⟨(.slice none 0 0), rfl, rfl⟩
        · simp only [bA, bB, bC, bD, bE, bF, bG, bH, bI, bJ] at hc4
          refine zq rfl (zw (zc (za rfl (oR 1 rfl (oP rfl (zS (c := ((i + 1 : Nat) : Int)) rfl rfl (zF (by omega) (by omega))) (oR 1 rfl (zg rfl ?_)))))))
          exact pl1 (i + 1) (sa rfl) HSub.rfl' ⟨by show i + 1 ≤ l.length; omega, rowsB_snoc hx1 hw hg3 hc4⟩ (by omega)
      · skip
        refine za rfl (oR 2 rfl (oP rfl (zC (k := i) rfl rfl Tryz.runUnderlying22 Tryz.sizeOf53 (by first | rfl | omega) (zt hx1)) (oP rfl (zD rfl z2 rfl) (oP rfl (zH rfl Tryz.isAgg50 rfl) (oW rfl rfl acs Tryz.call49 (refRight_c x1.ls (light_nz (hli x1 (zav hx1)))) (os 19 rfl (congrArg (fun b => D.v (.bool b)) hg3) (oR 10 rfl (oZ rfl (jCt rfl (jT rfl (oR 2 rfl (oZ rfl (zs rfl (zi (ze (zQ (zi (ze (PD.subH (HSub.nil 2 53) (PD.norm [.sl (.slice none 0 0) 2 53 ((rtL l).map RowD.d)] (by have hw : [] = rtL l := (by first | exact (zdh hx1 (by simp [*])).1 | exact (zdh hx1 (by simp [*])).2); rw [show ([] : List D) = List.map RowD.d (rtL l) from congrArg (List.map RowD.d) hw]) ?_))))))))))))))))))))
        exact zj Tryz.results19 (.cons (zB (zf rfl) (Cv.ov rfl)) (.cons (zB (zf rfl) (Cv.eq (congrArg (fun n => D.v (.int .i64 n)) (by first | exact (zdh hx1 (by simp [*])).1 | exact (zdh hx1 (by simp [*])).2)))) .nil)) rfl (HSub.fst 1 rfl) ⟨(.slice none 0 0), rfl, rfl⟩
    · skip
      refine zE rfl (zr (zn (zh (zc (jT rfl (oR 1 rfl (oE rfl (zx [] _ [] rfl rfl (.cons ArgC.id .nil) zo Tryz.call50 (zcE l (by omega)) (.inl rfl)) ?_)))))))
      rintro _ _ ⟨_, ⟨v5, rfl, rfl⟩, rfl⟩
      refine on rfl (oR 4 rfl (oZ rfl (jk [2, 3] rfl (zs rfl (PD.norm [.sl v5 2 53 ((rtL l).map RowD.d)] (by have hw : ordL l = rtL l := (by first | exact (zd6 (by omega) (by rw [← List.take_of_length_le (by omega : l.length ≤ i)]; exact hw)).1 | exact (zd6 (by omega) (by rw [← List.take_of_length_le (by omega : l.length ≤ i)]; exact hw)).2); rw [hw]) ?_)))))
      exact zj Tryz.results19 (.cons (zf rfl) (.cons (zB (zf rfl) (Cv.eq (congrArg (fun n => D.v (.int .i64 n)) (by first | exact (zd6 (by omega) (by rw [← List.take_of_length_le (by omega : l.length ≤ i)]; exact hw)).1 | exact (zd6 (by omega) (by rw [← List.take_of_length_le (by omega : l.length ≤ i)]; exact hw)).2)))) .nil)) rfl (HSub.fst 1 rfl) ⟨v5, rfl, rfl⟩

theorem tidy10_c (l : List RowD) (hl : l.length ≤ 2000) (hli : ∀ r ∈ l, zam r.ls = true) :
    CD Tryz.prog 12 [] [.sh 2 (l.map RowD.d)] (isR ((D.ls 2 RowD.d) (zbt l))) := by
  refine zy Tryz.func12 rfl (N := 54) rfl rfl (fun C => ?_)
  refine jk [0] rfl ?_
  refine JD.bd 0 rfl (fun bd0 => ?_)
  have nl0 := zZ bd0
  refine jT rfl (oR 1 rfl (oZ rfl (jT rfl (oR 1 rfl (oZ rfl (jS rfl (jT rfl (oR 1 rfl (oZ rfl (jB rfl (jl2 (fun (a_ : Nat) (b_ : List RowD) => [(0, .sh 2 (l.map RowD.d)), (2, dZ), (4, dN a_), (3, .sh 2 (b_.map RowD.d))]) (fun a_ b_ => []) (fun a_ b_ => (a_ ≤ l.length) ∧ (b_ = zbt (l.take a_))) (fun a_ b_ => l.length - a_) 0 [] rfl ⟨sk rfl, sk rfl, sk rfl, sc rfl Cv.nil, trivial⟩ HSub.none ⟨Nat.zero_le _, rfl⟩ ?_)))))))))))
  rintro i out ⟨hil, hso⟩
  refine ja rfl (jn rfl ?_)
  have htr := trs_take hli i
  rw [← hso] at htr
  have hol : out.length ≤ 2000 := by have := htr.len; rw [List.length_take] at this; omega
  refine jS rfl (jT rfl (oR 2 rfl (oP rfl (zae (n := l.length) rfl Tryz.runUnderlying22 (by simp only [lm, lc, ln])) (oP rfl (zL rfl rfl rfl) (oZ rfl ?_)))))
  refine jD rfl (fun hc1 => ?_) (fun hc1 => ?_)
  · skip
    obtain ⟨x1, hx1⟩ := zG l i (by omega)
    refine zq rfl (zc (jS rfl (jB rfl (jT rfl (oR 2 rfl (oP rfl (zC (k := i) rfl rfl Tryz.runUnderlying22 Tryz.sizeOf53 (by first | rfl | omega) (zt hx1)) (oP rfl (zD rfl z2 rfl) (oP rfl (zH rfl Tryz.isAgg50 rfl) (oE rfl (zx [] _ [] rfl rfl (.cons ArgC.id .nil) zo Tryz.call36 (refTidy_c x1.ls (light_nz (hli x1 (zav hx1)))) (.inl rfl)) ?_)))))))))
    rintro _ _ ⟨_, ⟨v2, rfl, rfl⟩, rfl⟩
    refine on rfl (oR 5 rfl (oZ rfl (jS rfl (jS rfl ?_))))
    rcases Bool.eq_false_or_eq_true (zaa x1.ls) with hg3 | hg3
    · skip
      refine JD.sub [(0, .sh 2 (l.map RowD.d)), (2, dZ), (3, .sh 2 (out.map RowD.d)), (4, dN i), (5, .ov v2), (6, dB true), (9, dN i), (10, .sh 2 (l.map RowD.d)), (11, dN l.length), (12, dB (decide (((i : Nat) : Int) < ((l.length : Nat) : Int)))), (15, .tup [.ov v2, dB (zaa x1.ls)]), (16, .sh 2 (l.map RowD.d)), (17, dN i), (18, .el (RowD.d x1) 0), (19, .el (RowD.d x1) 0), (20, .sh 2 (x1.ls.map Lbl.d)), (21, .tup [.ov v2, dB (zaa x1.ls)]), (22, .ov v2), (23, dB true)] ⟨sk rfl, sk rfl, sk rfl, sk rfl, sk rfl, se rfl (congrArg (fun b => D.v (.bool b)) (by simp [hg3])), sk rfl, sk rfl, sk rfl, sk rfl, sk rfl, sk rfl, sk rfl, sk rfl, sk rfl, sk rfl, sk rfl, sk rfl, se rfl (congrArg (fun b => D.v (.bool b)) (by simp [hg3])), trivial⟩ (za rfl (oR 5 rfl (oG rfl (zC (k := i) rfl rfl Tryz.runUnderlying22 Tryz.sizeOf53 (by first | rfl | omega) (zt hx1)) (oG rfl (zD rfl zaj rfl) (oG rfl (zH rfl Tryz.isAgg3 rfl) (oV rfl rfl acs Tryz.call37 (refValue_c x1.v) (oG rfl (zaP rfl) (oR 1 rfl (oZ rfl ?_)))))))))
      refine jC rfl (fun hc4 => ?_) (fun hc4 => ?_)
      · simp only [bA, bB, bC, bD, bE, bF, bG, bH, bI, bJ] at hc4
        refine zE rfl (zr (zh (zc (za rfl (oR 1 rfl (oP rfl (zS (c := ((i + 1 : Nat) : Int)) rfl rfl (zF (by omega) (by omega))) (oR 1 rfl (zg rfl ?_))))))))
        exact pl2 (i + 1) out (sa rfl) HSub.none ⟨by show i + 1 ≤ l.length; omega, by show _ = zbt (l.take (i + 1)); rw [tidyRs_snoc hx1, ← hso]; exact (trStep_no (.inr hc4)).symm⟩ (by omega)
      · simp only [bA, bB, bC, bD, bE, bF, bG, bH, bI, bJ] at hc4
        refine zq rfl (zc (jS rfl ?_))
        refine JD.mv (Mv.freeze (K' := [(0, .sh 2 (l.map RowD.d)), (2, dZ), (3, .sh 2 (out.map RowD.d)), (4, dN i), (5, .sh 2 ((zP x1.ls).map Lbl.d)), (6, dB true), (9, dN i), (10, .sh 2 (l.map RowD.d)), (11, dN l.length), (12, dB (decide (((i : Nat) : Int) < ((l.length : Nat) : Int)))), (15, .tup [.sh 2 ((zP x1.ls).map Lbl.d), dB (zaa x1.ls)]), (16, .sh 2 (l.map RowD.d)), (17, dN i), (18, .el (RowD.d x1) 0), (19, .el (RowD.d x1) 0), (20, .sh 2 (x1.ls.map Lbl.d)), (21, .tup [.sh 2 ((zP x1.ls).map Lbl.d), dB (zaa x1.ls)]), (22, .sh 2 ((zP x1.ls).map Lbl.d)), (23, dB true), (24, dB true), (25, dB false), (26, dB false), (27, .sh 2 (l.map RowD.d)), (28, dN i), (29, .el (RowD.d x1) 0), (30, .el (RowD.d x1) 1), (31, dI x1.v), (32, dB (valB x1.v)), (33, dB (!(valB x1.v))), (34, dB (!(valB x1.v)))]) [.sl v2 2 62 ((zP x1.ls).map Lbl.d)] (H1 := []) (H1' := []) ⟨⟨_, rfl, ArgC.id⟩, ⟨_, rfl, ArgC.id⟩, ⟨_, rfl, ArgC.id⟩, ⟨_, rfl, ArgC.id⟩, ⟨_, rfl, ArgC.own (j := 0) rfl rfl⟩, ⟨_, rfl, ArgC.id⟩, ⟨_, rfl, ArgC.id⟩, ⟨_, rfl, ArgC.id⟩, ⟨_, rfl, ArgC.id⟩, ⟨_, rfl, ArgC.id⟩, ⟨_, rfl, ArgC.tup (.cons (ArgC.own (j := 0) rfl rfl) (.cons ArgC.id .nil))⟩, ⟨_, rfl, ArgC.id⟩, ⟨_, rfl, ArgC.id⟩, ⟨_, rfl, ArgC.id⟩, ⟨_, rfl, ArgC.id⟩, ⟨_, rfl, ArgC.id⟩, ⟨_, rfl, ArgC.tup (.cons (ArgC.own (j := 0) rfl rfl) (.cons ArgC.id .nil))⟩, ⟨_, rfl, ArgC.own (j := 0) rfl rfl⟩, ⟨_, rfl, ArgC.id⟩, ⟨_, rfl, ArgC.id⟩, ⟨_, rfl, ArgC.id⟩, ⟨_, rfl, ArgC.id⟩, ⟨_, rfl, ArgC.id⟩, ⟨_, rfl, ArgC.id⟩, ⟨_, rfl, ArgC.id⟩, ⟨_, rfl, ArgC.id⟩, ⟨_, rfl, ArgC.id⟩, ⟨_, rfl, ArgC.id⟩, ⟨_, rfl, ArgC.id⟩, ⟨_, rfl, ArgC.id⟩, trivial⟩ .nil) ?_
        refine jk [0, 2, 3, 4, 5, 6, 9, 10, 11, 12, 15, 16, 17, 18, 19, 20, 21, 22, 23, 24, 25, 26, 27, 28, 29, 30, 31, 32, 33, 34] rfl (jn rfl ?_)
        refine zbA 16 [(36, .q (.sh 2 (out.map RowD.d))), (37, .o (fun γ => [.sl (γ 1) 2 53 (out.map RowD.d)])), (38, .q (.sh 2 ((zP x1.ls).map Lbl.d))), (39, .q (.sh 2 (l.map RowD.d))), (40, .q (dN i)), (41, .q (.el (RowD.d x1) 0)), (42, .q (.el (RowD.d x1) 1)), (43, .q (dI x1.v)), (44, .q (.agg [.sh 2 ((zP x1.ls).map Lbl.d), dI x1.v])), (45, .q (.sh 2 ([(RowD.mk (zP x1.ls) x1.v)].map RowD.d))), (46, .o (fun γ => [.sl (γ 10) 2 53 ((out ++ [(RowD.mk (zP x1.ls) x1.v)]).map RowD.d)])), (47, .e (.tup [.sh 2 ((rtL (out ++ [(RowD.mk (zP x1.ls) x1.v)])).map RowD.d), dI (rtE (out ++ [(RowD.mk (zP x1.ls) x1.v)]))]) (fun γ => [])), (35, .q (.tup [.sh 2 ((rtL (out ++ [(RowD.mk (zP x1.ls) x1.v)])).map RowD.d), dI (rtE (out ++ [(RowD.mk (zP x1.ls) x1.v)]))])), (48, .q (.sh 2 ((rtL (out ++ [(RowD.mk (zP x1.ls) x1.v)])).map RowD.d))), (49, .q (dI (rtE (out ++ [(RowD.mk (zP x1.ls) x1.v)])))), (7, .q (.sh 2 ((rtL (out ++ [(RowD.mk (zP x1.ls) x1.v)])).map RowD.d)))] [] (Hn := fun γ => []) zah rfl rfl (by kernel_rfl) (by kernel_rfl) (by kernel_rfl) HSub.rfl' (fun _ => rfl) (fun γ => ⟨so_p rfl rfl rfl (zm rfl), so_o rfl rfl rfl rfl ((zbs (f := RowD.d) (l' := out) rfl rfl (SrcD.sh) zao z9 rfl rfl (by unfold maxLen; (try simp only [la, lc, ln, lm, lt', ld, ls, lr]); omega) (by (try simp only [la, lc, ln, lm, lt', ld, ls, lr]); omega)).mono (by rintro _ _ ⟨v, rfl, rfl⟩; exact ⟨v, rfl, rfl⟩)) (fun _ => HSub.lst 1 rfl), so_p rfl rfl rfl (zm rfl), so_p rfl rfl rfl (zm rfl), so_p rfl rfl rfl (zm rfl), so_p rfl rfl rfl (zC (k := i) rfl rfl Tryz.runUnderlying22 Tryz.sizeOf53 (by first | rfl | omega) (zt hx1)), so_p rfl rfl rfl (zD rfl zaj rfl), so_p rfl rfl rfl (zH rfl Tryz.isAgg3 rfl), so_p rfl rfl rfl (zbx [0, 1] [.tmp 38, .tmp 43] (zv := (.agg #[(.slice none 0 0), (.int .i64 0)])) rfl rfl (.cons CellD.sh (.cons (CellD.v rfl) .nil)) (Tryz.runUnderlying53) Tryz.zeroValue53 zbQ ⟨rfl, rfl, trivial⟩ rfl), so_q rfl rfl rfl (zaN [.tmp 44] rfl rfl (.cons CellD.agg .nil) rfl Tryz.runUnderlying22 Tryz.sizeOf53 Tryz.zeroValue53 rfl rfl rfl rfl), so_o rfl rfl rfl rfl ((zK (f := RowD.d) (l := out) (l' := [(RowD.mk (zP x1.ls) x1.v)]) (i := 0) rfl rfl rfl (SrcD.sh) zao z9 rfl rfl (by unfold maxLen; (try simp only [la, lc, ln, lm, lt', ld, ls, lr]); omega) (by (try simp only [la, lc, ln, lm, lt', ld, ls, lr]); omega)).mono (by rintro _ _ ⟨v, rfl, rfl⟩; exact ⟨v, rfl, rfl⟩)) (fun _ => HSub.lst 1 rfl), so_e rfl rfl rfl rfl (Ef.fz (Hr := []) (d := .tup [.sh 2 ((rtL (out ++ [(RowD.mk (zP x1.ls) x1.v)])).map RowD.d), dI (rtE (out ++ [(RowD.mk (zP x1.ls) x1.v)]))]) (Ef.mv (Mvk.freeze (K' := [(46, .sh 2 ((out ++ [(RowD.mk (zP x1.ls) x1.v)]).map RowD.d))]) [.sl (γ 10) 2 53 ((out ++ [(RowD.mk (zP x1.ls) x1.v)]).map RowD.d)] (H1 := []) (H1' := []) ⟨⟨_, rfl, ArgC.own (j := 0) rfl rfl⟩, trivial⟩ .nil) (zx [] [] [] rfl rfl (.cons ArgC.id .nil) zo Tryz.call19 (refTidyR_c (out ++ [(RowD.mk (zP x1.ls) x1.v)]) (by first | omega | (simp only [la, List.length_singleton]; omega)) (by intro r hr; rcases List.mem_append.1 hr with e | e; (exact htr.li r e); (rw [List.mem_singleton.1 e]; exact tidyL_light (hli x1 (zav hx1))))) (.inl rfl))) (by rintro _ _ ⟨_, ⟨v, rfl, rfl⟩, rfl⟩; exact ⟨[.sl v 2 53 ((rtL (out ++ [(RowD.mk (zP x1.ls) x1.v)])).map RowD.d)], rfl, ArgC.tup (.cons (ArgC.own (j := 0) rfl rfl) (.cons ArgC.id .nil))⟩)) HSub.rfl', so_p rfl rfl rfl (zm rfl), so_p rfl rfl rfl (zc3 rfl rfl), so_p rfl rfl rfl (zc3 rfl rfl), so_p rfl rfl rfl (zdu rfl), trivial⟩) (fun γ => ?_)
        refine ok [0, 2, 3, 4, 5, 6, 7, 9, 10, 11, 12, 15, 16, 17, 18, 19, 20, 21, 22, 23, 24, 25, 26, 27, 28, 29, 30, 31, 32, 33, 34, 35, 36, 37, 38, 39, 40, 41, 42, 43, 44, 45, 46, 47, 48, 49] rfl (oR 1 rfl (oZ rfl (jT rfl (oR 1 rfl (oP rfl (zV rfl rfl rfl) (oZ rfl ?_))))))
        refine jD rfl (fun hc5 => ?_) (fun hc5 => ?_)
        · skip
          refine za rfl (oR 2 rfl (zg rfl (zw (zc (za rfl (oR 1 rfl (oP rfl (zS (c := ((i + 1 : Nat) : Int)) rfl rfl (zF (by omega) (by omega))) (oR 1 rfl (zg rfl ?_)))))))))
          exact pl2 (i + 1) (rtL (out ++ [(RowD.mk (zP x1.ls) x1.v)])) (sa rfl) HSub.none ⟨by show i + 1 ≤ l.length; omega, by show _ = zbt (l.take (i + 1)); rw [tidyRs_snoc hx1, ← hso]; exact (trStep_t hg3 hc4 hc5).symm⟩ (by omega)
        · skip
          refine zq rfl (zw (zc (za rfl (oR 1 rfl (oP rfl (zS (c := ((i + 1 : Nat) : Int)) rfl rfl (zF (by omega) (by omega))) (oR 1 rfl (zg rfl ?_)))))))
          exact pl2 (i + 1) out (sa rfl) HSub.none ⟨by show i + 1 ≤ l.length; omega, by show _ = zbt (l.take (i + 1)); rw [tidyRs_snoc hx1, ← hso]; exact (trStep_f hc5).symm⟩ (by omega)
    · skip
      refine JD.sub [(0, .sh 2 (l.map RowD.d)), (2, dZ), (3, .sh 2 (out.map RowD.d)), (4, dN i), (5, .ov v2), (6, dB false), (9, dN i), (10, .sh 2 (l.map RowD.d)), (11, dN l.length), (12, dB (decide (((i : Nat) : Int) < ((l.length : Nat) : Int)))), (15, .tup [.ov v2, dB (zaa x1.ls)]), (16, .sh 2 (l.map RowD.d)), (17, dN i), (18, .el (RowD.d x1) 0), (19, .el (RowD.d x1) 0), (20, .sh 2 (x1.ls.map Lbl.d)), (21, .tup [.ov v2, dB (zaa x1.ls)]), (22, .ov v2), (23, dB false)] ⟨sk rfl, sk rfl, sk rfl, sk rfl, sk rfl, se rfl (congrArg (fun b => D.v (.bool b)) (by simp [hg3])), sk rfl, sk rfl, sk rfl, sk rfl, sk rfl, sk rfl, sk rfl, sk rfl, sk rfl, sk rfl, sk rfl, sk rfl, se rfl (congrArg (fun b => D.v (.bool b)) (by simp [hg3])), trivial⟩ (za rfl (oR 11 rfl (oZ rfl (jCt rfl (zE rfl (zr (zh (zc (za rfl (oR 1 rfl (oP rfl (zS (c := ((i + 1 : Nat) : Int)) rfl rfl (zF (by omega) (by omega))) (oR 1 rfl (zg rfl ?_)))))))))))))
      exact pl2 (i + 1) out (sa rfl) HSub.none ⟨by show i + 1 ≤ l.length; omega, by show _ = zbt (l.take (i + 1)); rw [tidyRs_snoc hx1, ← hso]; exact (trStep_no (.inl hg3)).symm⟩ (by omega)
  · skip
    refine zE rfl (zr (zn (zh (zc (jT rfl (oR 2 rfl (oZ rfl (zs rfl ?_))))))))
    exact zj Tryz.results12 (.cons (zB (zf rfl) (Cv.eq (congrArg (D.ls 2 RowD.d) (show out = zbt l from (by rw [hso, List.take_of_length_le (by omega)]))))) .nil) rfl HSub.none ⟨rfl, rfl⟩
end Lp
/-
  What is said of vectors (chapter 10), as plain data.
-/
set_option linter.unusedVariables false
namespace Lp
open Go
/-! ### rows that may be -/
theorem zcX {l : List RowD} : zbD l = true ↔ ∀ r ∈ l, za1 r = true := by rw [zdr, List.all_eq_true]
theorem right_n {l : List Lbl} (h : zba l = true) : zP l = l ∧ zaY l = 0 ∧ NSrt l ∧ (∀ x ∈ l, okL x = true) ∧ l.length ≤ 8 := by
  unfold zba at h
  rw [Bool.and_eq_true, decide_eq_true_eq] at h
  have e := zdf.1 h.2
  have e0 : zaY l = 0 := by have := tidyOk_E l; rw [h.1] at this; exact of_decide_eq_true this
  have hn := zea e0
  rw [e] at hn
  exact ⟨e, e0, hn.1, hn.2, tidy_ok_len h.1⟩
theorem right_of {l : List Lbl} (h1 : l.length ≤ 8) (h2 : NSrt l) (h3 : ∀ x ∈ l, okL x = true) : zba l = true := by
  obtain ⟨e1, e2⟩ := tidyOk_of h1 h2 (List.Perm.refl l) h3
  unfold zba zP
  rw [e1, e2]
  simp [cmpLs_self]
theorem right_pick {l : List Lbl} (h : zba l = true) (ns : List ByteArray) (w : Bool) : zba (zaQ l ns w) = true := by
  obtain ⟨_, _, h3, h4, h5⟩ := right_n h
  exact right_of (Nat.le_trans (zbB _ _ _) h5) (List.Pairwise.filter _ h3) (fun x hx => h4 x (zc2 hx))
theorem right_key {l : List Lbl} (h : zba l = true) (mode : Int) (ns : List ByteArray) : zba (keyL mode ns l) = true := by
  unfold keyL
  split
  · exact right_pick h _ _
  · split
    · exact right_pick (right_pick h _ _) _ _
    · exact right_pick h _ _
theorem okRow_r {r : RowD} (h : za1 r = true) : zba r.ls = true ∧ zU r.v = true := by unfold za1 at h; rwa [Bool.and_eq_true] at h
theorem zdw {r : RowD} (h1 : zba r.ls = true) (h2 : zU r.v = true) : za1 r = true := by unfold za1; rw [h1, h2]; rfl
theorem rt_rows {l : List RowD} (h : rtE l = 0) : l.length ≤ 2000 ∧ zbD l = true := by
  unfold rtE at h
  cases hb : decide (l.length ≤ 2000) && zbD l
  · rw [hb] at h; cases h
  · rw [Bool.and_eq_true, decide_eq_true_eq] at hb; exact hb
theorem zcM {a : List RowD} (h : zT a = true) : ∀ r ∈ a, za1 r = true := zcX.1 (zaH.1 h).2.1
theorem vr_strict {a : List RowD} (h : zT a = true) : zaI cL a := (zaH.1 h).2.2
theorem vr_of {a : List RowD} (h1 : a.length ≤ 2000) (h2 : ∀ r ∈ a, za1 r = true) (h3 : zaI cL a) : zT a = true := zaH.2 ⟨h1, zcX.2 h2, h3⟩
theorem rt_perm {a b : List RowD} (h : zT a = true) (hp : a.Perm b) : rtL b = a ∧ rtE b = 0 := by
  have e := strict_isort zdE (vr_strict h) hp
  have hb : ordB b = true := by unfold ordB; rw [e]; exact decide_eq_true (vr_strict h)
  have h1 : ¬ (2000 : Int) < ((b.length : Nat) : Int) := by have := (zaH.1 h).1; rw [← hp.length_eq]; omega
  have h2 : zbD b = true := zcX.2 (fun r hr => zcM h r (hp.mem_iff.2 hr))
  obtain ⟨e1, e2⟩ := zd6 h1 h2
  rw [← e1, ← e2]
  unfold ordL ordE; rw [hb, e]; exact ⟨rfl, rfl⟩
theorem rt_self {a : List RowD} (h : zT a = true) : rtL a = a ∧ rtE a = 0 := rt_perm h (List.Perm.refl a)
theorem rt_cases (l : List RowD) : (rtE l = 0 ∧ zT (rtL l) = true ∧ (rtL l).Perm l) ∨ (rtE l ≠ 0 ∧ rtL l = []) := by
  by_cases h : rtE l = 0
  · obtain ⟨s1, s2⟩ := rt_strict h
    obtain ⟨r1, r2⟩ := rt_rows h
    exact .inl ⟨h, vr_of (by rw [s2.length_eq]; exact r1) (fun r hr => zcX.1 r2 r (s2.mem_iff.1 hr)) s1, s2⟩
  · refine .inr ⟨h, ?_⟩
    unfold rtE at h
    unfold rtL
    cases hb : decide (l.length ≤ 2000) && zbD l
    · rfl
    · rw [hb] at h
      simp only [cond_true] at h ⊢
      unfold ordE at h; unfold ordL
      cases ho : ordB l
      · rfl
      · rw [ho] at h; exact absurd rfl h
theorem rt_len (l : List RowD) : (rtL l).length ≤ l.length := by
  rcases rt_cases l with ⟨_, _, h⟩ | ⟨_, h⟩
  · rw [h.length_eq]; exact Nat.le_refl _
  · rw [h]; exact Nat.zero_le _
theorem nd_inj {α β : Type} {f : α → β} : ∀ {l : List α}, (l.map f).Nodup → ∀ {x y : α}, x ∈ l → y ∈ l → f x = f y → x = y
  | [], _, x, y, hx, _, _ => by cases hx
  | a :: l, h, x, y, hx, hy, e => by
    rw [List.map_cons, List.nodup_cons] at h
    rcases List.mem_cons.1 hx with ex | ex <;> rcases List.mem_cons.1 hy with ey | ey
    · rw [ex, ey]
    · exact absurd (List.mem_map.2 ⟨y, ey, by rw [← e, ex]⟩) h.1
    · exact absurd (List.mem_map.2 ⟨x, ex, by rw [e, ey]⟩) h.1
    · exact nd_inj h.2 ex ey e
theorem find_self {mode : Int} {ns : List ByteArray} {a : List RowD} (h : ndT mode ns a) {r : RowD} (hr : r ∈ a) : zbH mode ns (keyT mode ns r) a = some r := by
  obtain ⟨j, q, h1, h2, h3, h4⟩ := findT_some (mode := mode) (ns := ns) (t := keyT mode ns r) (b := a) (List.mem_map.2 ⟨r, hr, rfl⟩)
  rw [h3, nd_inj (f := keyT mode ns) h (List.mem_of_getElem? h2) hr h4]
theorem text_inj {a b : List Lbl} (ha : zba a = true) (hb : zba b = true) (h : zcv a = zcv b) : a = b := by
  obtain ⟨a1, a2, _⟩ := right_n ha
  obtain ⟨b1, b2, _⟩ := right_n hb
  have := textB_inj a2 b2 (by rw [a1, b1]; exact h)
  rwa [a1, b1] at this
theorem key_eq {mode : Int} {ns : List ByteArray} {q r : RowD} (hq : za1 q = true) (hr : za1 r = true) : keyT mode ns q = keyT mode ns r ↔ keyL mode ns q.ls = keyL mode ns r.ls :=
  ⟨fun h => text_inj (right_key (okRow_r hq).1 _ _) (right_key (okRow_r hr).1 _ _) h, fun h => by unfold keyT; rw [h]⟩
theorem nd_of_keys {mode : Int} {ns : List ByteArray} {a : List RowD} (h : ∀ r ∈ a, za1 r = true) : ndT mode ns a ↔ (a.map (fun r => keyL mode ns r.ls)).Nodup := by
  unfold ndT zaF
  induction a with
  | nil => simp
  | cons x a ih =>
    have ih := ih (fun r hr => h r (List.mem_cons_of_mem _ hr))
    rw [List.map_cons, List.map_cons, List.nodup_cons, List.nodup_cons, ih]
    refine and_congr (not_congr ⟨fun hm => ?_, fun hm => ?_⟩) Iff.rfl
    · obtain ⟨y, hy, e⟩ := List.mem_map.1 hm
      exact List.mem_map.2 ⟨y, hy, (key_eq (h y (List.mem_cons_of_mem _ hy)) (h x List.mem_cons_self)).1 e⟩
    · obtain ⟨y, hy, e⟩ := List.mem_map.1 hm
      exact List.mem_map.2 ⟨y, hy, (key_eq (h y (List.mem_cons_of_mem _ hy)) (h x List.mem_cons_self)).2 e⟩
theorem strict_ls {a : List RowD} (h : zaI cL a) : (a.map (·.ls)).Nodup := by
  rw [List.Nodup, List.pairwise_map]
  exact List.Pairwise.imp (fun {x y} hxy e => by unfold cL at hxy; rw [e, cmpLs_self] at hxy; omega) h
/-! ### comparisons -/
theorem cmpB_op {op : ByteArray} (h : cmpB op = true) : opB op = true := by
  have e : doE op 1 1 = (if cmpF op 1 1 = true then 1 else 0, 0) := by unfold doE; rw [if_neg (by decide), if_pos h]
  unfold opB; rw [e]; rfl
theorem do_cmp {op : ByteArray} (h : cmpB op = true) {a b : Int} (ha : zU a = true) (hb : zU b = true) : doE op a b = (if cmpF op a b = true then 1 else 0, 0) := by
  unfold doE; rw [if_neg (by rw [ha, hb]; decide), if_pos h]
theorem runes_two {s : ByteArray} {r q : Nat} (h0 : 1 < s.size) (h1 : decR s 0 = r) (hw : decW s 0 = 1) (h2 : decR s 1 = q) (h3 : s.size ≤ 1 + decW s 1) : zaZ s = [(r : Int), (q : Int)] := by
  unfold zaZ; rw [zbG (by omega), hw, h1, zbG (by omega), h2, zcg (by omega)]
theorem cmpF_eq (a b : Int) : cmpF ⟨#[61, 61]⟩ a b = decide (a = b) := by
  unfold cmpF; rw [runes_two (r := 61) (q := 61) (by decide) (by decide) (by decide) (by decide) (by decide)]
  simp [zcU]
theorem cmpF_ne (a b : Int) : cmpF ⟨#[33, 61]⟩ a b = decide (a ≠ b) := by
  unfold cmpF; rw [runes_two (r := 33) (q := 61) (by decide) (by decide) (by decide) (by decide) (by decide)]
  simp [zcU]
theorem cmpF_lt (a b : Int) : cmpF ⟨#[60]⟩ a b = decide (a < b) := by
  unfold cmpF; rw [runes_one (r := 60) (by decide) (by decide) (by decide)]
  simp [zcU]
theorem cmpF_gt (a b : Int) : cmpF ⟨#[62]⟩ a b = decide (b < a) := by
  unfold cmpF; rw [runes_one (r := 62) (by decide) (by decide) (by decide)]
  simp [zcU]
theorem cmpF_le (a b : Int) : cmpF ⟨#[60, 61]⟩ a b = decide (a ≤ b) := by
  unfold cmpF; rw [runes_two (r := 60) (q := 61) (by decide) (by decide) (by decide) (by decide) (by decide)]
  by_cases h : a < b <;> by_cases h2 : a = b <;> simp [zcU, h, h2] <;> omega
theorem cmpF_ge (a b : Int) : cmpF ⟨#[62, 61]⟩ a b = decide (b ≤ a) := by
  unfold cmpF; rw [runes_two (r := 62) (q := 61) (by decide) (by decide) (by decide) (by decide) (by decide)]
  by_cases h : b < a <;> by_cases h2 : a = b <;> simp [zcU, h, h2] <;> omega
end Lp
/-
  What is said of vectors (chapter 10): the first call, twice the same, splits.
-/
set_option linter.unusedVariables false
namespace Lp
open Go
/-! ### the first call -/
def al10 : List RowD := [⟨[⟨⟨#[97]⟩, ⟨#[49]⟩⟩], 5⟩]
theorem al10_ls : zba [⟨⟨#[97]⟩, ⟨#[49]⟩⟩] = true :=
  right_of (by decide) (List.pairwise_singleton _ _) (fun x hx => by rw [List.mem_singleton.1 hx]; unfold okL; rw [name_a]; decide)
theorem one_vr {r : RowD} (h : za1 r = true) : zT [r] = true :=
  vr_of (by simp) (fun x hx => by rw [List.mem_singleton.1 hx]; exact h) (List.pairwise_singleton _ _)
theorem al10_vr : zT al10 = true := one_vr (zdw al10_ls (by decide))
theorem key10 : keyL 0 [] [⟨⟨#[97]⟩, ⟨#[49]⟩⟩] = [⟨⟨#[97]⟩, ⟨#[49]⟩⟩] := by decide
theorem op_plus : opB ⟨#[43]⟩ = true := by decide
theorem op_minus : opB ⟨#[45]⟩ = true := by decide
theorem nd_one (mode : Int) (ns : List ByteArray) (r : RowD) : ndT mode ns [r] := by unfold ndT zaF; simp
theorem al10_m : zp ⟨#[43]⟩ al10 al10 0 [] = [⟨[⟨⟨#[97]⟩, ⟨#[49]⟩⟩], 10⟩] ∧ zac ⟨#[43]⟩ al10 al10 0 [] = 0 := by
  have hg : zbl ⟨#[43]⟩ al10 al10 = true := by unfold zbl; rw [op_plus, al10_vr]; rfl
  have hn : ndT 0 [] al10 ∧ ndT 0 [] al10 := ⟨nd_one _ _ _, nd_one _ _ _⟩
  have hf := find_self hn.1 (r := ⟨[⟨⟨#[97]⟩, ⟨#[49]⟩⟩], 5⟩) List.mem_cons_self
  have d : doE ⟨#[43]⟩ 5 5 = (10, 0) := by decide
  have h0 : zaD (maF ⟨#[43]⟩ 0 [] al10) al10 = 0 := firstE_0.2 (fun r hr => by rw [List.mem_singleton.1 hr]; unfold maF; rw [hf]; exact congrArg Prod.snd d)
  have ho : zbM ⟨#[43]⟩ 0 [] al10 al10 = [⟨[⟨⟨#[97]⟩, ⟨#[49]⟩⟩], 10⟩] := by
    have : zbr ⟨#[43]⟩ 0 [] al10 ⟨[⟨⟨#[97]⟩, ⟨#[49]⟩⟩], 5⟩ = some ⟨[⟨⟨#[97]⟩, ⟨#[49]⟩⟩], 10⟩ := by
      rw [maOne_op hf (by decide), d, key10]
    show List.filterMap (zbr ⟨#[43]⟩ 0 [] al10) [⟨[⟨⟨#[97]⟩, ⟨#[49]⟩⟩], 5⟩] = _
    rw [List.filterMap_cons_some this]; rfl
  obtain ⟨e1, e2⟩ := rt_self (one_vr (r := ⟨[⟨⟨#[97]⟩, ⟨#[49]⟩⟩], 10⟩) (zdw al10_ls (by decide)))
  unfold zp zac
  rw [if_pos hg, if_pos hg, if_pos hn, if_pos hn, if_pos h0, if_pos h0, ho, e1, e2]; exact ⟨rfl, rfl⟩
theorem al10_s : zb ⟨#[45]⟩ al10 1 true = [⟨[⟨⟨#[97]⟩, ⟨#[49]⟩⟩], -4⟩] ∧ zX ⟨#[45]⟩ al10 1 true = 0 := by
  have hg : zbi ⟨#[45]⟩ 1 al10 = true := by unfold zbi; rw [op_minus, al10_vr]; rfl
  have d : doE ⟨#[45]⟩ 1 5 = (-4, 0) := by decide
  have h0 : zaD (scF ⟨#[45]⟩ 1 true) al10 = 0 := firstE_0.2 (fun r hr => by rw [List.mem_singleton.1 hr]; unfold scF; rw [if_pos rfl, d])
  have ho : zcd ⟨#[45]⟩ 1 true al10 = [⟨[⟨⟨#[97]⟩, ⟨#[49]⟩⟩], -4⟩] := by
    have : zbL ⟨#[45]⟩ 1 true ⟨[⟨⟨#[97]⟩, ⟨#[49]⟩⟩], 5⟩ = some ⟨[⟨⟨#[97]⟩, ⟨#[49]⟩⟩], -4⟩ := by
      unfold zbL; rw [if_neg (by decide)]; unfold scF; rw [if_pos rfl, d, key10]
    show List.filterMap (zbL ⟨#[45]⟩ 1 true) [⟨[⟨⟨#[97]⟩, ⟨#[49]⟩⟩], 5⟩] = _
    rw [List.filterMap_cons_some this]; rfl
  obtain ⟨e1, e2⟩ := rt_self (one_vr (r := ⟨[⟨⟨#[97]⟩, ⟨#[49]⟩⟩], -4⟩) (zdw al10_ls (by decide)))
  unfold zb zX
  rw [if_pos hg, if_pos hg, if_pos h0, if_pos h0, ho, e1, e2]; exact ⟨rfl, rfl⟩
theorem al10_LZ : LZ al10 := fun r hr => by
  rw [List.mem_singleton.1 hr]
  exact ⟨by decide, fun x hx => by rw [List.mem_singleton.1 hx]; decide⟩
theorem do_minus {a b : Int} (ha : zU a = true) (hb : zU b = true) : doE ⟨#[45]⟩ a b = zaO (a - b) := by
  unfold doE; rw [if_neg (by rw [ha, hb]; decide), if_neg (by decide), if_neg (by decide), if_pos rfl]
theorem do_plus {a b : Int} (ha : zU a = true) (hb : zU b = true) : doE ⟨#[43]⟩ a b = zaO (a + b) := by
  unfold doE; rw [if_neg (by rw [ha, hb]; decide), if_neg (by decide), if_pos rfl]
end Lp
/- Walks, printed by a program of mine. -/
set_option linter.unusedSimpArgs false
set_option linter.unusedVariables false
set_option maxHeartbeats 4000000
set_option maxRecDepth 100000
namespace Lp
open Go Go.RowKit Go.Proofs

namespace HdYtfjinapgehafiaaGreatV65
theorem zbQ : ∀ w, ((#[⟨"Labels", 50, 0, false, "", "", 0⟩, ⟨"V", 3, 1, false, "", "", 24⟩] : Array Field).mapM fun f => do pure (f.offset, ← Go.sizeOf f.type) : Sem (Array (Nat × Nat))).run Tryz.prog w = .ok ([(0, 1), (1, 1)] : List (Nat × Nat)).toArray w := fun _ => by kernel_rfl
theorem bd_62 : ∀ w, ((#[⟨"Name", 9, 0, false, "", "", 0⟩, ⟨"Value", 9, 1, false, "", "", 16⟩] : Array Field).mapM fun f => do pure (f.offset, ← Go.sizeOf f.type) : Sem (Array (Nat × Nat))).run Tryz.prog w = .ok ([(0, 1), (1, 1)] : List (Nat × Nat)).toArray w := fun _ => by kernel_rfl
theorem zaj (b o : Nat) : ∀ w, (Instr.fieldAt 53 (.pointer (some ⟨b, o, none⟩)) 1).run Tryz.prog w = .ok (.pointer (some ⟨b, o + 1, none⟩)) w := fun _ => by kernel_rfl
end HdYtfjinapgehafiaaGreatV65
open HdYtfjinapgehafiaaGreatV65

theorem alive10_c   :
    CD Tryz.prog 11 [] [] (isR (dB true)) := by
  refine zy Tryz.func11 rfl (N := 55) rfl rfl (fun C => ?_)
  refine jk [] rfl ?_
  have am1 : zp (⟨#[43]⟩ : ByteArray) [(RowD.mk [(Lbl.mk (⟨#[97]⟩ : ByteArray) (⟨#[49]⟩ : ByteArray))] 5)] [(RowD.mk [(Lbl.mk (⟨#[97]⟩ : ByteArray) (⟨#[49]⟩ : ByteArray))] 5)] 0 [] = [(RowD.mk [(Lbl.mk (⟨#[97]⟩ : ByteArray) (⟨#[49]⟩ : ByteArray))] 10)] := al10_m.1
  have am2 : zac (⟨#[43]⟩ : ByteArray) [(RowD.mk [(Lbl.mk (⟨#[97]⟩ : ByteArray) (⟨#[49]⟩ : ByteArray))] 5)] [(RowD.mk [(Lbl.mk (⟨#[97]⟩ : ByteArray) (⟨#[49]⟩ : ByteArray))] 5)] 0 [] = 0 := al10_m.2
  have as1 : zb (⟨#[45]⟩ : ByteArray) [(RowD.mk [(Lbl.mk (⟨#[97]⟩ : ByteArray) (⟨#[49]⟩ : ByteArray))] 5)] 1 true = [(RowD.mk [(Lbl.mk (⟨#[97]⟩ : ByteArray) (⟨#[49]⟩ : ByteArray))] (-4))] := al10_s.1
  have as2 : zX (⟨#[45]⟩ : ByteArray) [(RowD.mk [(Lbl.mk (⟨#[97]⟩ : ByteArray) (⟨#[49]⟩ : ByteArray))] 5)] 1 true = 0 := al10_s.2
  have av : zT [(RowD.mk [(Lbl.mk (⟨#[97]⟩ : ByteArray) (⟨#[49]⟩ : ByteArray))] 5)] = true := al10_vr
  refine jT rfl (oR 1 rfl (oZ rfl (jT rfl (oP rfl (zbx [0, 1] [.const (.string (⟨#[97]⟩ : ByteArray)), .const (.string (⟨#[49]⟩ : ByteArray))] (zv := (.agg #[(.string ByteArray.empty), (.string ByteArray.empty)])) rfl rfl (.cons (CellD.v rfl) (.cons (CellD.v rfl) .nil)) (Tryz.runUnderlying62) Tryz.zeroValue62 bd_62 ⟨rfl, rfl, trivial⟩ rfl) (oE rfl (Qu.ef (d := .sh 2 ([(Lbl.mk (⟨#[97]⟩ : ByteArray) (⟨#[49]⟩ : ByteArray))].map Lbl.d)) ((zaN [.tmp 6] rfl rfl (.cons CellD.agg .nil) rfl Tryz.runUnderlying50 Tryz.sizeOf62 Tryz.zeroValue62 rfl rfl rfl rfl).cv (Cv.shs (.cons (Cv.agg (.cons ((Cv.str (by first | decide | (unfold maxLen; omega)))) (.cons ((Cv.str (by first | decide | (unfold maxLen; omega)))) .nil))) .nil)))) ?_)))))
  rintro _ _ ⟨rfl, rfl⟩
  refine oP rfl (zbx [0, 1] [.tmp 7, .const (.int .i64 5)] (zv := (.agg #[(.slice none 0 0), (.int .i64 0)])) rfl rfl (.cons CellD.sh (.cons (CellD.v rfl) .nil)) (Tryz.runUnderlying53) Tryz.zeroValue53 zbQ ⟨rfl, rfl, trivial⟩ rfl) (oE rfl (Qu.ef (d := .sh 2 ([(RowD.mk [(Lbl.mk (⟨#[97]⟩ : ByteArray) (⟨#[49]⟩ : ByteArray))] 5)].map RowD.d)) (zaN [.tmp 8] rfl rfl (.cons CellD.agg .nil) rfl Tryz.runUnderlying22 Tryz.sizeOf53 Tryz.zeroValue53 rfl rfl rfl rfl)) ?_)
  rintro _ _ ⟨rfl, rfl⟩
  refine oR 1 rfl (oZ rfl (jT rfl (oR 2 rfl (oE rfl (zx [] _ [] rfl rfl (.cons (ArgC.cv (Cv.str (by first | decide | (unfold maxLen; omega)))) (.cons ArgC.id (.cons ArgC.id (.cons ArgC.id (.cons (ArgC.cv Cv.nil) .nil))))) zo Tryz.call16 (Match_c (⟨#[43]⟩ : ByteArray) [(RowD.mk [(Lbl.mk (⟨#[97]⟩ : ByteArray) (⟨#[49]⟩ : ByteArray))] 5)] [(RowD.mk [(Lbl.mk (⟨#[97]⟩ : ByteArray) (⟨#[49]⟩ : ByteArray))] 5)] 0 [] al10_LZ al10_LZ) (.inl rfl)) ?_))))
  rintro _ _ ⟨_, ⟨v1, rfl, rfl⟩, rfl⟩
  refine on rfl (oR 5 rfl (oZ rfl (jk [0, 1, 2, 3] rfl (jT rfl (oR 1 rfl (oE rfl (zx [] _ [] rfl rfl (.cons (ArgC.cv (Cv.str (by first | decide | (unfold maxLen; omega)))) (.cons ArgC.id (.cons ArgC.id (.cons ArgC.id .nil)))) zo Tryz.call15 (Scale_c (⟨#[45]⟩ : ByteArray) [(RowD.mk [(Lbl.mk (⟨#[97]⟩ : ByteArray) (⟨#[49]⟩ : ByteArray))] 5)] 1 true) (.inl rfl)) ?_))))))
  rintro _ _ ⟨_, ⟨v2, rfl, rfl⟩, rfl⟩
  refine on rfl (oR 5 rfl (oZ rfl (jS rfl ?_)))
  obtain ⟨y2, hy2, ey2⟩ : ∃ x, (zb (⟨#[45]⟩ : ByteArray) [(RowD.mk [(Lbl.mk (⟨#[97]⟩ : ByteArray) (⟨#[49]⟩ : ByteArray))] 5)] 1 true)[0]? = some x ∧ x = RowD.mk [(Lbl.mk (⟨#[97]⟩ : ByteArray) (⟨#[49]⟩ : ByteArray))] (-4) := ⟨_, by rw [as1]; rfl, rfl⟩
  have eny2 : (zb (⟨#[45]⟩ : ByteArray) [(RowD.mk [(Lbl.mk (⟨#[97]⟩ : ByteArray) (⟨#[49]⟩ : ByteArray))] 5)] 1 true).length = 1 := by rw [as1]; rfl
  obtain ⟨y1, hy1, ey1⟩ : ∃ x, (zp (⟨#[43]⟩ : ByteArray) [(RowD.mk [(Lbl.mk (⟨#[97]⟩ : ByteArray) (⟨#[49]⟩ : ByteArray))] 5)] [(RowD.mk [(Lbl.mk (⟨#[97]⟩ : ByteArray) (⟨#[49]⟩ : ByteArray))] 5)] 0 [])[0]? = some x ∧ x = RowD.mk [(Lbl.mk (⟨#[97]⟩ : ByteArray) (⟨#[49]⟩ : ByteArray))] 10 := ⟨_, by rw [am1]; rfl, rfl⟩
  have eny1 : (zp (⟨#[43]⟩ : ByteArray) [(RowD.mk [(Lbl.mk (⟨#[97]⟩ : ByteArray) (⟨#[49]⟩ : ByteArray))] 5)] [(RowD.mk [(Lbl.mk (⟨#[97]⟩ : ByteArray) (⟨#[49]⟩ : ByteArray))] 5)] 0 []).length = 1 := by rw [am1]; rfl
  refine jk [1, 2, 3, 4, 5] rfl ?_
  refine zab 0 (((((((decide (zac (⟨#[43]⟩ : ByteArray) [(RowD.mk [(Lbl.mk (⟨#[97]⟩ : ByteArray) (⟨#[49]⟩ : ByteArray))] 5)] [(RowD.mk [(Lbl.mk (⟨#[97]⟩ : ByteArray) (⟨#[49]⟩ : ByteArray))] 5)] 0 [] = (0 : Int)) && decide ((((zp (⟨#[43]⟩ : ByteArray) [(RowD.mk [(Lbl.mk (⟨#[97]⟩ : ByteArray) (⟨#[49]⟩ : ByteArray))] 5)] [(RowD.mk [(Lbl.mk (⟨#[97]⟩ : ByteArray) (⟨#[49]⟩ : ByteArray))] 5)] 0 []).length : Nat) : Int) = (1 : Int))) && decide (y1.v = (10 : Int))) && decide (zX (⟨#[45]⟩ : ByteArray) [(RowD.mk [(Lbl.mk (⟨#[97]⟩ : ByteArray) (⟨#[49]⟩ : ByteArray))] 5)] 1 true = (0 : Int))) && decide ((((zb (⟨#[45]⟩ : ByteArray) [(RowD.mk [(Lbl.mk (⟨#[97]⟩ : ByteArray) (⟨#[49]⟩ : ByteArray))] 5)] 1 true).length : Nat) : Int) = (1 : Int))) && decide (y2.v = ((-4) : Int))) && zT [(RowD.mk [(Lbl.mk (⟨#[97]⟩ : ByteArray) (⟨#[49]⟩ : ByteArray))] 5)])) [.sl v2 2 53 ((zb (⟨#[45]⟩ : ByteArray) [(RowD.mk [(Lbl.mk (⟨#[97]⟩ : ByteArray) (⟨#[49]⟩ : ByteArray))] 5)] 1 true).map RowD.d), .sl v1 2 53 ((zp (⟨#[43]⟩ : ByteArray) [(RowD.mk [(Lbl.mk (⟨#[97]⟩ : ByteArray) (⟨#[49]⟩ : ByteArray))] 5)] [(RowD.mk [(Lbl.mk (⟨#[97]⟩ : ByteArray) (⟨#[49]⟩ : ByteArray))] 5)] 0 []).map RowD.d)] (fun _ hQ3 => ?_) ?_
  · skip
    by_cases hg4 : zac (⟨#[43]⟩ : ByteArray) [(RowD.mk [(Lbl.mk (⟨#[97]⟩ : ByteArray) (⟨#[49]⟩ : ByteArray))] 5)] [(RowD.mk [(Lbl.mk (⟨#[97]⟩ : ByteArray) (⟨#[49]⟩ : ByteArray))] 5)] 0 [] = (0 : Int)
    · skip
      by_cases hg5 : (((zp (⟨#[43]⟩ : ByteArray) [(RowD.mk [(Lbl.mk (⟨#[97]⟩ : ByteArray) (⟨#[49]⟩ : ByteArray))] 5)] [(RowD.mk [(Lbl.mk (⟨#[97]⟩ : ByteArray) (⟨#[49]⟩ : ByteArray))] 5)] 0 []).length : Nat) : Int) = (1 : Int)
      · skip
        by_cases hg6 : y1.v = (10 : Int)
        · skip
          by_cases hg7 : zX (⟨#[45]⟩ : ByteArray) [(RowD.mk [(Lbl.mk (⟨#[97]⟩ : ByteArray) (⟨#[49]⟩ : ByteArray))] 5)] 1 true = (0 : Int)
          · skip
            by_cases hg8 : (((zb (⟨#[45]⟩ : ByteArray) [(RowD.mk [(Lbl.mk (⟨#[97]⟩ : ByteArray) (⟨#[49]⟩ : ByteArray))] 5)] 1 true).length : Nat) : Int) = (1 : Int)
            · skip
              by_cases hg9 : y2.v = ((-4) : Int)
              · skip
                refine za rfl (oR 1 rfl (oP rfl (zV rfl rfl (decide_eq_true hg4)) (oR 2 rfl (oG rfl (zY (n := (zp (⟨#[43]⟩ : ByteArray) [(RowD.mk [(Lbl.mk (⟨#[97]⟩ : ByteArray) (⟨#[49]⟩ : ByteArray))] 5)] [(RowD.mk [(Lbl.mk (⟨#[97]⟩ : ByteArray) (⟨#[49]⟩ : ByteArray))] 5)] 0 []).length) (j := 1) rfl rfl Tryz.runUnderlying22 (List.length_map _)) (oG rfl (zV rfl rfl (decide_eq_true hg5)) (oR 3 rfl (oG rfl (zA (k := 0) (j := 1) rfl rfl rfl Tryz.runUnderlying22 Tryz.sizeOf53 (by first | rfl | omega) (zt hy1)) (oG rfl (zl rfl zaj rfl) (oG rfl (z5 rfl (i := 1) rfl (zt hy1) Tryz.isAgg3 rfl) (oG rfl (zV rfl rfl (decide_eq_true hg6)) (oR 3 rfl (oG rfl (zV rfl rfl (decide_eq_true hg7)) (oR 3 rfl (oG rfl (zY (n := (zb (⟨#[45]⟩ : ByteArray) [(RowD.mk [(Lbl.mk (⟨#[97]⟩ : ByteArray) (⟨#[49]⟩ : ByteArray))] 5)] 1 true).length) (j := 0) rfl rfl Tryz.runUnderlying22 (List.length_map _)) (oG rfl (zV rfl rfl (decide_eq_true hg8)) (oR 3 rfl (oG rfl (zA (k := 0) (j := 0) rfl rfl rfl Tryz.runUnderlying22 Tryz.sizeOf53 (by first | rfl | omega) (zt hy2)) (oG rfl (zl rfl zaj rfl) (oG rfl (z5 rfl (i := 0) rfl (zt hy2) Tryz.isAgg3 rfl) (oG rfl (zV rfl rfl (decide_eq_true hg9)) (oR 3 rfl (oV rfl rfl acs Tryz.call26 (zcD [(RowD.mk [(Lbl.mk (⟨#[97]⟩ : ByteArray) (⟨#[49]⟩ : ByteArray))] 5)]) (oR 2 rfl (zg rfl ?_))))))))))))))))))))))))
                exact PD.sub ((0, dB ((((((decide (zac (⟨#[43]⟩ : ByteArray) [(RowD.mk [(Lbl.mk (⟨#[97]⟩ : ByteArray) (⟨#[49]⟩ : ByteArray))] 5)] [(RowD.mk [(Lbl.mk (⟨#[97]⟩ : ByteArray) (⟨#[49]⟩ : ByteArray))] 5)] 0 [] = (0 : Int)) && decide ((((zp (⟨#[43]⟩ : ByteArray) [(RowD.mk [(Lbl.mk (⟨#[97]⟩ : ByteArray) (⟨#[49]⟩ : ByteArray))] 5)] [(RowD.mk [(Lbl.mk (⟨#[97]⟩ : ByteArray) (⟨#[49]⟩ : ByteArray))] 5)] 0 []).length : Nat) : Int) = (1 : Int))) && decide (y1.v = (10 : Int))) && decide (zX (⟨#[45]⟩ : ByteArray) [(RowD.mk [(Lbl.mk (⟨#[97]⟩ : ByteArray) (⟨#[49]⟩ : ByteArray))] 5)] 1 true = (0 : Int))) && decide ((((zb (⟨#[45]⟩ : ByteArray) [(RowD.mk [(Lbl.mk (⟨#[97]⟩ : ByteArray) (⟨#[49]⟩ : ByteArray))] 5)] 1 true).length : Nat) : Int) = (1 : Int))) && decide (y2.v = ((-4) : Int))) && zT [(RowD.mk [(Lbl.mk (⟨#[97]⟩ : ByteArray) (⟨#[49]⟩ : ByteArray))] 5)])) :: [(1, .sh 2 ([(RowD.mk [(Lbl.mk (⟨#[97]⟩ : ByteArray) (⟨#[49]⟩ : ByteArray))] 5)].map RowD.d)), (2, .ov v1), (3, dI (zac (⟨#[43]⟩ : ByteArray) [(RowD.mk [(Lbl.mk (⟨#[97]⟩ : ByteArray) (⟨#[49]⟩ : ByteArray))] 5)] [(RowD.mk [(Lbl.mk (⟨#[97]⟩ : ByteArray) (⟨#[49]⟩ : ByteArray))] 5)] 0 [])), (4, .ov v2), (5, dI (zX (⟨#[45]⟩ : ByteArray) [(RowD.mk [(Lbl.mk (⟨#[97]⟩ : ByteArray) (⟨#[49]⟩ : ByteArray))] 5)] 1 true))]) ⟨sc rfl (Cv.eq (congrArg (fun b => D.v (.bool b)) (by first | (simp [hg4, hg5, hg6, hg7, hg8, hg9]; done) | (simp_all; done)))), sk rfl, sk rfl, sk rfl, sk rfl, sk rfl, trivial⟩ hQ3
              · skip
                refine za rfl (oR 1 rfl (oP rfl (zV rfl rfl (decide_eq_true hg4)) (oR 2 rfl (oG rfl (zY (n := (zp (⟨#[43]⟩ : ByteArray) [(RowD.mk [(Lbl.mk (⟨#[97]⟩ : ByteArray) (⟨#[49]⟩ : ByteArray))] 5)] [(RowD.mk [(Lbl.mk (⟨#[97]⟩ : ByteArray) (⟨#[49]⟩ : ByteArray))] 5)] 0 []).length) (j := 1) rfl rfl Tryz.runUnderlying22 (List.length_map _)) (oG rfl (zV rfl rfl (decide_eq_true hg5)) (oR 3 rfl (oG rfl (zA (k := 0) (j := 1) rfl rfl rfl Tryz.runUnderlying22 Tryz.sizeOf53 (by first | rfl | omega) (zt hy1)) (oG rfl (zl rfl zaj rfl) (oG rfl (z5 rfl (i := 1) rfl (zt hy1) Tryz.isAgg3 rfl) (oG rfl (zV rfl rfl (decide_eq_true hg6)) (oR 3 rfl (oG rfl (zV rfl rfl (decide_eq_true hg7)) (oR 3 rfl (oG rfl (zY (n := (zb (⟨#[45]⟩ : ByteArray) [(RowD.mk [(Lbl.mk (⟨#[97]⟩ : ByteArray) (⟨#[49]⟩ : ByteArray))] 5)] 1 true).length) (j := 0) rfl rfl Tryz.runUnderlying22 (List.length_map _)) (oG rfl (zV rfl rfl (decide_eq_true hg8)) (oR 3 rfl (oG rfl (zA (k := 0) (j := 0) rfl rfl rfl Tryz.runUnderlying22 Tryz.sizeOf53 (by first | rfl | omega) (zt hy2)) (oG rfl (zl rfl zaj rfl) (oG rfl (z5 rfl (i := 0) rfl (zt hy2) Tryz.isAgg3 rfl) (oG rfl (zV rfl rfl (decide_eq_false hg9)) (oR 6 rfl (zg rfl ?_))))))))))))))))))))))
                exact PD.sub ((0, dB ((((((decide (zac (⟨#[43]⟩ : ByteArray) [(RowD.mk [(Lbl.mk (⟨#[97]⟩ : ByteArray) (⟨#[49]⟩ : ByteArray))] 5)] [(RowD.mk [(Lbl.mk (⟨#[97]⟩ : ByteArray) (⟨#[49]⟩ : ByteArray))] 5)] 0 [] = (0 : Int)) && decide ((((zp (⟨#[43]⟩ : ByteArray) [(RowD.mk [(Lbl.mk (⟨#[97]⟩ : ByteArray) (⟨#[49]⟩ : ByteArray))] 5)] [(RowD.mk [(Lbl.mk (⟨#[97]⟩ : ByteArray) (⟨#[49]⟩ : ByteArray))] 5)] 0 []).length : Nat) : Int) = (1 : Int))) && decide (y1.v = (10 : Int))) && decide (zX (⟨#[45]⟩ : ByteArray) [(RowD.mk [(Lbl.mk (⟨#[97]⟩ : ByteArray) (⟨#[49]⟩ : ByteArray))] 5)] 1 true = (0 : Int))) && decide ((((zb (⟨#[45]⟩ : ByteArray) [(RowD.mk [(Lbl.mk (⟨#[97]⟩ : ByteArray) (⟨#[49]⟩ : ByteArray))] 5)] 1 true).length : Nat) : Int) = (1 : Int))) && decide (y2.v = ((-4) : Int))) && zT [(RowD.mk [(Lbl.mk (⟨#[97]⟩ : ByteArray) (⟨#[49]⟩ : ByteArray))] 5)])) :: [(1, .sh 2 ([(RowD.mk [(Lbl.mk (⟨#[97]⟩ : ByteArray) (⟨#[49]⟩ : ByteArray))] 5)].map RowD.d)), (2, .ov v1), (3, dI (zac (⟨#[43]⟩ : ByteArray) [(RowD.mk [(Lbl.mk (⟨#[97]⟩ : ByteArray) (⟨#[49]⟩ : ByteArray))] 5)] [(RowD.mk [(Lbl.mk (⟨#[97]⟩ : ByteArray) (⟨#[49]⟩ : ByteArray))] 5)] 0 [])), (4, .ov v2), (5, dI (zX (⟨#[45]⟩ : ByteArray) [(RowD.mk [(Lbl.mk (⟨#[97]⟩ : ByteArray) (⟨#[49]⟩ : ByteArray))] 5)] 1 true))]) ⟨sc rfl (Cv.eq (congrArg (fun b => D.v (.bool b)) (by first | (simp [hg4, hg5, hg6, hg7, hg8, hg9]; done) | (simp_all; done)))), sk rfl, sk rfl, sk rfl, sk rfl, sk rfl, trivial⟩ hQ3
            · skip
              refine za rfl (oR 1 rfl (oP rfl (zV rfl rfl (decide_eq_true hg4)) (oR 2 rfl (oG rfl (zY (n := (zp (⟨#[43]⟩ : ByteArray) [(RowD.mk [(Lbl.mk (⟨#[97]⟩ : ByteArray) (⟨#[49]⟩ : ByteArray))] 5)] [(RowD.mk [(Lbl.mk (⟨#[97]⟩ : ByteArray) (⟨#[49]⟩ : ByteArray))] 5)] 0 []).length) (j := 1) rfl rfl Tryz.runUnderlying22 (List.length_map _)) (oG rfl (zV rfl rfl (decide_eq_true hg5)) (oR 3 rfl (oG rfl (zA (k := 0) (j := 1) rfl rfl rfl Tryz.runUnderlying22 Tryz.sizeOf53 (by first | rfl | omega) (zt hy1)) (oG rfl (zl rfl zaj rfl) (oG rfl (z5 rfl (i := 1) rfl (zt hy1) Tryz.isAgg3 rfl) (oG rfl (zV rfl rfl (decide_eq_true hg6)) (oR 3 rfl (oG rfl (zV rfl rfl (decide_eq_true hg7)) (oR 3 rfl (oG rfl (zY (n := (zb (⟨#[45]⟩ : ByteArray) [(RowD.mk [(Lbl.mk (⟨#[97]⟩ : ByteArray) (⟨#[49]⟩ : ByteArray))] 5)] 1 true).length) (j := 0) rfl rfl Tryz.runUnderlying22 (List.length_map _)) (oG rfl (zV rfl rfl (decide_eq_false hg8)) (oR 13 rfl (zg rfl ?_)))))))))))))))))
              exact PD.sub ((0, dB ((((((decide (zac (⟨#[43]⟩ : ByteArray) [(RowD.mk [(Lbl.mk (⟨#[97]⟩ : ByteArray) (⟨#[49]⟩ : ByteArray))] 5)] [(RowD.mk [(Lbl.mk (⟨#[97]⟩ : ByteArray) (⟨#[49]⟩ : ByteArray))] 5)] 0 [] = (0 : Int)) && decide ((((zp (⟨#[43]⟩ : ByteArray) [(RowD.mk [(Lbl.mk (⟨#[97]⟩ : ByteArray) (⟨#[49]⟩ : ByteArray))] 5)] [(RowD.mk [(Lbl.mk (⟨#[97]⟩ : ByteArray) (⟨#[49]⟩ : ByteArray))] 5)] 0 []).length : Nat) : Int) = (1 : Int))) && decide (y1.v = (10 : Int))) && decide (zX (⟨#[45]⟩ : ByteArray) [(RowD.mk [(Lbl.mk (⟨#[97]⟩ : ByteArray) (⟨#[49]⟩ : ByteArray))] 5)] 1 true = (0 : Int))) && decide ((((zb (⟨#[45]⟩ : ByteArray) [(RowD.mk [(Lbl.mk (⟨#[97]⟩ : ByteArray) (⟨#[49]⟩ : ByteArray))] 5)] 1 true).length : Nat) : Int) = (1 : Int))) && decide (y2.v = ((-4) : Int))) && zT [(RowD.mk [(Lbl.mk (⟨#[97]⟩ : ByteArray) (⟨#[49]⟩ : ByteArray))] 5)])) :: [(1, .sh 2 ([(RowD.mk [(Lbl.mk (⟨#[97]⟩ : ByteArray) (⟨#[49]⟩ : ByteArray))] 5)].map RowD.d)), (2, .ov v1), (3, dI (zac (⟨#[43]⟩ : ByteArray) [(RowD.mk [(Lbl.mk (⟨#[97]⟩ : ByteArray) (⟨#[49]⟩ : ByteArray))] 5)] [(RowD.mk [(Lbl.mk (⟨#[97]⟩ : ByteArray) (⟨#[49]⟩ : ByteArray))] 5)] 0 [])), (4, .ov v2), (5, dI (zX (⟨#[45]⟩ : ByteArray) [(RowD.mk [(Lbl.mk (⟨#[97]⟩ : ByteArray) (⟨#[49]⟩ : ByteArray))] 5)] 1 true))]) ⟨sc rfl (Cv.eq (congrArg (fun b => D.v (.bool b)) (by first | (simp [hg4, hg5, hg6, hg7, hg8]; done) | (simp_all; done)))), sk rfl, sk rfl, sk rfl, sk rfl, sk rfl, trivial⟩ hQ3
          · skip
            refine za rfl (oR 1 rfl (oP rfl (zV rfl rfl (decide_eq_true hg4)) (oR 2 rfl (oG rfl (zY (n := (zp (⟨#[43]⟩ : ByteArray) [(RowD.mk [(Lbl.mk (⟨#[97]⟩ : ByteArray) (⟨#[49]⟩ : ByteArray))] 5)] [(RowD.mk [(Lbl.mk (⟨#[97]⟩ : ByteArray) (⟨#[49]⟩ : ByteArray))] 5)] 0 []).length) (j := 1) rfl rfl Tryz.runUnderlying22 (List.length_map _)) (oG rfl (zV rfl rfl (decide_eq_true hg5)) (oR 3 rfl (oG rfl (zA (k := 0) (j := 1) rfl rfl rfl Tryz.runUnderlying22 Tryz.sizeOf53 (by first | rfl | omega) (zt hy1)) (oG rfl (zl rfl zaj rfl) (oG rfl (z5 rfl (i := 1) rfl (zt hy1) Tryz.isAgg3 rfl) (oG rfl (zV rfl rfl (decide_eq_true hg6)) (oR 3 rfl (oG rfl (zV rfl rfl (decide_eq_false hg7)) (oR 18 rfl (zg rfl ?_))))))))))))))
            exact PD.sub ((0, dB ((((((decide (zac (⟨#[43]⟩ : ByteArray) [(RowD.mk [(Lbl.mk (⟨#[97]⟩ : ByteArray) (⟨#[49]⟩ : ByteArray))] 5)] [(RowD.mk [(Lbl.mk (⟨#[97]⟩ : ByteArray) (⟨#[49]⟩ : ByteArray))] 5)] 0 [] = (0 : Int)) && decide ((((zp (⟨#[43]⟩ : ByteArray) [(RowD.mk [(Lbl.mk (⟨#[97]⟩ : ByteArray) (⟨#[49]⟩ : ByteArray))] 5)] [(RowD.mk [(Lbl.mk (⟨#[97]⟩ : ByteArray) (⟨#[49]⟩ : ByteArray))] 5)] 0 []).length : Nat) : Int) = (1 : Int))) && decide (y1.v = (10 : Int))) && decide (zX (⟨#[45]⟩ : ByteArray) [(RowD.mk [(Lbl.mk (⟨#[97]⟩ : ByteArray) (⟨#[49]⟩ : ByteArray))] 5)] 1 true = (0 : Int))) && decide ((((zb (⟨#[45]⟩ : ByteArray) [(RowD.mk [(Lbl.mk (⟨#[97]⟩ : ByteArray) (⟨#[49]⟩ : ByteArray))] 5)] 1 true).length : Nat) : Int) = (1 : Int))) && decide (y2.v = ((-4) : Int))) && zT [(RowD.mk [(Lbl.mk (⟨#[97]⟩ : ByteArray) (⟨#[49]⟩ : ByteArray))] 5)])) :: [(1, .sh 2 ([(RowD.mk [(Lbl.mk (⟨#[97]⟩ : ByteArray) (⟨#[49]⟩ : ByteArray))] 5)].map RowD.d)), (2, .ov v1), (3, dI (zac (⟨#[43]⟩ : ByteArray) [(RowD.mk [(Lbl.mk (⟨#[97]⟩ : ByteArray) (⟨#[49]⟩ : ByteArray))] 5)] [(RowD.mk [(Lbl.mk (⟨#[97]⟩ : ByteArray) (⟨#[49]⟩ : ByteArray))] 5)] 0 [])), (4, .ov v2), (5, dI (zX (⟨#[45]⟩ : ByteArray) [(RowD.mk [(Lbl.mk (⟨#[97]⟩ : ByteArray) (⟨#[49]⟩ : ByteArray))] 5)] 1 true))]) ⟨sc rfl (Cv.eq (congrArg (fun b => D.v (.bool b)) (by first | (simp [hg4, hg5, hg6, hg7]; done) | (simp_all; done)))), sk rfl, sk rfl, sk rfl, sk rfl, sk rfl, trivial⟩ hQ3
        · skip
          refine za rfl (oR 1 rfl (oP rfl (zV rfl rfl (decide_eq_true hg4)) (oR 2 rfl (oG rfl (zY (n := (zp (⟨#[43]⟩ : ByteArray) [(RowD.mk [(Lbl.mk (⟨#[97]⟩ : ByteArray) (⟨#[49]⟩ : ByteArray))] 5)] [(RowD.mk [(Lbl.mk (⟨#[97]⟩ : ByteArray) (⟨#[49]⟩ : ByteArray))] 5)] 0 []).length) (j := 1) rfl rfl Tryz.runUnderlying22 (List.length_map _)) (oG rfl (zV rfl rfl (decide_eq_true hg5)) (oR 3 rfl (oG rfl (zA (k := 0) (j := 1) rfl rfl rfl Tryz.runUnderlying22 Tryz.sizeOf53 (by first | rfl | omega) (zt hy1)) (oG rfl (zl rfl zaj rfl) (oG rfl (z5 rfl (i := 1) rfl (zt hy1) Tryz.isAgg3 rfl) (oG rfl (zV rfl rfl (decide_eq_false hg6)) (oR 22 rfl (zg rfl ?_))))))))))))
          exact PD.sub ((0, dB ((((((decide (zac (⟨#[43]⟩ : ByteArray) [(RowD.mk [(Lbl.mk (⟨#[97]⟩ : ByteArray) (⟨#[49]⟩ : ByteArray))] 5)] [(RowD.mk [(Lbl.mk (⟨#[97]⟩ : ByteArray) (⟨#[49]⟩ : ByteArray))] 5)] 0 [] = (0 : Int)) && decide ((((zp (⟨#[43]⟩ : ByteArray) [(RowD.mk [(Lbl.mk (⟨#[97]⟩ : ByteArray) (⟨#[49]⟩ : ByteArray))] 5)] [(RowD.mk [(Lbl.mk (⟨#[97]⟩ : ByteArray) (⟨#[49]⟩ : ByteArray))] 5)] 0 []).length : Nat) : Int) = (1 : Int))) && decide (y1.v = (10 : Int))) && decide (zX (⟨#[45]⟩ : ByteArray) [(RowD.mk [(Lbl.mk (⟨#[97]⟩ : ByteArray) (⟨#[49]⟩ : ByteArray))] 5)] 1 true = (0 : Int))) && decide ((((zb (⟨#[45]⟩ : ByteArray) [(RowD.mk [(Lbl.mk (⟨#[97]⟩ : ByteArray) (⟨#[49]⟩ : ByteArray))] 5)] 1 true).length : Nat) : Int) = (1 : Int))) && decide (y2.v = ((-4) : Int))) && zT [(RowD.mk [(Lbl.mk (⟨#[97]⟩ : ByteArray) (⟨#[49]⟩ : ByteArray))] 5)])) :: [(1, .sh 2 ([(RowD.mk [(Lbl.mk (⟨#[97]⟩ : ByteArray) (⟨#[49]⟩ : ByteArray))] 5)].map RowD.d)), (2, .ov v1), (3, dI (zac (⟨#[43]⟩ : ByteArray) [(RowD.mk [(Lbl.mk (⟨#[97]⟩ : ByteArray) (⟨#[49]⟩ : ByteArray))] 5)] [(RowD.mk [(Lbl.mk (⟨#[97]⟩ : ByteArray) (⟨#[49]⟩ : ByteArray))] 5)] 0 [])), (4, .ov v2), (5, dI (zX (⟨#[45]⟩ : ByteArray) [(RowD.mk [(Lbl.mk (⟨#[97]⟩ : ByteArray) (⟨#[49]⟩ : ByteArray))] 5)] 1 true))]) ⟨sc rfl (Cv.eq (congrArg (fun b => D.v (.bool b)) (by first | (simp [hg4, hg5, hg6]; done) | (simp_all; done)))), sk rfl, sk rfl, sk rfl, sk rfl, sk rfl, trivial⟩ hQ3
      · skip
        refine za rfl (oR 1 rfl (oP rfl (zV rfl rfl (decide_eq_true hg4)) (oR 2 rfl (oG rfl (zY (n := (zp (⟨#[43]⟩ : ByteArray) [(RowD.mk [(Lbl.mk (⟨#[97]⟩ : ByteArray) (⟨#[49]⟩ : ByteArray))] 5)] [(RowD.mk [(Lbl.mk (⟨#[97]⟩ : ByteArray) (⟨#[49]⟩ : ByteArray))] 5)] 0 []).length) (j := 1) rfl rfl Tryz.runUnderlying22 (List.length_map _)) (oG rfl (zV rfl rfl (decide_eq_false hg5)) (oR 29 rfl (zg rfl ?_)))))))
        exact PD.sub ((0, dB ((((((decide (zac (⟨#[43]⟩ : ByteArray) [(RowD.mk [(Lbl.mk (⟨#[97]⟩ : ByteArray) (⟨#[49]⟩ : ByteArray))] 5)] [(RowD.mk [(Lbl.mk (⟨#[97]⟩ : ByteArray) (⟨#[49]⟩ : ByteArray))] 5)] 0 [] = (0 : Int)) && decide ((((zp (⟨#[43]⟩ : ByteArray) [(RowD.mk [(Lbl.mk (⟨#[97]⟩ : ByteArray) (⟨#[49]⟩ : ByteArray))] 5)] [(RowD.mk [(Lbl.mk (⟨#[97]⟩ : ByteArray) (⟨#[49]⟩ : ByteArray))] 5)] 0 []).length : Nat) : Int) = (1 : Int))) && decide (y1.v = (10 : Int))) && decide (zX (⟨#[45]⟩ : ByteArray) [(RowD.mk [(Lbl.mk (⟨#[97]⟩ : ByteArray) (⟨#[49]⟩ : ByteArray))] 5)] 1 true = (0 : Int))) && decide ((((zb (⟨#[45]⟩ : ByteArray) [(RowD.mk [(Lbl.mk (⟨#[97]⟩ : ByteArray) (⟨#[49]⟩ : ByteArray))] 5)] 1 true).length : Nat) : Int) = (1 : Int))) && decide (y2.v = ((-4) : Int))) && zT [(RowD.mk [(Lbl.mk (⟨#[97]⟩ : ByteArray) (⟨#[49]⟩ : ByteArray))] 5)])) :: [(1, .sh 2 ([(RowD.mk [(Lbl.mk (⟨#[97]⟩ : ByteArray) (⟨#[49]⟩ : ByteArray))] 5)].map RowD.d)), (2, .ov v1), (3, dI (zac (⟨#[43]⟩ : ByteArray) [(RowD.mk [(Lbl.mk (⟨#[97]⟩ : ByteArray) (⟨#[49]⟩ : ByteArray))] 5)] [(RowD.mk [(Lbl.mk (⟨#[97]⟩ : ByteArray) (⟨#[49]⟩ : ByteArray))] 5)] 0 [])), (4, .ov v2), (5, dI (zX (⟨#[45]⟩ : ByteArray) [(RowD.mk [(Lbl.mk (⟨#[97]⟩ : ByteArray) (⟨#[49]⟩ : ByteArray))] 5)] 1 true))]) ⟨sc rfl (Cv.eq (congrArg (fun b => D.v (.bool b)) (by first | (simp [hg4, hg5]; done) | (simp_all; done)))), sk rfl, sk rfl, sk rfl, sk rfl, sk rfl, trivial⟩ hQ3
    · skip
      refine za rfl (oR 1 rfl (oP rfl (zV rfl rfl (decide_eq_false hg4)) (oR 33 rfl (zg rfl ?_))))
      exact PD.sub ((0, dB ((((((decide (zac (⟨#[43]⟩ : ByteArray) [(RowD.mk [(Lbl.mk (⟨#[97]⟩ : ByteArray) (⟨#[49]⟩ : ByteArray))] 5)] [(RowD.mk [(Lbl.mk (⟨#[97]⟩ : ByteArray) (⟨#[49]⟩ : ByteArray))] 5)] 0 [] = (0 : Int)) && decide ((((zp (⟨#[43]⟩ : ByteArray) [(RowD.mk [(Lbl.mk (⟨#[97]⟩ : ByteArray) (⟨#[49]⟩ : ByteArray))] 5)] [(RowD.mk [(Lbl.mk (⟨#[97]⟩ : ByteArray) (⟨#[49]⟩ : ByteArray))] 5)] 0 []).length : Nat) : Int) = (1 : Int))) && decide (y1.v = (10 : Int))) && decide (zX (⟨#[45]⟩ : ByteArray) [(RowD.mk [(Lbl.mk (⟨#[97]⟩ : ByteArray) (⟨#[49]⟩ : ByteArray))] 5)] 1 true = (0 : Int))) && decide ((((zb (⟨#[45]⟩ : ByteArray) [(RowD.mk [(Lbl.mk (⟨#[97]⟩ : ByteArray) (⟨#[49]⟩ : ByteArray))] 5)] 1 true).length : Nat) : Int) = (1 : Int))) && decide (y2.v = ((-4) : Int))) && zT [(RowD.mk [(Lbl.mk (⟨#[97]⟩ : ByteArray) (⟨#[49]⟩ : ByteArray))] 5)])) :: [(1, .sh 2 ([(RowD.mk [(Lbl.mk (⟨#[97]⟩ : ByteArray) (⟨#[49]⟩ : ByteArray))] 5)].map RowD.d)), (2, .ov v1), (3, dI (zac (⟨#[43]⟩ : ByteArray) [(RowD.mk [(Lbl.mk (⟨#[97]⟩ : ByteArray) (⟨#[49]⟩ : ByteArray))] 5)] [(RowD.mk [(Lbl.mk (⟨#[97]⟩ : ByteArray) (⟨#[49]⟩ : ByteArray))] 5)] 0 [])), (4, .ov v2), (5, dI (zX (⟨#[45]⟩ : ByteArray) [(RowD.mk [(Lbl.mk (⟨#[97]⟩ : ByteArray) (⟨#[49]⟩ : ByteArray))] 5)] 1 true))]) ⟨sc rfl (Cv.eq (congrArg (fun b => D.v (.bool b)) (by first | (simp [hg4]; done) | (simp_all; done)))), sk rfl, sk rfl, sk rfl, sk rfl, sk rfl, trivial⟩ hQ3
  · skip
    refine zc (zs rfl ?_)
    exact zj Tryz.results11 (.cons (zB (zf rfl) (Cv.eq (congrArg (fun b => D.v (.bool b)) (by simp [am1, am2, as1, as2, av, ey1, ey2])))) .nil) rfl HSub.none ⟨rfl, rfl⟩
end Lp
