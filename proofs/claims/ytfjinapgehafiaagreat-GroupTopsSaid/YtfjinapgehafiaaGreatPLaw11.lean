/- Walks, printed by a program of mine. -/
import Derived.Test.YtfjinapgehafiaaGreatV21
set_option linter.unusedSimpArgs false
set_option linter.unusedVariables false
set_option maxHeartbeats 4000000
set_option maxRecDepth 100000
namespace Lp
open Go Go.RowKit Go.Proofs

namespace HdYtfjinapgehafiaaGreatV22
theorem zcu : ∀ w, ((#[⟨"Labels", 50, 0, false, "", "", 0⟩, ⟨"V", 3, 1, false, "", "", 24⟩] : Array Field).mapM fun f => do pure (f.offset, ← Go.sizeOf f.type) : Sem (Array (Nat × Nat))).run Tryz.prog w = .ok ([(0, 1), (1, 1)] : List (Nat × Nat)).toArray w := fun _ => by kernel_rfl
theorem zad (b o : Nat) : ∀ w, (Instr.fieldAt 53 (.pointer (some ⟨b, o, none⟩)) 0).run Tryz.prog w = .ok (.pointer (some ⟨b, o + 0, none⟩)) w := fun _ => by kernel_rfl
theorem zam (b o : Nat) : ∀ w, (Instr.fieldAt 53 (.pointer (some ⟨b, o, none⟩)) 1).run Tryz.prog w = .ok (.pointer (some ⟨b, o + 1, none⟩)) w := fun _ => by kernel_rfl
theorem zaO : ∃ i, Tryz.prog.info? 53 = some i ∧ i.zero = some (.agg #[(.slice none 0 0), (.int .i64 0)]) ∧ i.size = 2 ∧ i.bytes = 32 := za3 (by kernel_rfl)
theorem zbf : Tryz.prog.underlying 22 = some (.slice 53) := by kernel_rfl
end HdYtfjinapgehafiaaGreatV22
open HdYtfjinapgehafiaaGreatV22

theorem refTidyR_c (l : List RowD) (hl : l.length ≤ 1000000) (hli : ∀ r ∈ l, zax r.ls = true) :
    CD Tryz.prog 19 [] [.sh 2 (l.map RowD.d)] (fun r H' => ∃ v0_, r = .tup [.ov v0_, dI (rtE l)] ∧ H' = [.sl v0_ 2 53 ((rtL l).map RowD.d)]) := by
  refine zq Tryz.func19 rfl (N := 34) rfl rfl (fun C => ?_)
  refine jk [0] rfl ?_
  refine JD.bd 0 rfl (fun bd0 => ?_)
  have nl0 := zS bd0
  refine jT rfl (oR 2 rfl (oZ rfl (jS rfl (jT rfl (oR 1 rfl (oP rfl (z6 (n := l.length) rfl Tryz.runUnderlying22 (by simp only [lm, lc, ln])) (oP rfl (zah rfl rfl rfl) (oZ rfl ?_))))))))
  refine jD rfl (fun hc1 => ?_) (fun hc1 => ?_)
  · skip
    refine jT rfl (oR 2 rfl (oZ rfl (zm rfl (zd (PD.subH (HSub.nil 2 53) (PD.norm [.sl (.slice none 0 0) 2 53 ((rtL l).map RowD.d)] (by have hw : [] = rtL l := (by first | exact (zcr hc1).1 | exact (zcr hc1).2); rw [show ([] : List D) = List.map RowD.d (rtL l) from congrArg (List.map RowD.d) hw]) ?_))))))
    exact zl Tryz.results19 (.cons (zx (zh rfl) (Cv.ov rfl)) (.cons (zx (zh rfl) (Cv.eq (congrArg (fun n => D.v (.int .i64 n)) (by first | exact (zcr hc1).1 | exact (zcr hc1).2)))) .nil)) rfl (HSub.fst 1 rfl) ⟨(.slice none 0 0), rfl, rfl⟩
  · skip
    refine zj rfl (zb (jS rfl (jT rfl (oR 1 rfl (oZ rfl (jB rfl (jl1 (fun (a_ : Nat) => [(0, .sh 2 (l.map RowD.d)), (4, dN a_)]) (fun a_ => []) (fun a_ => (a_ ≤ l.length) ∧ (zbm (l.take a_) = true)) (fun a_ => l.length - a_) 0 rfl (sa rfl) HSub.rfl' ⟨Nat.zero_le _, rfl⟩ ?_)))))))
    rintro i ⟨hil, hw⟩
    refine ja rfl (jn rfl (jS rfl (jT rfl (oR 2 rfl (oP rfl (z6 (n := l.length) rfl Tryz.runUnderlying22 (by simp only [lm, lc, ln])) (oP rfl (zQ rfl rfl rfl) (oZ rfl ?_)))))))
    refine jD rfl (fun hc2 => ?_) (fun hc2 => ?_)
    · skip
      obtain ⟨x1, hx1⟩ := zy l i (by omega)
      refine zj rfl (zb (jS rfl (jB rfl (jS rfl ?_))))
      rcases Bool.eq_false_or_eq_true (zaL x1.ls) with hg3 | hg3
      · skip
        refine za rfl (oR 2 rfl (oP rfl (zr (k := i) rfl rfl Tryz.runUnderlying22 Tryz.sizeOf53 (by first | rfl | omega) (zg hx1)) (oP rfl (zF rfl zad rfl) (oP rfl (zH rfl Tryz.isAgg50 rfl) (oW rfl rfl acs Tryz.call49 (refRight_c x1.ls (light_nz (hli x1 (zae hx1)))) (os 19 rfl (congrArg (fun b => D.v (.bool b)) hg3) (oR 4 rfl (oG rfl (zr (k := i) rfl rfl Tryz.runUnderlying22 Tryz.sizeOf53 (by first | rfl | omega) (zg hx1)) (oG rfl (zF rfl zam rfl) (oG rfl (zH rfl Tryz.isAgg3 rfl) (oV rfl rfl acs Tryz.call37 (refValue_c x1.v) (oG rfl (zbc rfl) (oR 1 rfl (oZ rfl ?_))))))))))))))
        refine jC rfl (fun hc4 => ?_) (fun hc4 => ?_)
        · simp only [bA, bB, bC, bD, bE, bF, bG, bH, bI, bJ] at hc4
          refine jT rfl (oR 2 rfl (oZ rfl (zm rfl (zf (zd (zP (zf (zd (PD.subH (HSub.nil 2 53) (PD.norm [.sl (.slice none 0 0) 2 53 ((rtL l).map RowD.d)] (by have hw : [] = rtL l := (by first | exact (zcQ hx1 (by simp [*])).1 | exact (zcQ hx1 (by simp [*])).2); rw [show ([] : List D) = List.map RowD.d (rtL l) from congrArg (List.map RowD.d) hw]) ?_))))))))))
          exact zl Tryz.results19 (.cons (zx (zh rfl) (Cv.ov rfl)) (.cons (zx (zh rfl) (Cv.eq (congrArg (fun n => D.v (.int .i64 n)) (by first | exact (zcQ hx1 (by simp [*])).1 | exact (zcQ hx1 (by simp [*])).2)))) .nil)) rfl (HSub.fst 1 rfl) ⟨(.slice none 0 0), rfl, rfl⟩
        · simp only [bA, bB, bC, bD, bE, bF, bG, bH, bI, bJ] at hc4
          refine zj rfl (zp (zb (za rfl (oR 1 rfl (oP rfl (zO (c := ((i + 1 : Nat) : Int)) rfl rfl (zB (by omega) (by omega))) (oR 1 rfl (ze rfl ?_)))))))
          exact pl1 (i + 1) (sa rfl) HSub.rfl' ⟨by show i + 1 ≤ l.length; omega, rowsB_snoc hx1 hw hg3 hc4⟩ (by omega)
      · skip
        refine za rfl (oR 2 rfl (oP rfl (zr (k := i) rfl rfl Tryz.runUnderlying22 Tryz.sizeOf53 (by first | rfl | omega) (zg hx1)) (oP rfl (zF rfl zad rfl) (oP rfl (zH rfl Tryz.isAgg50 rfl) (oW rfl rfl acs Tryz.call49 (refRight_c x1.ls (light_nz (hli x1 (zae hx1)))) (os 19 rfl (congrArg (fun b => D.v (.bool b)) hg3) (oR 10 rfl (oZ rfl (jCt rfl (jT rfl (oR 2 rfl (oZ rfl (zm rfl (zf (zd (zP (zf (zd (PD.subH (HSub.nil 2 53) (PD.norm [.sl (.slice none 0 0) 2 53 ((rtL l).map RowD.d)] (by have hw : [] = rtL l := (by first | exact (zcQ hx1 (by simp [*])).1 | exact (zcQ hx1 (by simp [*])).2); rw [show ([] : List D) = List.map RowD.d (rtL l) from congrArg (List.map RowD.d) hw]) ?_))))))))))))))))))))
        exact zl Tryz.results19 (.cons (zx (zh rfl) (Cv.ov rfl)) (.cons (zx (zh rfl) (Cv.eq (congrArg (fun n => D.v (.int .i64 n)) (by first | exact (zcQ hx1 (by simp [*])).1 | exact (zcQ hx1 (by simp [*])).2)))) .nil)) rfl (HSub.fst 1 rfl) ⟨(.slice none 0 0), rfl, rfl⟩
    · skip
      refine zL rfl (zo (zn (zk (zb (jT rfl (oR 1 rfl (oE rfl (zN [] _ [] rfl rfl (.cons ArgC.id .nil) zz Tryz.call50 (refOrder_c l (by omega)) (.inl rfl)) ?_)))))))
      rintro _ _ ⟨_, ⟨v5, rfl, rfl⟩, rfl⟩
      refine on rfl (oR 4 rfl (oZ rfl (jk [2, 3] rfl (zm rfl (PD.norm [.sl v5 2 53 ((rtL l).map RowD.d)] (by have hw : ordL l = rtL l := (by first | exact (zdF (by omega) (by rw [← List.take_of_length_le (by omega : l.length ≤ i)]; exact hw)).1 | exact (zdF (by omega) (by rw [← List.take_of_length_le (by omega : l.length ≤ i)]; exact hw)).2); rw [hw]) ?_)))))
      exact zl Tryz.results19 (.cons (zh rfl) (.cons (zx (zh rfl) (Cv.eq (congrArg (fun n => D.v (.int .i64 n)) (by first | exact (zdF (by omega) (by rw [← List.take_of_length_le (by omega : l.length ≤ i)]; exact hw)).1 | exact (zdF (by omega) (by rw [← List.take_of_length_le (by omega : l.length ≤ i)]; exact hw)).2)))) .nil)) rfl (HSub.fst 1 rfl) ⟨v5, rfl, rfl⟩

theorem tidy10_c (l : List RowD) (hl : l.length ≤ 2000) (hli : ∀ r ∈ l, zax r.ls = true) :
    CD Tryz.prog 12 [] [.sh 2 (l.map RowD.d)] (isR ((D.ls 2 RowD.d) (zC l))) := by
  refine zq Tryz.func12 rfl (N := 54) rfl rfl (fun C => ?_)
  refine jk [0] rfl ?_
  refine JD.bd 0 rfl (fun bd0 => ?_)
  have nl0 := zS bd0
  refine jT rfl (oR 1 rfl (oZ rfl (jT rfl (oR 1 rfl (oZ rfl (jS rfl (jT rfl (oR 1 rfl (oZ rfl (jB rfl (jl2 (fun (a_ : Nat) (b_ : List RowD) => [(0, .sh 2 (l.map RowD.d)), (2, dZ), (4, dN a_), (3, .sh 2 (b_.map RowD.d))]) (fun a_ b_ => []) (fun a_ b_ => (a_ ≤ l.length) ∧ (b_ = zC (l.take a_))) (fun a_ b_ => l.length - a_) 0 [] rfl ⟨sk rfl, sk rfl, sk rfl, sc rfl Cv.nil, trivial⟩ HSub.none ⟨Nat.zero_le _, rfl⟩ ?_)))))))))))
  rintro i out ⟨hil, hso⟩
  refine ja rfl (jn rfl ?_)
  have htr := trs_take hli i
  rw [← hso] at htr
  have hol : out.length ≤ 2000 := by have := htr.len; rw [List.length_take] at this; omega
  refine jS rfl (jT rfl (oR 2 rfl (oP rfl (z6 (n := l.length) rfl Tryz.runUnderlying22 (by simp only [lm, lc, ln])) (oP rfl (zQ rfl rfl rfl) (oZ rfl ?_)))))
  refine jD rfl (fun hc1 => ?_) (fun hc1 => ?_)
  · skip
    obtain ⟨x1, hx1⟩ := zy l i (by omega)
    refine zj rfl (zb (jS rfl (jB rfl (jT rfl (oR 2 rfl (oP rfl (zr (k := i) rfl rfl Tryz.runUnderlying22 Tryz.sizeOf53 (by first | rfl | omega) (zg hx1)) (oP rfl (zF rfl zad rfl) (oP rfl (zH rfl Tryz.isAgg50 rfl) (oE rfl (zN [] _ [] rfl rfl (.cons ArgC.id .nil) zz Tryz.call36 (refTidy_c x1.ls (light_nz (hli x1 (zae hx1)))) (.inl rfl)) ?_)))))))))
    rintro _ _ ⟨_, ⟨v2, rfl, rfl⟩, rfl⟩
    refine on rfl (oR 5 rfl (oZ rfl (jS rfl (jS rfl ?_))))
    rcases Bool.eq_false_or_eq_true (z1 x1.ls) with hg3 | hg3
    · skip
      refine JD.sub [(0, .sh 2 (l.map RowD.d)), (2, dZ), (3, .sh 2 (out.map RowD.d)), (4, dN i), (5, .ov v2), (6, dB true), (9, dN i), (10, .sh 2 (l.map RowD.d)), (11, dN l.length), (12, dB (decide (((i : Nat) : Int) < ((l.length : Nat) : Int)))), (15, .tup [.ov v2, dB (z1 x1.ls)]), (16, .sh 2 (l.map RowD.d)), (17, dN i), (18, .el (RowD.d x1) 0), (19, .el (RowD.d x1) 0), (20, .sh 2 (x1.ls.map Lbl.d)), (21, .tup [.ov v2, dB (z1 x1.ls)]), (22, .ov v2), (23, dB true)] ⟨sk rfl, sk rfl, sk rfl, sk rfl, sk rfl, se rfl (congrArg (fun b => D.v (.bool b)) (by simp [hg3])), sk rfl, sk rfl, sk rfl, sk rfl, sk rfl, sk rfl, sk rfl, sk rfl, sk rfl, sk rfl, sk rfl, sk rfl, se rfl (congrArg (fun b => D.v (.bool b)) (by simp [hg3])), trivial⟩ (za rfl (oR 5 rfl (oG rfl (zr (k := i) rfl rfl Tryz.runUnderlying22 Tryz.sizeOf53 (by first | rfl | omega) (zg hx1)) (oG rfl (zF rfl zam rfl) (oG rfl (zH rfl Tryz.isAgg3 rfl) (oV rfl rfl acs Tryz.call37 (refValue_c x1.v) (oG rfl (zbc rfl) (oR 1 rfl (oZ rfl ?_)))))))))
      refine jC rfl (fun hc4 => ?_) (fun hc4 => ?_)
      · simp only [bA, bB, bC, bD, bE, bF, bG, bH, bI, bJ] at hc4
        refine zL rfl (zo (zk (zb (za rfl (oR 1 rfl (oP rfl (zO (c := ((i + 1 : Nat) : Int)) rfl rfl (zB (by omega) (by omega))) (oR 1 rfl (ze rfl ?_))))))))
        exact pl2 (i + 1) out (sa rfl) HSub.none ⟨by show i + 1 ≤ l.length; omega, by show _ = zC (l.take (i + 1)); rw [tidyRs_snoc hx1, ← hso]; exact (trStep_no (.inr hc4)).symm⟩ (by omega)
      · simp only [bA, bB, bC, bD, bE, bF, bG, bH, bI, bJ] at hc4
        refine zj rfl (zb (jS rfl ?_))
        refine JD.mv (Mv.freeze (K' := [(0, .sh 2 (l.map RowD.d)), (2, dZ), (3, .sh 2 (out.map RowD.d)), (4, dN i), (5, .sh 2 ((zJ x1.ls).map Lbl.d)), (6, dB true), (9, dN i), (10, .sh 2 (l.map RowD.d)), (11, dN l.length), (12, dB (decide (((i : Nat) : Int) < ((l.length : Nat) : Int)))), (15, .tup [.sh 2 ((zJ x1.ls).map Lbl.d), dB (z1 x1.ls)]), (16, .sh 2 (l.map RowD.d)), (17, dN i), (18, .el (RowD.d x1) 0), (19, .el (RowD.d x1) 0), (20, .sh 2 (x1.ls.map Lbl.d)), (21, .tup [.sh 2 ((zJ x1.ls).map Lbl.d), dB (z1 x1.ls)]), (22, .sh 2 ((zJ x1.ls).map Lbl.d)), (23, dB true), (24, dB true), (25, dB false), (26, dB false), (27, .sh 2 (l.map RowD.d)), (28, dN i), (29, .el (RowD.d x1) 0), (30, .el (RowD.d x1) 1), (31, dI x1.v), (32, dB (valB x1.v)), (33, dB (!(valB x1.v))), (34, dB (!(valB x1.v)))]) [.sl v2 2 62 ((zJ x1.ls).map Lbl.d)] (H1 := []) (H1' := []) ⟨⟨_, rfl, ArgC.id⟩, ⟨_, rfl, ArgC.id⟩, ⟨_, rfl, ArgC.id⟩, ⟨_, rfl, ArgC.id⟩, ⟨_, rfl, ArgC.own (j := 0) rfl rfl⟩, ⟨_, rfl, ArgC.id⟩, ⟨_, rfl, ArgC.id⟩, ⟨_, rfl, ArgC.id⟩, ⟨_, rfl, ArgC.id⟩, ⟨_, rfl, ArgC.id⟩, ⟨_, rfl, ArgC.tup (.cons (ArgC.own (j := 0) rfl rfl) (.cons ArgC.id .nil))⟩, ⟨_, rfl, ArgC.id⟩, ⟨_, rfl, ArgC.id⟩, ⟨_, rfl, ArgC.id⟩, ⟨_, rfl, ArgC.id⟩, ⟨_, rfl, ArgC.id⟩, ⟨_, rfl, ArgC.tup (.cons (ArgC.own (j := 0) rfl rfl) (.cons ArgC.id .nil))⟩, ⟨_, rfl, ArgC.own (j := 0) rfl rfl⟩, ⟨_, rfl, ArgC.id⟩, ⟨_, rfl, ArgC.id⟩, ⟨_, rfl, ArgC.id⟩, ⟨_, rfl, ArgC.id⟩, ⟨_, rfl, ArgC.id⟩, ⟨_, rfl, ArgC.id⟩, ⟨_, rfl, ArgC.id⟩, ⟨_, rfl, ArgC.id⟩, ⟨_, rfl, ArgC.id⟩, ⟨_, rfl, ArgC.id⟩, ⟨_, rfl, ArgC.id⟩, ⟨_, rfl, ArgC.id⟩, trivial⟩ .nil) ?_
        refine jk [0, 2, 3, 4, 5, 6, 9, 10, 11, 12, 15, 16, 17, 18, 19, 20, 21, 22, 23, 24, 25, 26, 27, 28, 29, 30, 31, 32, 33, 34] rfl (jn rfl ?_)
        refine zbj 16 [(36, .q (.sh 2 (out.map RowD.d))), (37, .o (fun γ => [.sl (γ 1) 2 53 (out.map RowD.d)])), (38, .q (.sh 2 ((zJ x1.ls).map Lbl.d))), (39, .q (.sh 2 (l.map RowD.d))), (40, .q (dN i)), (41, .q (.el (RowD.d x1) 0)), (42, .q (.el (RowD.d x1) 1)), (43, .q (dI x1.v)), (44, .q (.agg [.sh 2 ((zJ x1.ls).map Lbl.d), dI x1.v])), (45, .q (.sh 2 ([(RowD.mk (zJ x1.ls) x1.v)].map RowD.d))), (46, .o (fun γ => [.sl (γ 10) 2 53 ((out ++ [(RowD.mk (zJ x1.ls) x1.v)]).map RowD.d)])), (47, .e (.tup [.sh 2 ((rtL (out ++ [(RowD.mk (zJ x1.ls) x1.v)])).map RowD.d), dI (rtE (out ++ [(RowD.mk (zJ x1.ls) x1.v)]))]) (fun γ => [])), (35, .q (.tup [.sh 2 ((rtL (out ++ [(RowD.mk (zJ x1.ls) x1.v)])).map RowD.d), dI (rtE (out ++ [(RowD.mk (zJ x1.ls) x1.v)]))])), (48, .q (.sh 2 ((rtL (out ++ [(RowD.mk (zJ x1.ls) x1.v)])).map RowD.d))), (49, .q (dI (rtE (out ++ [(RowD.mk (zJ x1.ls) x1.v)])))), (7, .q (.sh 2 ((rtL (out ++ [(RowD.mk (zJ x1.ls) x1.v)])).map RowD.d)))] [] (Hn := fun γ => []) mixed rfl rfl (by kernel_rfl) (by kernel_rfl) (by kernel_rfl) HSub.rfl' (fun _ => rfl) (fun γ => ⟨so_p rfl rfl rfl (zc rfl), so_o rfl rfl rfl rfl ((zb9 (f := RowD.d) (l' := out) rfl rfl (SrcD.sh) zbf zaO rfl rfl (by unfold maxLen; (try simp only [la, lc, ln, lm, lt', ld, ls, lr]); omega) (by (try simp only [la, lc, ln, lm, lt', ld, ls, lr]); omega)).mono (by rintro _ _ ⟨v, rfl, rfl⟩; exact ⟨v, rfl, rfl⟩)) (fun _ => HSub.lst 1 rfl), so_p rfl rfl rfl (zc rfl), so_p rfl rfl rfl (zc rfl), so_p rfl rfl rfl (zc rfl), so_p rfl rfl rfl (zr (k := i) rfl rfl Tryz.runUnderlying22 Tryz.sizeOf53 (by first | rfl | omega) (zg hx1)), so_p rfl rfl rfl (zF rfl zam rfl), so_p rfl rfl rfl (zH rfl Tryz.isAgg3 rfl), so_p rfl rfl rfl (za2 [0, 1] [.tmp 38, .tmp 43] (zv := (.agg #[(.slice none 0 0), (.int .i64 0)])) rfl rfl (.cons CellD.sh (.cons (CellD.v rfl) .nil)) (Tryz.runUnderlying53) Tryz.zeroValue53 zcu ⟨rfl, rfl, trivial⟩ rfl), so_q rfl rfl rfl (zas [.tmp 44] rfl rfl (.cons CellD.agg .nil) rfl Tryz.runUnderlying22 Tryz.sizeOf53 Tryz.zeroValue53 rfl rfl rfl rfl), so_o rfl rfl rfl rfl ((zac (f := RowD.d) (l := out) (l' := [(RowD.mk (zJ x1.ls) x1.v)]) (i := 0) rfl rfl rfl (SrcD.sh) zbf zaO rfl rfl (by unfold maxLen; (try simp only [la, lc, ln, lm, lt', ld, ls, lr]); omega) (by (try simp only [la, lc, ln, lm, lt', ld, ls, lr]); omega)).mono (by rintro _ _ ⟨v, rfl, rfl⟩; exact ⟨v, rfl, rfl⟩)) (fun _ => HSub.lst 1 rfl), so_e rfl rfl rfl rfl (Ef.fz (Hr := []) (d := .tup [.sh 2 ((rtL (out ++ [(RowD.mk (zJ x1.ls) x1.v)])).map RowD.d), dI (rtE (out ++ [(RowD.mk (zJ x1.ls) x1.v)]))]) (Ef.mv (Mvk.freeze (K' := [(46, .sh 2 ((out ++ [(RowD.mk (zJ x1.ls) x1.v)]).map RowD.d))]) [.sl (γ 10) 2 53 ((out ++ [(RowD.mk (zJ x1.ls) x1.v)]).map RowD.d)] (H1 := []) (H1' := []) ⟨⟨_, rfl, ArgC.own (j := 0) rfl rfl⟩, trivial⟩ .nil) (zN [] [] [] rfl rfl (.cons ArgC.id .nil) zz Tryz.call19 (refTidyR_c (out ++ [(RowD.mk (zJ x1.ls) x1.v)]) (by first | omega | (simp only [la, List.length_singleton]; omega)) (by intro r hr; rcases List.mem_append.1 hr with e | e; (exact htr.li r e); (rw [List.mem_singleton.1 e]; exact tidyL_light (hli x1 (zae hx1))))) (.inl rfl))) (by rintro _ _ ⟨_, ⟨v, rfl, rfl⟩, rfl⟩; exact ⟨[.sl v 2 53 ((rtL (out ++ [(RowD.mk (zJ x1.ls) x1.v)])).map RowD.d)], rfl, ArgC.tup (.cons (ArgC.own (j := 0) rfl rfl) (.cons ArgC.id .nil))⟩)) HSub.rfl', so_p rfl rfl rfl (zc rfl), so_p rfl rfl rfl (zcF rfl rfl), so_p rfl rfl rfl (zcF rfl rfl), so_p rfl rfl rfl (p_assign rfl), trivial⟩) (fun γ => ?_)
        refine ok [0, 2, 3, 4, 5, 6, 7, 9, 10, 11, 12, 15, 16, 17, 18, 19, 20, 21, 22, 23, 24, 25, 26, 27, 28, 29, 30, 31, 32, 33, 34, 35, 36, 37, 38, 39, 40, 41, 42, 43, 44, 45, 46, 47, 48, 49] rfl (oR 1 rfl (oZ rfl (jT rfl (oR 1 rfl (oP rfl (zR rfl rfl rfl) (oZ rfl ?_))))))
        refine jD rfl (fun hc5 => ?_) (fun hc5 => ?_)
        · skip
          refine za rfl (oR 2 rfl (ze rfl (zp (zb (za rfl (oR 1 rfl (oP rfl (zO (c := ((i + 1 : Nat) : Int)) rfl rfl (zB (by omega) (by omega))) (oR 1 rfl (ze rfl ?_)))))))))
          exact pl2 (i + 1) (rtL (out ++ [(RowD.mk (zJ x1.ls) x1.v)])) (sa rfl) HSub.none ⟨by show i + 1 ≤ l.length; omega, by show _ = zC (l.take (i + 1)); rw [tidyRs_snoc hx1, ← hso]; exact (trStep_t hg3 hc4 hc5).symm⟩ (by omega)
        · skip
          refine zj rfl (zp (zb (za rfl (oR 1 rfl (oP rfl (zO (c := ((i + 1 : Nat) : Int)) rfl rfl (zB (by omega) (by omega))) (oR 1 rfl (ze rfl ?_)))))))
          exact pl2 (i + 1) out (sa rfl) HSub.none ⟨by show i + 1 ≤ l.length; omega, by show _ = zC (l.take (i + 1)); rw [tidyRs_snoc hx1, ← hso]; exact (trStep_f hc5).symm⟩ (by omega)
    · skip
      refine JD.sub [(0, .sh 2 (l.map RowD.d)), (2, dZ), (3, .sh 2 (out.map RowD.d)), (4, dN i), (5, .ov v2), (6, dB false), (9, dN i), (10, .sh 2 (l.map RowD.d)), (11, dN l.length), (12, dB (decide (((i : Nat) : Int) < ((l.length : Nat) : Int)))), (15, .tup [.ov v2, dB (z1 x1.ls)]), (16, .sh 2 (l.map RowD.d)), (17, dN i), (18, .el (RowD.d x1) 0), (19, .el (RowD.d x1) 0), (20, .sh 2 (x1.ls.map Lbl.d)), (21, .tup [.ov v2, dB (z1 x1.ls)]), (22, .ov v2), (23, dB false)] ⟨sk rfl, sk rfl, sk rfl, sk rfl, sk rfl, se rfl (congrArg (fun b => D.v (.bool b)) (by simp [hg3])), sk rfl, sk rfl, sk rfl, sk rfl, sk rfl, sk rfl, sk rfl, sk rfl, sk rfl, sk rfl, sk rfl, sk rfl, se rfl (congrArg (fun b => D.v (.bool b)) (by simp [hg3])), trivial⟩ (za rfl (oR 11 rfl (oZ rfl (jCt rfl (zL rfl (zo (zk (zb (za rfl (oR 1 rfl (oP rfl (zO (c := ((i + 1 : Nat) : Int)) rfl rfl (zB (by omega) (by omega))) (oR 1 rfl (ze rfl ?_)))))))))))))
      exact pl2 (i + 1) out (sa rfl) HSub.none ⟨by show i + 1 ≤ l.length; omega, by show _ = zC (l.take (i + 1)); rw [tidyRs_snoc hx1, ← hso]; exact (trStep_no (.inl hg3)).symm⟩ (by omega)
  · skip
    refine zL rfl (zo (zn (zk (zb (jT rfl (oR 2 rfl (oZ rfl (zm rfl ?_))))))))
    exact zl Tryz.results12 (.cons (zx (zh rfl) (Cv.eq (congrArg (D.ls 2 RowD.d) (show out = zC l from (by rw [hso, List.take_of_length_le (by omega)]))))) .nil) rfl HSub.none ⟨rfl, rfl⟩
end Lp
/- Walks, printed by a program of mine. -/
set_option linter.unusedSimpArgs false
set_option linter.unusedVariables false
set_option maxHeartbeats 4000000
set_option maxRecDepth 100000
namespace Lp
open Go Go.RowKit Go.Proofs

namespace HdYtfjinapgehafiaaGreatV2
theorem zad (b o : Nat) : ∀ w, (Instr.fieldAt 53 (.pointer (some ⟨b, o, none⟩)) 0).run Tryz.prog w = .ok (.pointer (some ⟨b, o + 0, none⟩)) w := fun _ => by kernel_rfl
theorem zam (b o : Nat) : ∀ w, (Instr.fieldAt 53 (.pointer (some ⟨b, o, none⟩)) 1).run Tryz.prog w = .ok (.pointer (some ⟨b, o + 1, none⟩)) w := fun _ => by kernel_rfl
theorem zak (b o : Nat) : ∀ w, (Instr.fieldAt 62 (.pointer (some ⟨b, o, none⟩)) 0).run Tryz.prog w = .ok (.pointer (some ⟨b, o + 0, none⟩)) w := fun _ => by kernel_rfl
theorem zaC (b o : Nat) : ∀ w, (Instr.fieldAt 62 (.pointer (some ⟨b, o, none⟩)) 1).run Tryz.prog w = .ok (.pointer (some ⟨b, o + 1, none⟩)) w := fun _ => by kernel_rfl
end HdYtfjinapgehafiaaGreatV2
open HdYtfjinapgehafiaaGreatV2

theorem Light2_c (l : List Lbl)  :
    CD Tryz.prog 35 [] [.sh 2 (l.map Lbl.d)] (isR (dB (zax l))) := by
  refine zq Tryz.func35 rfl (N := 33) rfl rfl (fun C => ?_)
  refine jk [0] rfl ?_
  refine JD.bd 0 rfl (fun bd0 => ?_)
  have nl0 := zS bd0
  refine jT rfl (oR 1 rfl (oZ rfl (jS rfl (jT rfl (oR 1 rfl (oZ rfl (jB rfl (jl1 (fun (a_ : Nat) => [(0, .sh 2 (l.map Lbl.d)), (3, dN a_)]) (fun a_ => []) (fun a_ => (a_ ≤ l.length ∧ a_ ≤ 30) ∧ ((l.take a_).all (fun x => decide (x.n.size ≤ 200) && decide (x.v.size ≤ 200)) = true)) (fun a_ => l.length - a_) 0 rfl (sa rfl) HSub.rfl' ⟨⟨Nat.zero_le _, Nat.zero_le _⟩, by simp⟩ ?_))))))))
  rintro k ⟨hk, hf⟩
  refine ja rfl (jn rfl (jS rfl (jS rfl (jk [0, 3] rfl ?_))))
  refine zal 11 ((decide (((k : Nat) : Int) < ((l.length : Nat) : Int)) && decide (((k : Nat) : Int) < (30 : Int)))) [] (fun _ hQ1 => ?_) ?_
  · skip
    by_cases hg2 : ((k : Nat) : Int) < ((l.length : Nat) : Int)
    · skip
      refine za rfl (oR 2 rfl (oP rfl (z6 (n := l.length) rfl Tryz.runUnderlying50 (by simp only [lm, lc, ln])) (oP rfl (zQ rfl rfl (decide_eq_true hg2)) (oR 2 rfl (oG rfl (zQ rfl rfl rfl) (oR 1 rfl (ze rfl ?_)))))))
      exact PD.sub ((11, dB (decide (((k : Nat) : Int) < ((l.length : Nat) : Int)) && decide (((k : Nat) : Int) < (30 : Int)))) :: [(0, .sh 2 (l.map Lbl.d)), (3, dN k)]) ⟨sc rfl (Cv.eq (congrArg (fun b => D.v (.bool b)) (by first | (simp [hg2]; done) | (simp_all; done)))), sk rfl, sk rfl, trivial⟩ hQ1
    · skip
      refine za rfl (oR 2 rfl (oP rfl (z6 (n := l.length) rfl Tryz.runUnderlying50 (by simp only [lm, lc, ln])) (oP rfl (zQ rfl rfl (decide_eq_false hg2)) (oR 4 rfl (ze rfl ?_)))))
      exact PD.sub ((11, dB (decide (((k : Nat) : Int) < ((l.length : Nat) : Int)) && decide (((k : Nat) : Int) < (30 : Int)))) :: [(0, .sh 2 (l.map Lbl.d)), (3, dN k)]) ⟨sc rfl (Cv.eq (congrArg (fun b => D.v (.bool b)) (by first | (simp [hg2]; done) | (simp_all; done)))), sk rfl, sk rfl, trivial⟩ hQ1
  · skip
    refine zb ?_
    refine jC rfl (fun hc3 => ?_) (fun hc3 => ?_)
    · simp only [bA, bB, bC, bD, bE, bF, bG, bH, bI, bJ] at hc3
      refine zj rfl (zb (jS rfl (jB rfl (jS rfl ?_))))
      obtain ⟨x1, hx1⟩ := zy l k (by omega)
      refine jk [0, 3, 11] rfl ?_
      refine zal 29 ((decide ((200 : Int) < ((x1.n.size : Nat) : Int)) || decide ((200 : Int) < ((x1.v.size : Nat) : Int)))) [] (fun _ hQ4 => ?_) ?_
      · skip
        by_cases hg5 : (200 : Int) < ((x1.n.size : Nat) : Int)
        · skip
          refine za rfl (oR 2 rfl (oP rfl (zr (k := k) rfl rfl Tryz.runUnderlying50 Tryz.sizeOf62 (by first | rfl | omega) (zg hx1)) (oP rfl (zF rfl zak rfl) (oP rfl (zH rfl Tryz.isAgg9 rfl) (oP rfl (zbI rfl Tryz.runUnderlying9) (oP rfl (zah rfl rfl (decide_eq_true hg5)) (oR 9 rfl (ze rfl ?_))))))))
          exact PD.sub ((29, dB (decide ((200 : Int) < ((x1.n.size : Nat) : Int)) || decide ((200 : Int) < ((x1.v.size : Nat) : Int)))) :: [(0, .sh 2 (l.map Lbl.d)), (3, dN k), (11, dB (decide (((k : Nat) : Int) < ((l.length : Nat) : Int)) && decide (((k : Nat) : Int) < (30 : Int))))]) ⟨sc rfl (Cv.eq (congrArg (fun b => D.v (.bool b)) (by first | (simp [hg5]; done) | (simp_all; done)))), sk rfl, sk rfl, sk rfl, trivial⟩ hQ4
        · skip
          refine za rfl (oR 2 rfl (oP rfl (zr (k := k) rfl rfl Tryz.runUnderlying50 Tryz.sizeOf62 (by first | rfl | omega) (zg hx1)) (oP rfl (zF rfl zak rfl) (oP rfl (zH rfl Tryz.isAgg9 rfl) (oP rfl (zbI rfl Tryz.runUnderlying9) (oP rfl (zah rfl rfl (decide_eq_false hg5)) (oR 3 rfl (oG rfl (zr (k := k) rfl rfl Tryz.runUnderlying50 Tryz.sizeOf62 (by first | rfl | omega) (zg hx1)) (oG rfl (zF rfl zaC rfl) (oG rfl (zH rfl Tryz.isAgg9 rfl) (oG rfl (zbI rfl Tryz.runUnderlying9) (oG rfl (zah rfl rfl rfl) (oR 1 rfl (ze rfl ?_))))))))))))))
          exact PD.sub ((29, dB (decide ((200 : Int) < ((x1.n.size : Nat) : Int)) || decide ((200 : Int) < ((x1.v.size : Nat) : Int)))) :: [(0, .sh 2 (l.map Lbl.d)), (3, dN k), (11, dB (decide (((k : Nat) : Int) < ((l.length : Nat) : Int)) && decide (((k : Nat) : Int) < (30 : Int))))]) ⟨sc rfl (Cv.eq (congrArg (fun b => D.v (.bool b)) (by first | (simp [hg5]; done) | (simp_all; done)))), sk rfl, sk rfl, sk rfl, trivial⟩ hQ4
      · skip
        refine zb ?_
        refine jC rfl (fun hc6 => ?_) (fun hc6 => ?_)
        · simp only [bA, bB, bC, bD, bE, bF, bG, bH, bI, bJ] at hc6
          refine jT rfl (oR 1 rfl (oZ rfl (zm rfl (zf (zd (zP (zf (zd ?_))))))))
          exact zl Tryz.results35 (.cons (zx (zh rfl) (Cv.eq (congrArg (fun b => D.v (.bool b)) (by first | rw [lightL_bad hx1 (by omega) (by omega)] | (rw [lightL_end hf (by omega)]; exact decide_eq_decide.2 (by omega)))))) .nil) rfl HSub.none ⟨rfl, rfl⟩
        · simp only [bA, bB, bC, bD, bE, bF, bG, bH, bI, bJ] at hc6
          refine zj rfl (zp (zb (za rfl (oR 1 rfl (oP rfl (zO (c := ((k + 1 : Nat) : Int)) rfl rfl (zB (by omega) (by omega))) (oR 1 rfl (ze rfl ?_)))))))
          exact pl1 (k + 1) (sa rfl) HSub.rfl' ⟨by omega, zbA hx1 hf (by simp only [Bool.and_eq_true, decide_eq_true_eq]; omega)⟩ (by omega)
    · simp only [bA, bB, bC, bD, bE, bF, bG, bH, bI, bJ] at hc3
      refine zL rfl (zo (zn (zk (zb (jT rfl (oR 1 rfl (oP rfl (z6 (n := l.length) rfl Tryz.runUnderlying50 (by simp only [lm, lc, ln])) (oP rfl (zaA rfl rfl rfl) (oR 1 rfl (oZ rfl (zm rfl ?_)))))))))))
      exact zl Tryz.results35 (.cons (zx (zh rfl) (Cv.eq (congrArg (fun b => D.v (.bool b)) (by first | rw [lightL_bad hk (by omega) (by omega)] | (rw [lightL_end hf (by omega)]; exact decide_eq_decide.2 (by omega)))))) .nil) rfl HSub.none ⟨rfl, rfl⟩

theorem zbY (l : List RowD)  :
    CD Tryz.prog 10 [] [.sh 2 (l.map RowD.d)] (isR (dB (za7 l))) := by
  refine zq Tryz.func10 rfl (N := 24) rfl rfl (fun C => ?_)
  refine jk [0] rfl ?_
  refine JD.bd 0 rfl (fun bd0 => ?_)
  have nl0 := zS bd0
  refine jT rfl (oR 1 rfl (oZ rfl (jS rfl (jT rfl (oR 1 rfl (oZ rfl (jB rfl (jl1 (fun (a_ : Nat) => [(0, .sh 2 (l.map RowD.d)), (3, dN a_)]) (fun a_ => []) (fun a_ => (a_ ≤ l.length ∧ a_ ≤ 100) ∧ ((l.take a_).all (fun r => zax r.ls) = true)) (fun a_ => l.length - a_) 0 rfl (sa rfl) HSub.rfl' ⟨⟨Nat.zero_le _, Nat.zero_le _⟩, by simp⟩ ?_))))))))
  rintro k ⟨hk, hf⟩
  refine ja rfl (jn rfl (jS rfl (jS rfl (jk [0, 3] rfl ?_))))
  refine zal 11 ((decide (((k : Nat) : Int) < ((l.length : Nat) : Int)) && decide (((k : Nat) : Int) < (100 : Int)))) [] (fun _ hQ1 => ?_) ?_
  · skip
    by_cases hg2 : ((k : Nat) : Int) < ((l.length : Nat) : Int)
    · skip
      refine za rfl (oR 2 rfl (oP rfl (z6 (n := l.length) rfl Tryz.runUnderlying22 (by simp only [lm, lc, ln])) (oP rfl (zQ rfl rfl (decide_eq_true hg2)) (oR 2 rfl (oG rfl (zQ rfl rfl rfl) (oR 1 rfl (ze rfl ?_)))))))
      exact PD.sub ((11, dB (decide (((k : Nat) : Int) < ((l.length : Nat) : Int)) && decide (((k : Nat) : Int) < (100 : Int)))) :: [(0, .sh 2 (l.map RowD.d)), (3, dN k)]) ⟨sc rfl (Cv.eq (congrArg (fun b => D.v (.bool b)) (by first | (simp [hg2]; done) | (simp_all; done)))), sk rfl, sk rfl, trivial⟩ hQ1
    · skip
      refine za rfl (oR 2 rfl (oP rfl (z6 (n := l.length) rfl Tryz.runUnderlying22 (by simp only [lm, lc, ln])) (oP rfl (zQ rfl rfl (decide_eq_false hg2)) (oR 4 rfl (ze rfl ?_)))))
      exact PD.sub ((11, dB (decide (((k : Nat) : Int) < ((l.length : Nat) : Int)) && decide (((k : Nat) : Int) < (100 : Int)))) :: [(0, .sh 2 (l.map RowD.d)), (3, dN k)]) ⟨sc rfl (Cv.eq (congrArg (fun b => D.v (.bool b)) (by first | (simp [hg2]; done) | (simp_all; done)))), sk rfl, sk rfl, trivial⟩ hQ1
  · skip
    refine zb ?_
    refine jC rfl (fun hc3 => ?_) (fun hc3 => ?_)
    · simp only [bA, bB, bC, bD, bE, bF, bG, bH, bI, bJ] at hc3
      refine zj rfl (zb (jS rfl (jB rfl (jT rfl (oR 2 rfl ?_)))))
      obtain ⟨x1, hx1⟩ := zy l k (by omega)
      refine oP rfl (zr (k := k) rfl rfl Tryz.runUnderlying22 Tryz.sizeOf53 (by first | rfl | omega) (zg hx1)) (oP rfl (zF rfl zad rfl) (oP rfl (zH rfl Tryz.isAgg50 rfl) (oW rfl rfl acs Tryz.call35 (Light2_c x1.ls) (oP rfl (zbc rfl) (oZ rfl ?_)))))
      refine jC rfl (fun hc4 => ?_) (fun hc4 => ?_)
      · simp only [bA, bB, bC, bD, bE, bF, bG, bH, bI, bJ] at hc4
        refine jT rfl (oR 1 rfl (oZ rfl (zm rfl (zf (zd (zP (zf (zd ?_))))))))
        exact zl Tryz.results10 (.cons (zx (zh rfl) (Cv.eq (congrArg (fun b => D.v (.bool b)) (by first | rw [lightR_bad hx1 (by omega) (by simpa using hc4)] | (rw [lightR_end hf (by omega)]; exact decide_eq_decide.2 (by omega)))))) .nil) rfl HSub.none ⟨rfl, rfl⟩
      · simp only [bA, bB, bC, bD, bE, bF, bG, bH, bI, bJ] at hc4
        refine zj rfl (zp (zb (za rfl (oR 1 rfl (oP rfl (zO (c := ((k + 1 : Nat) : Int)) rfl rfl (zB (by omega) (by omega))) (oR 1 rfl (ze rfl ?_)))))))
        exact pl1 (k + 1) (sa rfl) HSub.rfl' ⟨by omega, zbA hx1 hf (by simpa using hc4)⟩ (by omega)
    · simp only [bA, bB, bC, bD, bE, bF, bG, bH, bI, bJ] at hc3
      refine zL rfl (zo (zn (zk (zb (jT rfl (oR 1 rfl (oP rfl (z6 (n := l.length) rfl Tryz.runUnderlying22 (by simp only [lm, lc, ln])) (oP rfl (zaA rfl rfl rfl) (oR 1 rfl (oZ rfl (zm rfl ?_)))))))))))
      exact zl Tryz.results10 (.cons (zx (zh rfl) (Cv.eq (congrArg (fun b => D.v (.bool b)) (by first | rw [lightR_bad hk (by omega) (by simpa using hc4)] | (rw [lightR_end hf (by omega)]; exact decide_eq_decide.2 (by omega)))))) .nil) rfl HSub.none ⟨rfl, rfl⟩
end Lp
/- Walks, printed by a program of mine. -/
set_option linter.unusedSimpArgs false
set_option linter.unusedVariables false
set_option maxHeartbeats 4000000
set_option maxRecDepth 100000
namespace Lp
open Go Go.RowKit Go.Proofs

namespace HdYtfjinapgehafiaaGreatV65
theorem zcu : ∀ w, ((#[⟨"Labels", 50, 0, false, "", "", 0⟩, ⟨"V", 3, 1, false, "", "", 24⟩] : Array Field).mapM fun f => do pure (f.offset, ← Go.sizeOf f.type) : Sem (Array (Nat × Nat))).run Tryz.prog w = .ok ([(0, 1), (1, 1)] : List (Nat × Nat)).toArray w := fun _ => by kernel_rfl
theorem zdV : ∀ w, ((#[⟨"Name", 9, 0, false, "", "", 0⟩, ⟨"Value", 9, 1, false, "", "", 16⟩] : Array Field).mapM fun f => do pure (f.offset, ← Go.sizeOf f.type) : Sem (Array (Nat × Nat))).run Tryz.prog w = .ok ([(0, 1), (1, 1)] : List (Nat × Nat)).toArray w := fun _ => by kernel_rfl
theorem zam (b o : Nat) : ∀ w, (Instr.fieldAt 53 (.pointer (some ⟨b, o, none⟩)) 1).run Tryz.prog w = .ok (.pointer (some ⟨b, o + 1, none⟩)) w := fun _ => by kernel_rfl
end HdYtfjinapgehafiaaGreatV65
open HdYtfjinapgehafiaaGreatV65

end Lp
/-
  What is said of vectors (chapter 10): keys, sums, sizes, contraries.
-/
set_option linter.unusedVariables false
namespace Lp
open Go
theorem hasN_mem {ns : List ByteArray} {n : ByteArray} : hasN ns n = true ↔ n ∈ ns := by
  unfold hasN; rw [List.any_eq_true]
  exact ⟨fun ⟨x, hx, e⟩ => by rw [← of_decide_eq_true e]; exact hx, fun h => ⟨n, h, decide_eq_true rfl⟩⟩
end Lp
/-
  Laws of groups (chapter 11), plain.
-/
set_option linter.unusedVariables false
namespace Lp
open Go
theorem right_nil : zaL [] = true := right_of (by simp) (by unfold NSrt; simp) (fun _ h => by cases h)
theorem right_by {l : List Lbl} (h : zaL l = true) (mode : Int) (ns : List ByteArray) : zaL (byL mode ns l) = true := by
  unfold byL; split
  · exact right_key h mode ns
  · exact right_nil
section
variable {mode : Int} {names : List ByteArray} {a : List RowD}
theorem zbv (h : zT a = true) : zu mode names a = zaT (kapB mode names) a := by unfold zu; rw [if_pos h]
theorem grp (h : zT a = true) {g : List RowD} (hg : g ∈ zu mode names a) : g ≠ [] ∧ (∀ r ∈ g, r ∈ a) ∧ g.length ≤ a.length := by
  rw [zbv h] at hg
  exact ⟨(zcy _).ne g hg, splitG_mem _ g hg, splitG_rows _ g hg⟩
theorem head_mem {κ : RowD → List Lbl} {g : List RowD} (h : g ≠ []) : ∃ r ∈ g, zaF κ g = κ r := by
  cases g with
  | nil => exact absurd rfl h
  | cons x g => exact ⟨x, List.mem_cons_self, rfl⟩
theorem out_vr (h : zT a = true) {w : Way} (hv : ∀ g ∈ zu mode names a, zaD (numF w g).1 = true) : zT (outR (kapB mode names) w (zu mode names a)) = true := by
  refine zdQ ?_ (fun r hr => ?_) ?_
  · unfold outR; rw [List.length_map, zbv h]; have := splitG_len (κ := kapB mode names) a; have := (zay.1 h).1; omega
  · obtain ⟨g, hg, rfl⟩ := List.mem_map.1 hr
    obtain ⟨h1, h2, _⟩ := grp h hg
    obtain ⟨q, hq, e⟩ := head_mem (κ := kapB mode names) h1
    refine okRow_of ?_ (hv g hg)
    rw [show (RowD.mk (zaF (kapB mode names) g) (numF w g).1).ls = zaF (kapB mode names) g from rfl, e]
    exact right_by (zdo (zcb h q (h2 q hq))).1 mode names
  · have := (zcy (κ := kapB mode names) a).lt
    rw [← zbv (mode := mode) (names := names) h] at this
    unfold outR
    exact List.pairwise_map.2 this
theorem firstG_0 {f : List RowD → Int × Int} : ∀ {gs : List (List RowD)}, (∀ g ∈ gs, (f g).2 = 0) → za9 f gs = 0
  | [], _ => rfl
  | g :: gs, h => by unfold za9; rw [if_neg (by have := h g List.mem_cons_self; omega)]; exact firstG_0 (fun g hg => h g (List.mem_cons_of_mem _ hg))
theorem gd_out (h : zT a = true) {w : Way} (hv : ∀ g ∈ zu mode names a, (numF w g).2 = 0 ∧ zaD (numF w g).1 = true) : gdE w mode names a = 0 ∧ gdL w mode names a = outR (kapB mode names) w (zu mode names a) := by
  have h0 := firstG_0 (f := numF w) (fun g hg => (hv g hg).1)
  have h1 := rt_self (out_vr h (fun g hg => (hv g hg).2))
  unfold gdE gdL; rw [if_pos h, if_pos h, if_pos h0, if_pos h0]; exact ⟨h1.2, h1.1⟩
end
/-! ### groups and their keys -/
theorem ins_key {κ : RowD → List Lbl} {r : RowD} : ∀ {gs : List (List RowD)}, (∀ g ∈ gs, g ≠ []) → (∀ g ∈ gs, ∀ x ∈ g, κ x = zaF κ g) → ∀ g ∈ insG κ gs r, ∀ x ∈ g, κ x = zaF κ g
  | [], _, _, g, hg, x, hx => by
    rw [show insG κ [] r = [[r]] from rfl, List.mem_singleton] at hg; subst hg; rw [List.mem_singleton.1 hx]; rfl
  | a :: gs, hn, h, g, hg, x, hx => by
    have ih := @ins_key κ r gs (fun g hg => hn g (List.mem_cons_of_mem _ hg)) (fun g hg => h g (List.mem_cons_of_mem _ hg))
    unfold insG at hg
    split at hg
    · rcases List.mem_cons.1 hg with e | e
      · rw [e] at hx ⊢; exact h a List.mem_cons_self x hx
      · exact ih g e x hx
    · split at hg
      · rename_i he
        rcases List.mem_cons.1 hg with e | e
        · have ha := hn a List.mem_cons_self
          rw [e, headK_app ha]; rw [e] at hx
          rcases List.mem_append.1 hx with hx | hx
          · exact h a List.mem_cons_self x hx
          · rw [List.mem_singleton.1 hx]; exact he.symm
        · exact h g (List.mem_cons_of_mem _ e) x hx
      · rcases List.mem_cons.1 hg with e | e
        · rw [e] at hx ⊢; rw [List.mem_singleton.1 hx]; rfl
        · exact h g e x hx
theorem split_key {κ : RowD → List Lbl} (l : List RowD) : ∀ g ∈ zaT κ l, ∀ x ∈ g, κ x = zaF κ g := by
  unfold zaT
  have : ∀ (m : List RowD) (s : List (List RowD)), GOk κ s → (∀ g ∈ s, ∀ x ∈ g, κ x = zaF κ g) → ∀ g ∈ m.foldl (insG κ) s, ∀ x ∈ g, κ x = zaF κ g := by
    intro m
    induction m with
    | nil => intro s _ h; exact h
    | cons y m ih => intro s ho h; exact ih _ (insG_ok ho) (ins_key ho.ne h)
  exact this l [] ⟨fun _ h => (by cases h), List.Pairwise.nil⟩ (fun _ h => by cases h)
section
variable {mode : Int} {names : List ByteArray} {a : List RowD}
end
/-! ### the first call -/
abbrev lA : Lbl := ⟨⟨#[97]⟩, ⟨#[49]⟩⟩
abbrev lHx : Lbl := ⟨⟨#[104]⟩, ⟨#[120]⟩⟩
abbrev lHy : Lbl := ⟨⟨#[104]⟩, ⟨#[121]⟩⟩
abbrev nH : ByteArray := ⟨#[104]⟩
def al11 : List RowD := [⟨[lA, lHx], 5⟩, ⟨[lA, lHy], 7⟩]
theorem okl_A : okL lA = true := by unfold okL; rw [name_a]; decide
theorem name_h : zbw nH = true := by unfold zbw; rw [runes_one (r := 104) (by decide) (by decide) (by decide)]; decide
theorem okl_x : okL lHx = true := by unfold okL; rw [name_h]; decide
theorem okl_y : okL lHy = true := by unfold okL; rw [name_h]; decide
theorem al11_right {v : Lbl} (hv : okL v = true) (hn : cmpS lA.n v.n < 0) : zaL [lA, v] = true :=
  right_of (by simp) (by unfold NSrt; simpa using hn) (fun x hx => by
    rcases List.mem_cons.1 hx with e | e
    · rw [e]; exact okl_A
    · rw [List.mem_singleton.1 e]; exact hv)
theorem zde : zT al11 = true := by
  refine zdQ (by decide) (fun r hr => ?_) (by unfold al11 zaB; simp; decide)
  unfold al11 at hr
  rcases List.mem_cons.1 hr with e | e
  · rw [e]; exact okRow_of (al11_right okl_x (by decide)) (by decide)
  · rw [List.mem_singleton.1 e]; exact okRow_of (al11_right okl_y (by decide)) (by decide)
theorem al11_s : gdE (.sums false) 2 [nH] al11 = 0 ∧ gdL (.sums false) 2 [nH] al11 = [⟨[lA], 12⟩] := by
  have hs : zu 2 [nH] al11 = [al11] := by rw [zbv zde]; decide
  have hv : numF (.sums false) al11 = (12, 0) := by decide
  have h := gd_out (w := .sums false) (mode := 2) (names := [nH]) zde (fun g hg => by rw [hs, List.mem_singleton] at hg; rw [hg, hv]; exact ⟨rfl, by decide⟩)
  refine ⟨h.1, h.2.trans ?_⟩
  rw [hs]; unfold outR; rw [List.map_cons, List.map_nil, hv]; decide
theorem al11_t : gtE 1 0 [] al11 = 0 ∧ gtL 1 0 [] al11 = [⟨[lA, lHy], 7⟩] := by
  have hs : zu 0 [] al11 = [al11] := by rw [zbv zde]; decide
  have ht : topR 1 [al11] = [⟨[lA, lHy], 7⟩] := by decide
  have h := rt_self (one_vr (r := ⟨[lA, lHy], 7⟩) (okRow_of (al11_right okl_y (by decide)) (by decide)))
  unfold gtE gtL; rw [if_pos zde, if_pos zde, hs, ht]; exact ⟨h.2, h.1⟩
theorem al11_p : (zu 1 [nH] al11).length = 2 := by rw [zbv zde]; decide
end Lp
