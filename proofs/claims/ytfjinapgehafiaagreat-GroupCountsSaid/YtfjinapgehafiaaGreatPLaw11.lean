/- Walks, printed by a program of mine. -/
import Derived.Test.YtfjinapgehafiaaGreatV21
set_option linter.unusedSimpArgs false
set_option linter.unusedVariables false
set_option maxHeartbeats 4000000
set_option maxRecDepth 100000
namespace Lp
open Go Go.RowKit Go.Proofs

namespace HdYtfjinapgehafiaaGreatV22
theorem zcg : ∀ w, ((#[⟨"Labels", 50, 0, false, "", "", 0⟩, ⟨"V", 3, 1, false, "", "", 24⟩] : Array Field).mapM fun f => do pure (f.offset, ← Go.sizeOf f.type) : Sem (Array (Nat × Nat))).run Tryz.prog w = .ok ([(0, 1), (1, 1)] : List (Nat × Nat)).toArray w := fun _ => by kernel_rfl
theorem z5 (b o : Nat) : ∀ w, (Instr.fieldAt 53 (.pointer (some ⟨b, o, none⟩)) 0).run Tryz.prog w = .ok (.pointer (some ⟨b, o + 0, none⟩)) w := fun _ => by kernel_rfl
theorem zU (b o : Nat) : ∀ w, (Instr.fieldAt 53 (.pointer (some ⟨b, o, none⟩)) 1).run Tryz.prog w = .ok (.pointer (some ⟨b, o + 1, none⟩)) w := fun _ => by kernel_rfl
theorem zax : ∃ i, Tryz.prog.info? 53 = some i ∧ i.zero = some (.agg #[(.slice none 0 0), (.int .i64 0)]) ∧ i.size = 2 ∧ i.bytes = 32 := za4 (by kernel_rfl)
theorem zaV : Tryz.prog.underlying 22 = some (.slice 53) := by kernel_rfl
end HdYtfjinapgehafiaaGreatV22
open HdYtfjinapgehafiaaGreatV22

theorem refTidyR_c (l : List RowD) (hl : l.length ≤ 1000000) (hli : ∀ r ∈ l, zap r.ls = true) :
    CD Tryz.prog 19 [] [.sh 2 (l.map RowD.d)] (fun r H' => ∃ v0_, r = .tup [.ov v0_, dI (rtE l)] ∧ H' = [.sl v0_ 2 53 ((rtL l).map RowD.d)]) := by
  refine zr Tryz.func19 rfl (N := 34) rfl rfl (fun C => ?_)
  refine jk [0] rfl ?_
  refine JD.bd 0 rfl (fun bd0 => ?_)
  have nl0 := zR bd0
  refine jT rfl (oR 2 rfl (oZ rfl (jS rfl (jT rfl (oR 1 rfl (oP rfl (z7 (n := l.length) rfl Tryz.runUnderlying22 (by simp only [lm, lc, ln])) (oP rfl (zan rfl rfl rfl) (oZ rfl ?_))))))))
  refine jD rfl (fun hc1 => ?_) (fun hc1 => ?_)
  · skip
    refine jT rfl (oR 2 rfl (oZ rfl (zn rfl (ze (PD.subH (HSub.nil 2 53) (PD.norm [.sl (.slice none 0 0) 2 53 ((rtL l).map RowD.d)] (by have hw : [] = rtL l := (by first | exact (zbX hc1).1 | exact (zbX hc1).2); rw [show ([] : List D) = List.map RowD.d (rtL l) from congrArg (List.map RowD.d) hw]) ?_))))))
    exact zk Tryz.results19 (.cons (zw (zj rfl) (Cv.ov rfl)) (.cons (zw (zj rfl) (Cv.eq (congrArg (fun n => D.v (.int .i64 n)) (by first | exact (zbX hc1).1 | exact (zbX hc1).2)))) .nil)) rfl (HSub.fst 1 rfl) ⟨(.slice none 0 0), rfl, rfl⟩
  · skip
    refine zl rfl (zd (jS rfl (jT rfl (oR 1 rfl (oZ rfl (jB rfl (jl1 (fun (a_ : Nat) => [(0, .sh 2 (l.map RowD.d)), (4, dN a_)]) (fun a_ => []) (fun a_ => (a_ ≤ l.length) ∧ (za5 (l.take a_) = true)) (fun a_ => l.length - a_) 0 rfl (sa rfl) HSub.rfl' ⟨Nat.zero_le _, rfl⟩ ?_)))))))
    rintro i ⟨hil, hw⟩
    refine ja rfl (jn rfl (jS rfl (jT rfl (oR 2 rfl (oP rfl (z7 (n := l.length) rfl Tryz.runUnderlying22 (by simp only [lm, lc, ln])) (oP rfl (zQ rfl rfl rfl) (oZ rfl ?_)))))))
    refine jD rfl (fun hc2 => ?_) (fun hc2 => ?_)
    · skip
      obtain ⟨x1, hx1⟩ := zz l i (by omega)
      refine zl rfl (zd (jS rfl (jB rfl (jS rfl ?_))))
      rcases Bool.eq_false_or_eq_true (zaB x1.ls) with hg3 | hg3
      · skip
        refine za rfl (oR 2 rfl (oP rfl (zt (k := i) rfl rfl Tryz.runUnderlying22 Tryz.sizeOf53 (by first | rfl | omega) (zf hx1)) (oP rfl (zE rfl z5 rfl) (oP rfl (zH rfl Tryz.isAgg50 rfl) (oW rfl rfl acs Tryz.call49 (refRight_c x1.ls (light_nz (hli x1 (zaj hx1)))) (os 19 rfl (congrArg (fun b => D.v (.bool b)) hg3) (oR 4 rfl (oG rfl (zt (k := i) rfl rfl Tryz.runUnderlying22 Tryz.sizeOf53 (by first | rfl | omega) (zf hx1)) (oG rfl (zE rfl zU rfl) (oG rfl (zH rfl Tryz.isAgg3 rfl) (oV rfl rfl acs Tryz.call37 (refValue_c x1.v) (oG rfl (za3 rfl) (oR 1 rfl (oZ rfl ?_))))))))))))))
        refine jC rfl (fun hc4 => ?_) (fun hc4 => ?_)
        · simp only [bA, bB, bC, bD, bE, bF, bG, bH, bI, bJ] at hc4
          refine jT rfl (oR 2 rfl (oZ rfl (zn rfl (zh (ze (zN (zh (ze (PD.subH (HSub.nil 2 53) (PD.norm [.sl (.slice none 0 0) 2 53 ((rtL l).map RowD.d)] (by have hw : [] = rtL l := (by first | exact (zci hx1 (by simp [*])).1 | exact (zci hx1 (by simp [*])).2); rw [show ([] : List D) = List.map RowD.d (rtL l) from congrArg (List.map RowD.d) hw]) ?_))))))))))
          exact zk Tryz.results19 (.cons (zw (zj rfl) (Cv.ov rfl)) (.cons (zw (zj rfl) (Cv.eq (congrArg (fun n => D.v (.int .i64 n)) (by first | exact (zci hx1 (by simp [*])).1 | exact (zci hx1 (by simp [*])).2)))) .nil)) rfl (HSub.fst 1 rfl) ⟨(.slice none 0 0), rfl, rfl⟩
        · simp only [bA, bB, bC, bD, bE, bF, bG, bH, bI, bJ] at hc4
          refine zl rfl (zy (zd (za rfl (oR 1 rfl (oP rfl (zP (c := ((i + 1 : Nat) : Int)) rfl rfl (zC (by omega) (by omega))) (oR 1 rfl (zi rfl ?_)))))))
          exact pl1 (i + 1) (sa rfl) HSub.rfl' ⟨by show i + 1 ≤ l.length; omega, rowsB_snoc hx1 hw hg3 hc4⟩ (by omega)
      · skip
        refine za rfl (oR 2 rfl (oP rfl (zt (k := i) rfl rfl Tryz.runUnderlying22 Tryz.sizeOf53 (by first | rfl | omega) (zf hx1)) (oP rfl (zE rfl z5 rfl) (oP rfl (zH rfl Tryz.isAgg50 rfl) (oW rfl rfl acs Tryz.call49 (refRight_c x1.ls (light_nz (hli x1 (zaj hx1)))) (os 19 rfl (congrArg (fun b => D.v (.bool b)) hg3) (oR 10 rfl (oZ rfl (jCt rfl (jT rfl (oR 2 rfl (oZ rfl (zn rfl (zh (ze (zN (zh (ze (PD.subH (HSub.nil 2 53) (PD.norm [.sl (.slice none 0 0) 2 53 ((rtL l).map RowD.d)] (by have hw : [] = rtL l := (by first | exact (zci hx1 (by simp [*])).1 | exact (zci hx1 (by simp [*])).2); rw [show ([] : List D) = List.map RowD.d (rtL l) from congrArg (List.map RowD.d) hw]) ?_))))))))))))))))))))
        exact zk Tryz.results19 (.cons (zw (zj rfl) (Cv.ov rfl)) (.cons (zw (zj rfl) (Cv.eq (congrArg (fun n => D.v (.int .i64 n)) (by first | exact (zci hx1 (by simp [*])).1 | exact (zci hx1 (by simp [*])).2)))) .nil)) rfl (HSub.fst 1 rfl) ⟨(.slice none 0 0), rfl, rfl⟩
    · skip
      refine zM rfl (zq (zp (zm (zd (jT rfl (oR 1 rfl (oE rfl (zJ [] _ [] rfl rfl (.cons ArgC.id .nil) zx Tryz.call50 (refOrder_c l (by omega)) (.inl rfl)) ?_)))))))
      rintro _ _ ⟨_, ⟨v5, rfl, rfl⟩, rfl⟩
      refine on rfl (oR 4 rfl (oZ rfl (jk [2, 3] rfl (zn rfl (PD.norm [.sl v5 2 53 ((rtL l).map RowD.d)] (by have hw : ordL l = rtL l := (by first | exact (zc1 (by omega) (by rw [← List.take_of_length_le (by omega : l.length ≤ i)]; exact hw)).1 | exact (zc1 (by omega) (by rw [← List.take_of_length_le (by omega : l.length ≤ i)]; exact hw)).2); rw [hw]) ?_)))))
      exact zk Tryz.results19 (.cons (zj rfl) (.cons (zw (zj rfl) (Cv.eq (congrArg (fun n => D.v (.int .i64 n)) (by first | exact (zc1 (by omega) (by rw [← List.take_of_length_le (by omega : l.length ≤ i)]; exact hw)).1 | exact (zc1 (by omega) (by rw [← List.take_of_length_le (by omega : l.length ≤ i)]; exact hw)).2)))) .nil)) rfl (HSub.fst 1 rfl) ⟨v5, rfl, rfl⟩

theorem tidy10_c (l : List RowD) (hl : l.length ≤ 2000) (hli : ∀ r ∈ l, zap r.ls = true) :
    CD Tryz.prog 12 [] [.sh 2 (l.map RowD.d)] (isR ((D.ls 2 RowD.d) (zb l))) := by
  refine zr Tryz.func12 rfl (N := 54) rfl rfl (fun C => ?_)
  refine jk [0] rfl ?_
  refine JD.bd 0 rfl (fun bd0 => ?_)
  have nl0 := zR bd0
  refine jT rfl (oR 1 rfl (oZ rfl (jT rfl (oR 1 rfl (oZ rfl (jS rfl (jT rfl (oR 1 rfl (oZ rfl (jB rfl (jl2 (fun (a_ : Nat) (b_ : List RowD) => [(0, .sh 2 (l.map RowD.d)), (2, dZ), (4, dN a_), (3, .sh 2 (b_.map RowD.d))]) (fun a_ b_ => []) (fun a_ b_ => (a_ ≤ l.length) ∧ (b_ = zb (l.take a_))) (fun a_ b_ => l.length - a_) 0 [] rfl ⟨sk rfl, sk rfl, sk rfl, sc rfl Cv.nil, trivial⟩ HSub.none ⟨Nat.zero_le _, rfl⟩ ?_)))))))))))
  rintro i out ⟨hil, hso⟩
  refine ja rfl (jn rfl ?_)
  have htr := trs_take hli i
  rw [← hso] at htr
  have hol : out.length ≤ 2000 := by have := htr.len; rw [List.length_take] at this; omega
  refine jS rfl (jT rfl (oR 2 rfl (oP rfl (z7 (n := l.length) rfl Tryz.runUnderlying22 (by simp only [lm, lc, ln])) (oP rfl (zQ rfl rfl rfl) (oZ rfl ?_)))))
  refine jD rfl (fun hc1 => ?_) (fun hc1 => ?_)
  · skip
    obtain ⟨x1, hx1⟩ := zz l i (by omega)
    refine zl rfl (zd (jS rfl (jB rfl (jT rfl (oR 2 rfl (oP rfl (zt (k := i) rfl rfl Tryz.runUnderlying22 Tryz.sizeOf53 (by first | rfl | omega) (zf hx1)) (oP rfl (zE rfl z5 rfl) (oP rfl (zH rfl Tryz.isAgg50 rfl) (oE rfl (zJ [] _ [] rfl rfl (.cons ArgC.id .nil) zx Tryz.call36 (refTidy_c x1.ls (light_nz (hli x1 (zaj hx1)))) (.inl rfl)) ?_)))))))))
    rintro _ _ ⟨_, ⟨v2, rfl, rfl⟩, rfl⟩
    refine on rfl (oR 5 rfl (oZ rfl (jS rfl (jS rfl ?_))))
    rcases Bool.eq_false_or_eq_true (zY x1.ls) with hg3 | hg3
    · skip
      refine JD.sub [(0, .sh 2 (l.map RowD.d)), (2, dZ), (3, .sh 2 (out.map RowD.d)), (4, dN i), (5, .ov v2), (6, dB true), (9, dN i), (10, .sh 2 (l.map RowD.d)), (11, dN l.length), (12, dB (decide (((i : Nat) : Int) < ((l.length : Nat) : Int)))), (15, .tup [.ov v2, dB (zY x1.ls)]), (16, .sh 2 (l.map RowD.d)), (17, dN i), (18, .el (RowD.d x1) 0), (19, .el (RowD.d x1) 0), (20, .sh 2 (x1.ls.map Lbl.d)), (21, .tup [.ov v2, dB (zY x1.ls)]), (22, .ov v2), (23, dB true)] ⟨sk rfl, sk rfl, sk rfl, sk rfl, sk rfl, se rfl (congrArg (fun b => D.v (.bool b)) (by simp [hg3])), sk rfl, sk rfl, sk rfl, sk rfl, sk rfl, sk rfl, sk rfl, sk rfl, sk rfl, sk rfl, sk rfl, sk rfl, se rfl (congrArg (fun b => D.v (.bool b)) (by simp [hg3])), trivial⟩ (za rfl (oR 5 rfl (oG rfl (zt (k := i) rfl rfl Tryz.runUnderlying22 Tryz.sizeOf53 (by first | rfl | omega) (zf hx1)) (oG rfl (zE rfl zU rfl) (oG rfl (zH rfl Tryz.isAgg3 rfl) (oV rfl rfl acs Tryz.call37 (refValue_c x1.v) (oG rfl (za3 rfl) (oR 1 rfl (oZ rfl ?_)))))))))
      refine jC rfl (fun hc4 => ?_) (fun hc4 => ?_)
      · simp only [bA, bB, bC, bD, bE, bF, bG, bH, bI, bJ] at hc4
        refine zM rfl (zq (zm (zd (za rfl (oR 1 rfl (oP rfl (zP (c := ((i + 1 : Nat) : Int)) rfl rfl (zC (by omega) (by omega))) (oR 1 rfl (zi rfl ?_))))))))
        exact pl2 (i + 1) out (sa rfl) HSub.none ⟨by show i + 1 ≤ l.length; omega, by show _ = zb (l.take (i + 1)); rw [tidyRs_snoc hx1, ← hso]; exact (trStep_no (.inr hc4)).symm⟩ (by omega)
      · simp only [bA, bB, bC, bD, bE, bF, bG, bH, bI, bJ] at hc4
        refine zl rfl (zd (jS rfl ?_))
        refine JD.mv (Mv.freeze (K' := [(0, .sh 2 (l.map RowD.d)), (2, dZ), (3, .sh 2 (out.map RowD.d)), (4, dN i), (5, .sh 2 ((zI x1.ls).map Lbl.d)), (6, dB true), (9, dN i), (10, .sh 2 (l.map RowD.d)), (11, dN l.length), (12, dB (decide (((i : Nat) : Int) < ((l.length : Nat) : Int)))), (15, .tup [.sh 2 ((zI x1.ls).map Lbl.d), dB (zY x1.ls)]), (16, .sh 2 (l.map RowD.d)), (17, dN i), (18, .el (RowD.d x1) 0), (19, .el (RowD.d x1) 0), (20, .sh 2 (x1.ls.map Lbl.d)), (21, .tup [.sh 2 ((zI x1.ls).map Lbl.d), dB (zY x1.ls)]), (22, .sh 2 ((zI x1.ls).map Lbl.d)), (23, dB true), (24, dB true), (25, dB false), (26, dB false), (27, .sh 2 (l.map RowD.d)), (28, dN i), (29, .el (RowD.d x1) 0), (30, .el (RowD.d x1) 1), (31, dI x1.v), (32, dB (valB x1.v)), (33, dB (!(valB x1.v))), (34, dB (!(valB x1.v)))]) [.sl v2 2 62 ((zI x1.ls).map Lbl.d)] (H1 := []) (H1' := []) ⟨⟨_, rfl, ArgC.id⟩, ⟨_, rfl, ArgC.id⟩, ⟨_, rfl, ArgC.id⟩, ⟨_, rfl, ArgC.id⟩, ⟨_, rfl, ArgC.own (j := 0) rfl rfl⟩, ⟨_, rfl, ArgC.id⟩, ⟨_, rfl, ArgC.id⟩, ⟨_, rfl, ArgC.id⟩, ⟨_, rfl, ArgC.id⟩, ⟨_, rfl, ArgC.id⟩, ⟨_, rfl, ArgC.tup (.cons (ArgC.own (j := 0) rfl rfl) (.cons ArgC.id .nil))⟩, ⟨_, rfl, ArgC.id⟩, ⟨_, rfl, ArgC.id⟩, ⟨_, rfl, ArgC.id⟩, ⟨_, rfl, ArgC.id⟩, ⟨_, rfl, ArgC.id⟩, ⟨_, rfl, ArgC.tup (.cons (ArgC.own (j := 0) rfl rfl) (.cons ArgC.id .nil))⟩, ⟨_, rfl, ArgC.own (j := 0) rfl rfl⟩, ⟨_, rfl, ArgC.id⟩, ⟨_, rfl, ArgC.id⟩, ⟨_, rfl, ArgC.id⟩, ⟨_, rfl, ArgC.id⟩, ⟨_, rfl, ArgC.id⟩, ⟨_, rfl, ArgC.id⟩, ⟨_, rfl, ArgC.id⟩, ⟨_, rfl, ArgC.id⟩, ⟨_, rfl, ArgC.id⟩, ⟨_, rfl, ArgC.id⟩, ⟨_, rfl, ArgC.id⟩, ⟨_, rfl, ArgC.id⟩, trivial⟩ .nil) ?_
        refine jk [0, 2, 3, 4, 5, 6, 9, 10, 11, 12, 15, 16, 17, 18, 19, 20, 21, 22, 23, 24, 25, 26, 27, 28, 29, 30, 31, 32, 33, 34] rfl (jn rfl ?_)
        refine za0 16 [(36, .q (.sh 2 (out.map RowD.d))), (37, .o (fun γ => [.sl (γ 1) 2 53 (out.map RowD.d)])), (38, .q (.sh 2 ((zI x1.ls).map Lbl.d))), (39, .q (.sh 2 (l.map RowD.d))), (40, .q (dN i)), (41, .q (.el (RowD.d x1) 0)), (42, .q (.el (RowD.d x1) 1)), (43, .q (dI x1.v)), (44, .q (.agg [.sh 2 ((zI x1.ls).map Lbl.d), dI x1.v])), (45, .q (.sh 2 ([(RowD.mk (zI x1.ls) x1.v)].map RowD.d))), (46, .o (fun γ => [.sl (γ 10) 2 53 ((out ++ [(RowD.mk (zI x1.ls) x1.v)]).map RowD.d)])), (47, .e (.tup [.sh 2 ((rtL (out ++ [(RowD.mk (zI x1.ls) x1.v)])).map RowD.d), dI (rtE (out ++ [(RowD.mk (zI x1.ls) x1.v)]))]) (fun γ => [])), (35, .q (.tup [.sh 2 ((rtL (out ++ [(RowD.mk (zI x1.ls) x1.v)])).map RowD.d), dI (rtE (out ++ [(RowD.mk (zI x1.ls) x1.v)]))])), (48, .q (.sh 2 ((rtL (out ++ [(RowD.mk (zI x1.ls) x1.v)])).map RowD.d))), (49, .q (dI (rtE (out ++ [(RowD.mk (zI x1.ls) x1.v)])))), (7, .q (.sh 2 ((rtL (out ++ [(RowD.mk (zI x1.ls) x1.v)])).map RowD.d)))] [] (Hn := fun γ => []) zaa rfl rfl (by kernel_rfl) (by kernel_rfl) (by kernel_rfl) HSub.rfl' (fun _ => rfl) (fun γ => ⟨so_p rfl rfl rfl (zc rfl), so_o rfl rfl rfl rfl ((zbG (f := RowD.d) (l' := out) rfl rfl (SrcD.sh) zaV zax rfl rfl (by unfold maxLen; (try simp only [la, lc, ln, lm, lt', ld, ls, lr]); omega) (by (try simp only [la, lc, ln, lm, lt', ld, ls, lr]); omega)).mono (by rintro _ _ ⟨v, rfl, rfl⟩; exact ⟨v, rfl, rfl⟩)) (fun _ => HSub.lst 1 rfl), so_p rfl rfl rfl (zc rfl), so_p rfl rfl rfl (zc rfl), so_p rfl rfl rfl (zc rfl), so_p rfl rfl rfl (zt (k := i) rfl rfl Tryz.runUnderlying22 Tryz.sizeOf53 (by first | rfl | omega) (zf hx1)), so_p rfl rfl rfl (zE rfl zU rfl), so_p rfl rfl rfl (zH rfl Tryz.isAgg3 rfl), so_p rfl rfl rfl (zaP [0, 1] [.tmp 38, .tmp 43] (zv := (.agg #[(.slice none 0 0), (.int .i64 0)])) rfl rfl (.cons CellD.sh (.cons (CellD.v rfl) .nil)) (Tryz.runUnderlying53) Tryz.zeroValue53 zcg ⟨rfl, rfl, trivial⟩ rfl), so_q rfl rfl rfl (zai [.tmp 44] rfl rfl (.cons CellD.agg .nil) rfl Tryz.runUnderlying22 Tryz.sizeOf53 Tryz.zeroValue53 rfl rfl rfl rfl), so_o rfl rfl rfl rfl ((z4 (f := RowD.d) (l := out) (l' := [(RowD.mk (zI x1.ls) x1.v)]) (i := 0) rfl rfl rfl (SrcD.sh) zaV zax rfl rfl (by unfold maxLen; (try simp only [la, lc, ln, lm, lt', ld, ls, lr]); omega) (by (try simp only [la, lc, ln, lm, lt', ld, ls, lr]); omega)).mono (by rintro _ _ ⟨v, rfl, rfl⟩; exact ⟨v, rfl, rfl⟩)) (fun _ => HSub.lst 1 rfl), so_e rfl rfl rfl rfl (Ef.fz (Hr := []) (d := .tup [.sh 2 ((rtL (out ++ [(RowD.mk (zI x1.ls) x1.v)])).map RowD.d), dI (rtE (out ++ [(RowD.mk (zI x1.ls) x1.v)]))]) (Ef.mv (Mvk.freeze (K' := [(46, .sh 2 ((out ++ [(RowD.mk (zI x1.ls) x1.v)]).map RowD.d))]) [.sl (γ 10) 2 53 ((out ++ [(RowD.mk (zI x1.ls) x1.v)]).map RowD.d)] (H1 := []) (H1' := []) ⟨⟨_, rfl, ArgC.own (j := 0) rfl rfl⟩, trivial⟩ .nil) (zJ [] [] [] rfl rfl (.cons ArgC.id .nil) zx Tryz.call19 (refTidyR_c (out ++ [(RowD.mk (zI x1.ls) x1.v)]) (by first | omega | (simp only [la, List.length_singleton]; omega)) (by intro r hr; rcases List.mem_append.1 hr with e | e; (exact htr.li r e); (rw [List.mem_singleton.1 e]; exact tidyL_light (hli x1 (zaj hx1))))) (.inl rfl))) (by rintro _ _ ⟨_, ⟨v, rfl, rfl⟩, rfl⟩; exact ⟨[.sl v 2 53 ((rtL (out ++ [(RowD.mk (zI x1.ls) x1.v)])).map RowD.d)], rfl, ArgC.tup (.cons (ArgC.own (j := 0) rfl rfl) (.cons ArgC.id .nil))⟩)) HSub.rfl', so_p rfl rfl rfl (zc rfl), so_p rfl rfl rfl (p_extract rfl rfl), so_p rfl rfl rfl (p_extract rfl rfl), so_p rfl rfl rfl (p_assign rfl), trivial⟩) (fun γ => ?_)
        refine ok [0, 2, 3, 4, 5, 6, 7, 9, 10, 11, 12, 15, 16, 17, 18, 19, 20, 21, 22, 23, 24, 25, 26, 27, 28, 29, 30, 31, 32, 33, 34, 35, 36, 37, 38, 39, 40, 41, 42, 43, 44, 45, 46, 47, 48, 49] rfl (oR 1 rfl (oZ rfl (jT rfl (oR 1 rfl (oP rfl (zS rfl rfl rfl) (oZ rfl ?_))))))
        refine jD rfl (fun hc5 => ?_) (fun hc5 => ?_)
        · skip
          refine za rfl (oR 2 rfl (zi rfl (zy (zd (za rfl (oR 1 rfl (oP rfl (zP (c := ((i + 1 : Nat) : Int)) rfl rfl (zC (by omega) (by omega))) (oR 1 rfl (zi rfl ?_)))))))))
          exact pl2 (i + 1) (rtL (out ++ [(RowD.mk (zI x1.ls) x1.v)])) (sa rfl) HSub.none ⟨by show i + 1 ≤ l.length; omega, by show _ = zb (l.take (i + 1)); rw [tidyRs_snoc hx1, ← hso]; exact (trStep_t hg3 hc4 hc5).symm⟩ (by omega)
        · skip
          refine zl rfl (zy (zd (za rfl (oR 1 rfl (oP rfl (zP (c := ((i + 1 : Nat) : Int)) rfl rfl (zC (by omega) (by omega))) (oR 1 rfl (zi rfl ?_)))))))
          exact pl2 (i + 1) out (sa rfl) HSub.none ⟨by show i + 1 ≤ l.length; omega, by show _ = zb (l.take (i + 1)); rw [tidyRs_snoc hx1, ← hso]; exact (trStep_f hc5).symm⟩ (by omega)
    · skip
      refine JD.sub [(0, .sh 2 (l.map RowD.d)), (2, dZ), (3, .sh 2 (out.map RowD.d)), (4, dN i), (5, .ov v2), (6, dB false), (9, dN i), (10, .sh 2 (l.map RowD.d)), (11, dN l.length), (12, dB (decide (((i : Nat) : Int) < ((l.length : Nat) : Int)))), (15, .tup [.ov v2, dB (zY x1.ls)]), (16, .sh 2 (l.map RowD.d)), (17, dN i), (18, .el (RowD.d x1) 0), (19, .el (RowD.d x1) 0), (20, .sh 2 (x1.ls.map Lbl.d)), (21, .tup [.ov v2, dB (zY x1.ls)]), (22, .ov v2), (23, dB false)] ⟨sk rfl, sk rfl, sk rfl, sk rfl, sk rfl, se rfl (congrArg (fun b => D.v (.bool b)) (by simp [hg3])), sk rfl, sk rfl, sk rfl, sk rfl, sk rfl, sk rfl, sk rfl, sk rfl, sk rfl, sk rfl, sk rfl, sk rfl, se rfl (congrArg (fun b => D.v (.bool b)) (by simp [hg3])), trivial⟩ (za rfl (oR 11 rfl (oZ rfl (jCt rfl (zM rfl (zq (zm (zd (za rfl (oR 1 rfl (oP rfl (zP (c := ((i + 1 : Nat) : Int)) rfl rfl (zC (by omega) (by omega))) (oR 1 rfl (zi rfl ?_)))))))))))))
      exact pl2 (i + 1) out (sa rfl) HSub.none ⟨by show i + 1 ≤ l.length; omega, by show _ = zb (l.take (i + 1)); rw [tidyRs_snoc hx1, ← hso]; exact (trStep_no (.inl hg3)).symm⟩ (by omega)
  · skip
    refine zM rfl (zq (zp (zm (zd (jT rfl (oR 2 rfl (oZ rfl (zn rfl ?_))))))))
    exact zk Tryz.results12 (.cons (zw (zj rfl) (Cv.eq (congrArg (D.ls 2 RowD.d) (show out = zb l from (by rw [hso, List.take_of_length_le (by omega)]))))) .nil) rfl HSub.none ⟨rfl, rfl⟩
end Lp
/- Walks, printed by a program of mine. -/
set_option linter.unusedSimpArgs false
set_option linter.unusedVariables false
set_option maxHeartbeats 4000000
set_option maxRecDepth 100000
namespace Lp
open Go Go.RowKit Go.Proofs

namespace HdYtfjinapgehafiaaGreatV2
theorem z5 (b o : Nat) : ∀ w, (Instr.fieldAt 53 (.pointer (some ⟨b, o, none⟩)) 0).run Tryz.prog w = .ok (.pointer (some ⟨b, o + 0, none⟩)) w := fun _ => by kernel_rfl
theorem zU (b o : Nat) : ∀ w, (Instr.fieldAt 53 (.pointer (some ⟨b, o, none⟩)) 1).run Tryz.prog w = .ok (.pointer (some ⟨b, o + 1, none⟩)) w := fun _ => by kernel_rfl
theorem zah (b o : Nat) : ∀ w, (Instr.fieldAt 62 (.pointer (some ⟨b, o, none⟩)) 0).run Tryz.prog w = .ok (.pointer (some ⟨b, o + 0, none⟩)) w := fun _ => by kernel_rfl
theorem zay (b o : Nat) : ∀ w, (Instr.fieldAt 62 (.pointer (some ⟨b, o, none⟩)) 1).run Tryz.prog w = .ok (.pointer (some ⟨b, o + 1, none⟩)) w := fun _ => by kernel_rfl
end HdYtfjinapgehafiaaGreatV2
open HdYtfjinapgehafiaaGreatV2

theorem Light2_c (l : List Lbl)  :
    CD Tryz.prog 35 [] [.sh 2 (l.map Lbl.d)] (isR (dB (zap l))) := by
  refine zr Tryz.func35 rfl (N := 33) rfl rfl (fun C => ?_)
  refine jk [0] rfl ?_
  refine JD.bd 0 rfl (fun bd0 => ?_)
  have nl0 := zR bd0
  refine jT rfl (oR 1 rfl (oZ rfl (jS rfl (jT rfl (oR 1 rfl (oZ rfl (jB rfl (jl1 (fun (a_ : Nat) => [(0, .sh 2 (l.map Lbl.d)), (3, dN a_)]) (fun a_ => []) (fun a_ => (a_ ≤ l.length ∧ a_ ≤ 30) ∧ ((l.take a_).all (fun x => decide (x.n.size ≤ 200) && decide (x.v.size ≤ 200)) = true)) (fun a_ => l.length - a_) 0 rfl (sa rfl) HSub.rfl' ⟨⟨Nat.zero_le _, Nat.zero_le _⟩, by simp⟩ ?_))))))))
  rintro k ⟨hk, hf⟩
  refine ja rfl (jn rfl (jS rfl (jS rfl (jk [0, 3] rfl ?_))))
  refine zaf 11 ((decide (((k : Nat) : Int) < ((l.length : Nat) : Int)) && decide (((k : Nat) : Int) < (30 : Int)))) [] (fun _ hQ1 => ?_) ?_
  · skip
    by_cases hg2 : ((k : Nat) : Int) < ((l.length : Nat) : Int)
    · skip
      refine za rfl (oR 2 rfl (oP rfl (z7 (n := l.length) rfl Tryz.runUnderlying50 (by simp only [lm, lc, ln])) (oP rfl (zQ rfl rfl (decide_eq_true hg2)) (oR 2 rfl (oG rfl (zQ rfl rfl rfl) (oR 1 rfl (zi rfl ?_)))))))
      exact PD.sub ((11, dB (decide (((k : Nat) : Int) < ((l.length : Nat) : Int)) && decide (((k : Nat) : Int) < (30 : Int)))) :: [(0, .sh 2 (l.map Lbl.d)), (3, dN k)]) ⟨sc rfl (Cv.eq (congrArg (fun b => D.v (.bool b)) (by first | (simp [hg2]; done) | (simp_all; done)))), sk rfl, sk rfl, trivial⟩ hQ1
    · skip
      refine za rfl (oR 2 rfl (oP rfl (z7 (n := l.length) rfl Tryz.runUnderlying50 (by simp only [lm, lc, ln])) (oP rfl (zQ rfl rfl (decide_eq_false hg2)) (oR 4 rfl (zi rfl ?_)))))
      exact PD.sub ((11, dB (decide (((k : Nat) : Int) < ((l.length : Nat) : Int)) && decide (((k : Nat) : Int) < (30 : Int)))) :: [(0, .sh 2 (l.map Lbl.d)), (3, dN k)]) ⟨sc rfl (Cv.eq (congrArg (fun b => D.v (.bool b)) (by first | (simp [hg2]; done) | (simp_all; done)))), sk rfl, sk rfl, trivial⟩ hQ1
  · skip
    refine zd ?_
    refine jC rfl (fun hc3 => ?_) (fun hc3 => ?_)
    · simp only [bA, bB, bC, bD, bE, bF, bG, bH, bI, bJ] at hc3
      refine zl rfl (zd (jS rfl (jB rfl (jS rfl ?_))))
      obtain ⟨x1, hx1⟩ := zz l k (by omega)
      refine jk [0, 3, 11] rfl ?_
      refine zaf 29 ((decide ((200 : Int) < ((x1.n.size : Nat) : Int)) || decide ((200 : Int) < ((x1.v.size : Nat) : Int)))) [] (fun _ hQ4 => ?_) ?_
      · skip
        by_cases hg5 : (200 : Int) < ((x1.n.size : Nat) : Int)
        · skip
          refine za rfl (oR 2 rfl (oP rfl (zt (k := k) rfl rfl Tryz.runUnderlying50 Tryz.sizeOf62 (by first | rfl | omega) (zf hx1)) (oP rfl (zE rfl zah rfl) (oP rfl (zH rfl Tryz.isAgg9 rfl) (oP rfl (zbx rfl Tryz.runUnderlying9) (oP rfl (zan rfl rfl (decide_eq_true hg5)) (oR 9 rfl (zi rfl ?_))))))))
          exact PD.sub ((29, dB (decide ((200 : Int) < ((x1.n.size : Nat) : Int)) || decide ((200 : Int) < ((x1.v.size : Nat) : Int)))) :: [(0, .sh 2 (l.map Lbl.d)), (3, dN k), (11, dB (decide (((k : Nat) : Int) < ((l.length : Nat) : Int)) && decide (((k : Nat) : Int) < (30 : Int))))]) ⟨sc rfl (Cv.eq (congrArg (fun b => D.v (.bool b)) (by first | (simp [hg5]; done) | (simp_all; done)))), sk rfl, sk rfl, sk rfl, trivial⟩ hQ4
        · skip
          refine za rfl (oR 2 rfl (oP rfl (zt (k := k) rfl rfl Tryz.runUnderlying50 Tryz.sizeOf62 (by first | rfl | omega) (zf hx1)) (oP rfl (zE rfl zah rfl) (oP rfl (zH rfl Tryz.isAgg9 rfl) (oP rfl (zbx rfl Tryz.runUnderlying9) (oP rfl (zan rfl rfl (decide_eq_false hg5)) (oR 3 rfl (oG rfl (zt (k := k) rfl rfl Tryz.runUnderlying50 Tryz.sizeOf62 (by first | rfl | omega) (zf hx1)) (oG rfl (zE rfl zay rfl) (oG rfl (zH rfl Tryz.isAgg9 rfl) (oG rfl (zbx rfl Tryz.runUnderlying9) (oG rfl (zan rfl rfl rfl) (oR 1 rfl (zi rfl ?_))))))))))))))
          exact PD.sub ((29, dB (decide ((200 : Int) < ((x1.n.size : Nat) : Int)) || decide ((200 : Int) < ((x1.v.size : Nat) : Int)))) :: [(0, .sh 2 (l.map Lbl.d)), (3, dN k), (11, dB (decide (((k : Nat) : Int) < ((l.length : Nat) : Int)) && decide (((k : Nat) : Int) < (30 : Int))))]) ⟨sc rfl (Cv.eq (congrArg (fun b => D.v (.bool b)) (by first | (simp [hg5]; done) | (simp_all; done)))), sk rfl, sk rfl, sk rfl, trivial⟩ hQ4
      · skip
        refine zd ?_
        refine jC rfl (fun hc6 => ?_) (fun hc6 => ?_)
        · simp only [bA, bB, bC, bD, bE, bF, bG, bH, bI, bJ] at hc6
          refine jT rfl (oR 1 rfl (oZ rfl (zn rfl (zh (ze (zN (zh (ze ?_))))))))
          exact zk Tryz.results35 (.cons (zw (zj rfl) (Cv.eq (congrArg (fun b => D.v (.bool b)) (by first | rw [lightL_bad hx1 (by omega) (by omega)] | (rw [lightL_end hf (by omega)]; exact decide_eq_decide.2 (by omega)))))) .nil) rfl HSub.none ⟨rfl, rfl⟩
        · simp only [bA, bB, bC, bD, bE, bF, bG, bH, bI, bJ] at hc6
          refine zl rfl (zy (zd (za rfl (oR 1 rfl (oP rfl (zP (c := ((k + 1 : Nat) : Int)) rfl rfl (zC (by omega) (by omega))) (oR 1 rfl (zi rfl ?_)))))))
          exact pl1 (k + 1) (sa rfl) HSub.rfl' ⟨by omega, zbf hx1 hf (by simp only [Bool.and_eq_true, decide_eq_true_eq]; omega)⟩ (by omega)
    · simp only [bA, bB, bC, bD, bE, bF, bG, bH, bI, bJ] at hc3
      refine zM rfl (zq (zp (zm (zd (jT rfl (oR 1 rfl (oP rfl (z7 (n := l.length) rfl Tryz.runUnderlying50 (by simp only [lm, lc, ln])) (oP rfl (zaq rfl rfl rfl) (oR 1 rfl (oZ rfl (zn rfl ?_)))))))))))
      exact zk Tryz.results35 (.cons (zw (zj rfl) (Cv.eq (congrArg (fun b => D.v (.bool b)) (by first | rw [lightL_bad hk (by omega) (by omega)] | (rw [lightL_end hf (by omega)]; exact decide_eq_decide.2 (by omega)))))) .nil) rfl HSub.none ⟨rfl, rfl⟩

theorem Light10_c (l : List RowD)  :
    CD Tryz.prog 10 [] [.sh 2 (l.map RowD.d)] (isR (dB (zbd l))) := by
  refine zr Tryz.func10 rfl (N := 24) rfl rfl (fun C => ?_)
  refine jk [0] rfl ?_
  refine JD.bd 0 rfl (fun bd0 => ?_)
  have nl0 := zR bd0
  refine jT rfl (oR 1 rfl (oZ rfl (jS rfl (jT rfl (oR 1 rfl (oZ rfl (jB rfl (jl1 (fun (a_ : Nat) => [(0, .sh 2 (l.map RowD.d)), (3, dN a_)]) (fun a_ => []) (fun a_ => (a_ ≤ l.length ∧ a_ ≤ 100) ∧ ((l.take a_).all (fun r => zap r.ls) = true)) (fun a_ => l.length - a_) 0 rfl (sa rfl) HSub.rfl' ⟨⟨Nat.zero_le _, Nat.zero_le _⟩, by simp⟩ ?_))))))))
  rintro k ⟨hk, hf⟩
  refine ja rfl (jn rfl (jS rfl (jS rfl (jk [0, 3] rfl ?_))))
  refine zaf 11 ((decide (((k : Nat) : Int) < ((l.length : Nat) : Int)) && decide (((k : Nat) : Int) < (100 : Int)))) [] (fun _ hQ1 => ?_) ?_
  · skip
    by_cases hg2 : ((k : Nat) : Int) < ((l.length : Nat) : Int)
    · skip
      refine za rfl (oR 2 rfl (oP rfl (z7 (n := l.length) rfl Tryz.runUnderlying22 (by simp only [lm, lc, ln])) (oP rfl (zQ rfl rfl (decide_eq_true hg2)) (oR 2 rfl (oG rfl (zQ rfl rfl rfl) (oR 1 rfl (zi rfl ?_)))))))
      exact PD.sub ((11, dB (decide (((k : Nat) : Int) < ((l.length : Nat) : Int)) && decide (((k : Nat) : Int) < (100 : Int)))) :: [(0, .sh 2 (l.map RowD.d)), (3, dN k)]) ⟨sc rfl (Cv.eq (congrArg (fun b => D.v (.bool b)) (by first | (simp [hg2]; done) | (simp_all; done)))), sk rfl, sk rfl, trivial⟩ hQ1
    · skip
      refine za rfl (oR 2 rfl (oP rfl (z7 (n := l.length) rfl Tryz.runUnderlying22 (by simp only [lm, lc, ln])) (oP rfl (zQ rfl rfl (decide_eq_false hg2)) (oR 4 rfl (zi rfl ?_)))))
      exact PD.sub ((11, dB (decide (((k : Nat) : Int) < ((l.length : Nat) : Int)) && decide (((k : Nat) : Int) < (100 : Int)))) :: [(0, .sh 2 (l.map RowD.d)), (3, dN k)]) ⟨sc rfl (Cv.eq (congrArg (fun b => D.v (.bool b)) (by first | (simp [hg2]; done) | (simp_all; done)))), sk rfl, sk rfl, trivial⟩ hQ1
  · skip
    refine zd ?_
    refine jC rfl (fun hc3 => ?_) (fun hc3 => ?_)
    · simp only [bA, bB, bC, bD, bE, bF, bG, bH, bI, bJ] at hc3
      refine zl rfl (zd (jS rfl (jB rfl (jT rfl (oR 2 rfl ?_)))))
      obtain ⟨x1, hx1⟩ := zz l k (by omega)
      refine oP rfl (zt (k := k) rfl rfl Tryz.runUnderlying22 Tryz.sizeOf53 (by first | rfl | omega) (zf hx1)) (oP rfl (zE rfl z5 rfl) (oP rfl (zH rfl Tryz.isAgg50 rfl) (oW rfl rfl acs Tryz.call35 (Light2_c x1.ls) (oP rfl (za3 rfl) (oZ rfl ?_)))))
      refine jC rfl (fun hc4 => ?_) (fun hc4 => ?_)
      · simp only [bA, bB, bC, bD, bE, bF, bG, bH, bI, bJ] at hc4
        refine jT rfl (oR 1 rfl (oZ rfl (zn rfl (zh (ze (zN (zh (ze ?_))))))))
        exact zk Tryz.results10 (.cons (zw (zj rfl) (Cv.eq (congrArg (fun b => D.v (.bool b)) (by first | rw [lightR_bad hx1 (by omega) (by simpa using hc4)] | (rw [lightR_end hf (by omega)]; exact decide_eq_decide.2 (by omega)))))) .nil) rfl HSub.none ⟨rfl, rfl⟩
      · simp only [bA, bB, bC, bD, bE, bF, bG, bH, bI, bJ] at hc4
        refine zl rfl (zy (zd (za rfl (oR 1 rfl (oP rfl (zP (c := ((k + 1 : Nat) : Int)) rfl rfl (zC (by omega) (by omega))) (oR 1 rfl (zi rfl ?_)))))))
        exact pl1 (k + 1) (sa rfl) HSub.rfl' ⟨by omega, zbf hx1 hf (by simpa using hc4)⟩ (by omega)
    · simp only [bA, bB, bC, bD, bE, bF, bG, bH, bI, bJ] at hc3
      refine zM rfl (zq (zp (zm (zd (jT rfl (oR 1 rfl (oP rfl (z7 (n := l.length) rfl Tryz.runUnderlying22 (by simp only [lm, lc, ln])) (oP rfl (zaq rfl rfl rfl) (oR 1 rfl (oZ rfl (zn rfl ?_)))))))))))
      exact zk Tryz.results10 (.cons (zw (zj rfl) (Cv.eq (congrArg (fun b => D.v (.bool b)) (by first | rw [lightR_bad hk (by omega) (by simpa using hc4)] | (rw [lightR_end hf (by omega)]; exact decide_eq_decide.2 (by omega)))))) .nil) rfl HSub.none ⟨rfl, rfl⟩
end Lp
/- Walks, printed by a program of mine. -/
set_option linter.unusedSimpArgs false
set_option linter.unusedVariables false
set_option maxHeartbeats 4000000
set_option maxRecDepth 100000
namespace Lp
open Go Go.RowKit Go.Proofs

namespace HdYtfjinapgehafiaaGreatV65
theorem zcg : ∀ w, ((#[⟨"Labels", 50, 0, false, "", "", 0⟩, ⟨"V", 3, 1, false, "", "", 24⟩] : Array Field).mapM fun f => do pure (f.offset, ← Go.sizeOf f.type) : Sem (Array (Nat × Nat))).run Tryz.prog w = .ok ([(0, 1), (1, 1)] : List (Nat × Nat)).toArray w := fun _ => by kernel_rfl
theorem zde : ∀ w, ((#[⟨"Name", 9, 0, false, "", "", 0⟩, ⟨"Value", 9, 1, false, "", "", 16⟩] : Array Field).mapM fun f => do pure (f.offset, ← Go.sizeOf f.type) : Sem (Array (Nat × Nat))).run Tryz.prog w = .ok ([(0, 1), (1, 1)] : List (Nat × Nat)).toArray w := fun _ => by kernel_rfl
theorem zU (b o : Nat) : ∀ w, (Instr.fieldAt 53 (.pointer (some ⟨b, o, none⟩)) 1).run Tryz.prog w = .ok (.pointer (some ⟨b, o + 1, none⟩)) w := fun _ => by kernel_rfl
end HdYtfjinapgehafiaaGreatV65
open HdYtfjinapgehafiaaGreatV65

end Lp
/-
  What is said of vectors (chapter 10): keys, sums, sizes, contraries.
-/
set_option linter.unusedVariables false
namespace Lp
open Go
theorem within_ok {v : Int} (h : zak v = true) : zbJ v = (v, 0) := by unfold zbJ; rw [if_pos h]
theorem rV {v : Int} (h1 : -1000000000000 ≤ v) (h2 : v ≤ 1000000000000) : zak v = true := by unfold zak; simp [h1, h2]
end Lp
/-
  Laws of groups (chapter 11), plain.
-/
set_option linter.unusedVariables false
namespace Lp
open Go
theorem right_nil : zaB [] = true := right_of (by simp) (by unfold NSrt; simp) (fun _ h => by cases h)
theorem right_by {l : List Lbl} (h : zaB l = true) (mode : Int) (ns : List ByteArray) : zaB (byL mode ns l) = true := by
  unfold byL; split
  · exact right_key h mode ns
  · exact right_nil
section
variable {mode : Int} {names : List ByteArray} {a : List RowD}
theorem zbo (h : zV a = true) : zA mode names a = zaC (kapB mode names) a := by unfold zA; rw [if_pos h]
theorem grp (h : zV a = true) {g : List RowD} (hg : g ∈ zA mode names a) : g ≠ [] ∧ (∀ r ∈ g, r ∈ a) ∧ g.length ≤ a.length := by
  rw [zbo h] at hg
  exact ⟨(splitG_ok _).ne g hg, splitG_mem _ g hg, splitG_rows _ g hg⟩
theorem head_mem {κ : RowD → List Lbl} {g : List RowD} (h : g ≠ []) : ∃ r ∈ g, zaA κ g = κ r := by
  cases g with
  | nil => exact absurd rfl h
  | cons x g => exact ⟨x, List.mem_cons_self, rfl⟩
theorem out_vr (h : zV a = true) {w : Way} (hv : ∀ g ∈ zA mode names a, zak (numF w g).1 = true) : zV (outR (kapB mode names) w (zA mode names a)) = true := by
  refine vr_of ?_ (fun r hr => ?_) ?_
  · unfold outR; rw [List.length_map, zbo h]; have := splitG_len (κ := kapB mode names) a; have := (zaK.1 h).1; omega
  · obtain ⟨g, hg, rfl⟩ := List.mem_map.1 hr
    obtain ⟨h1, h2, _⟩ := grp h hg
    obtain ⟨q, hq, e⟩ := head_mem (κ := kapB mode names) h1
    refine okRow_of ?_ (hv g hg)
    rw [show (RowD.mk (zaA (kapB mode names) g) (numF w g).1).ls = zaA (kapB mode names) g from rfl, e]
    exact right_by (okRow_r (zcC h q (h2 q hq))).1 mode names
  · have := (splitG_ok (κ := kapB mode names) a).lt
    rw [← zbo (mode := mode) (names := names) h] at this
    unfold outR
    exact List.pairwise_map.2 this
theorem firstG_0 {f : List RowD → Int × Int} : ∀ {gs : List (List RowD)}, (∀ g ∈ gs, (f g).2 = 0) → zaT f gs = 0
  | [], _ => rfl
  | g :: gs, h => by unfold zaT; rw [if_neg (by have := h g List.mem_cons_self; omega)]; exact firstG_0 (fun g hg => h g (List.mem_cons_of_mem _ hg))
theorem zcV (h : zV a = true) {w : Way} (hv : ∀ g ∈ zA mode names a, (numF w g).2 = 0 ∧ zak (numF w g).1 = true) : gdE w mode names a = 0 ∧ gdL w mode names a = outR (kapB mode names) w (zA mode names a) := by
  have h0 := firstG_0 (f := numF w) (fun g hg => (hv g hg).1)
  have h1 := rt_self (out_vr h (fun g hg => (hv g hg).2))
  unfold gdE gdL; rw [if_pos h, if_pos h, if_pos h0, if_pos h0]; exact ⟨h1.2, h1.1⟩
theorem zcO {κ : RowD → List Lbl} {w : Way} {gs : List (List RowD)} {k : Nat} {x : RowD} {g : List RowD} (hx : (outR κ w gs)[k]? = some x) (hg : gs[k]? = some g) : x.ls = zaA κ g ∧ x.v = (numF w g).1 := by
  unfold outR at hx; rw [List.getElem?_map, hg] at hx; injection hx with hx; subst hx; exact ⟨rfl, rfl⟩
theorem zcN {κ : RowD → List Lbl} {w : Way} {gs : List (List RowD)} : (outR κ w gs).length = gs.length := List.length_map _
end
/-! ### numbers of a list -/
theorem min_le {l : List Int} : ∀ x ∈ l, minL l ≤ x := by
  cases l with
  | nil => intro x h; cases h
  | cons y r =>
    have key : ∀ (r : List Int) (a : Int), r.foldl min a ≤ a ∧ ∀ x ∈ r, r.foldl min a ≤ x := by
      intro r; induction r with
      | nil => intro a; exact ⟨Int.le_refl _, fun _ h => by cases h⟩
      | cons z r ih =>
        intro a
        have := ih (min a z)
        refine ⟨by rw [List.foldl_cons]; omega, fun x hx => ?_⟩
        rw [List.foldl_cons]
        rcases List.mem_cons.1 hx with e | e
        · rw [e]; omega
        · exact this.2 x e
    intro x hx
    rcases List.mem_cons.1 hx with e | e
    · rw [e]; exact (key r y).1
    · exact (key r y).2 x e
theorem max_ge {l : List Int} : ∀ x ∈ l, x ≤ maxL l := by
  cases l with
  | nil => intro x h; cases h
  | cons y r =>
    have key : ∀ (r : List Int) (a : Int), a ≤ r.foldl max a ∧ ∀ x ∈ r, x ≤ r.foldl max a := by
      intro r; induction r with
      | nil => intro a; exact ⟨Int.le_refl _, fun _ h => by cases h⟩
      | cons z r ih =>
        intro a
        have := ih (max a z)
        refine ⟨by rw [List.foldl_cons]; omega, fun x hx => ?_⟩
        rw [List.foldl_cons]
        rcases List.mem_cons.1 hx with e | e
        · rw [e]; omega
        · exact this.2 x e
    intro x hx
    rcases List.mem_cons.1 hx with e | e
    · rw [e]; exact (key r y).1
    · exact (key r y).2 x e
theorem min_mem {l : List Int} (h : l ≠ []) : minL l ∈ l := by
  cases l with
  | nil => exact absurd rfl h
  | cons y r =>
    have key : ∀ (r : List Int) (a : Int), r.foldl min a = a ∨ r.foldl min a ∈ r := by
      intro r; induction r with
      | nil => intro a; exact .inl rfl
      | cons z r ih =>
        intro a; rw [List.foldl_cons]
        rcases ih (min a z) with e | e
        · rw [e]; by_cases hz : a ≤ z
          · left; omega
          · right; rw [show min a z = z by omega]; exact List.mem_cons_self
        · exact .inr (List.mem_cons_of_mem _ e)
    rcases key r y with e | e
    · show r.foldl min y ∈ _; rw [e]; exact List.mem_cons_self
    · exact List.mem_cons_of_mem _ e
theorem max_mem {l : List Int} (h : l ≠ []) : maxL l ∈ l := by
  cases l with
  | nil => exact absurd rfl h
  | cons y r =>
    have key : ∀ (r : List Int) (a : Int), r.foldl max a = a ∨ r.foldl max a ∈ r := by
      intro r; induction r with
      | nil => intro a; exact .inl rfl
      | cons z r ih =>
        intro a; rw [List.foldl_cons]
        rcases ih (max a z) with e | e
        · rw [e]; by_cases hz : z ≤ a
          · left; omega
          · right; rw [show max a z = z by omega]; exact List.mem_cons_self
        · exact .inr (List.mem_cons_of_mem _ e)
    rcases key r y with e | e
    · show r.foldl max y ∈ _; rw [e]; exact List.mem_cons_self
    · exact List.mem_cons_of_mem _ e
theorem tot_le {l : List Int} {b : Int} (h : ∀ x ∈ l, x ≤ b) : tot l ≤ b * (l.length : Int) := by
  induction l with
  | nil => simp [tot]
  | cons x l ih =>
    have h1 := h x List.mem_cons_self
    have h2 := ih (fun y hy => h y (List.mem_cons_of_mem _ hy))
    rw [zaZ, List.length_cons, show ((l.length + 1 : Nat) : Int) = (l.length : Int) + 1 from rfl, Int.mul_add]; omega
theorem tot_ge {l : List Int} {b : Int} (h : ∀ x ∈ l, b ≤ x) : b * (l.length : Int) ≤ tot l := by
  induction l with
  | nil => simp [tot]
  | cons x l ih =>
    have h1 := h x List.mem_cons_self
    have h2 := ih (fun y hy => h y (List.mem_cons_of_mem _ hy))
    rw [zaZ, List.length_cons, show ((l.length + 1 : Nat) : Int) = (l.length : Int) + 1 from rfl, Int.mul_add]; omega
/-- a mean, rounded to nought, lies nearly between -/
theorem tdiv_near {t n lo hi : Int} (hn : 0 < n) (h1 : lo * n ≤ t) (h2 : t ≤ hi * n) : lo ≤ Int.tdiv t n + 1 ∧ Int.tdiv t n - 1 ≤ hi := by
  have hm := Int.mul_tdiv_add_tmod t n
  have h3 := Int.tmod_lt_of_pos t hn
  have h4 := Int.lt_tmod_of_pos t hn
  rw [Int.mul_comm] at hm
  constructor
  · have : lo * n < (Int.tdiv t n + 1) * n + n := by rw [Int.add_mul, Int.one_mul]; omega
    have : lo * n < (Int.tdiv t n + 2) * n := by rw [show Int.tdiv t n + 2 = (Int.tdiv t n + 1) + 1 by omega, Int.add_mul, Int.one_mul]; exact this
    have := Int.lt_of_mul_lt_mul_right this (by omega)
    omega
  · have : (Int.tdiv t n - 1) * n < hi * n + 0 + n - n + n := by rw [Int.sub_mul, Int.one_mul]; omega
    have : (Int.tdiv t n - 1) * n < (hi + 1) * n := by rw [Int.add_mul, Int.one_mul]; omega
    have := Int.lt_of_mul_lt_mul_right this (by omega)
    omega
theorem tdiv_in {t n lo hi : Int} (hn : 0 < n) (h1 : lo * n ≤ t) (h2 : t ≤ hi * n) (hl : lo ≤ 0) (hh : 0 ≤ hi) : lo ≤ Int.tdiv t n ∧ Int.tdiv t n ≤ hi := by
  have hm := Int.mul_tdiv_add_tmod t n
  rw [Int.mul_comm] at hm
  rcases Int.lt_or_le t 0 with h | h
  · have h3 : Int.tmod t n ≤ 0 := by have := Int.neg_tmod t n ▸ Int.tmod_nonneg n (show 0 ≤ -t by omega); omega
    have h4 := Int.lt_tmod_of_pos t hn
    have h5 : Int.tdiv t n * n < 1 * n := by omega
    have h6 := Int.lt_of_mul_lt_mul_right h5 (by omega)
    have h7 : (lo - 1) * n < Int.tdiv t n * n := by rw [Int.sub_mul, Int.one_mul]; omega
    have h8 := Int.lt_of_mul_lt_mul_right h7 (by omega)
    omega
  · have h3 := Int.tmod_nonneg n h
    have h4 := Int.tmod_lt_of_pos t hn
    have h5 : (-1) * n < Int.tdiv t n * n := by omega
    have h6 := Int.lt_of_mul_lt_mul_right h5 (by omega)
    have h7 : Int.tdiv t n * n < (hi + 1) * n := by rw [Int.add_mul, Int.one_mul]; omega
    have h8 := Int.lt_of_mul_lt_mul_right h7 (by omega)
    omega
/-! ### sums of groups -/
theorem tot_app (a b : List Int) : tot (a ++ b) = tot a + tot b := by
  induction a with
  | nil => simp [tot]
  | cons x a ih => rw [List.cons_append, zaZ, zaZ, ih]; omega
def totG (gs : List (List RowD)) : Int := tot (gs.map (fun g => tot (g.map (·.v))))
theorem totG_ins {κ : RowD → List Lbl} {r : RowD} : ∀ gs : List (List RowD), totG (insG κ gs r) = totG gs + r.v
  | [] => by simp [insG, totG, tot]
  | g :: gs => by
    have ih := totG_ins (κ := κ) (r := r) gs
    unfold totG at ih ⊢
    unfold insG; split
    · simp only [List.map_cons, zaZ, ih]; omega
    · split
      · simp only [List.map_cons, zaZ, List.map_append, tot_app]; simp [tot]; omega
      · simp only [List.map_cons, zaZ]; simp [tot]; omega
theorem totG_split {κ : RowD → List Lbl} (l : List RowD) : totG (zaC κ l) = tot (l.map (·.v)) := by
  unfold zaC
  have : ∀ s : List (List RowD), totG (l.foldl (insG κ) s) = totG s + tot (l.map (·.v)) := by
    induction l with
    | nil => intro s; simp [tot]
    | cons x l ih => intro s; rw [List.foldl_cons, ih, totG_ins, List.map_cons, zaZ]; omega
  have h := this []
  rw [h]; simp [totG, tot]
def cntG (gs : List (List RowD)) : Int := tot (gs.map (fun g => ((g.length : Nat) : Int)))
theorem cntG_ins {κ : RowD → List Lbl} {r : RowD} : ∀ gs : List (List RowD), cntG (insG κ gs r) = cntG gs + 1
  | [] => by simp [insG, cntG, tot]
  | g :: gs => by
    have ih := cntG_ins (κ := κ) (r := r) gs
    unfold cntG at ih ⊢
    unfold insG; split
    · simp only [List.map_cons, zaZ, ih]; omega
    · split
      · simp only [List.map_cons, zaZ, List.length_append, List.length_cons, List.length_nil]; omega
      · simp only [List.map_cons, zaZ, List.length_cons, List.length_nil]; omega
theorem cntG_split {κ : RowD → List Lbl} (l : List RowD) : cntG (zaC κ l) = (l.length : Int) := by
  unfold zaC
  have : ∀ s : List (List RowD), cntG (l.foldl (insG κ) s) = cntG s + (l.length : Int) := by
    induction l with
    | nil => intro s; simp
    | cons x l ih => intro s; rw [List.foldl_cons, ih, cntG_ins]; simp only [List.length_cons]; omega
  have h := this []
  rw [h]; simp [cntG, tot]
theorem totG_snoc {gs : List (List RowD)} {k : Nat} {g : List RowD} (h : gs[k]? = some g) : totG (gs.take (k + 1)) = totG (gs.take k) + tot (g.map (·.v)) := by
  unfold totG; rw [zab h, List.map_append, tot_app]; simp [tot]
theorem cntG_snoc {gs : List (List RowD)} {k : Nat} {g : List RowD} (h : gs[k]? = some g) : cntG (gs.take (k + 1)) = cntG (gs.take k) + ((g.length : Nat) : Int) := by
  unfold cntG; rw [zab h, List.map_append, tot_app]; simp [tot]
/-- what GroupCounts needs of a group -/
structure CtF (g : List RowD) : Prop where
  n : 1 ≤ g.length
  lo : minL (g.map (·.v)) ≤ Int.tdiv (tot (g.map (·.v))) (g.length : Int) + 1
  hi : Int.tdiv (tot (g.map (·.v))) (g.length : Int) - 1 ≤ maxL (g.map (·.v))
  lh : minL (g.map (·.v)) ≤ maxL (g.map (·.v))
  sum : sumE (g.map (·.v)) = (tot (g.map (·.v)), 0)
  mean : zct (g.map (·.v)) = (Int.tdiv (tot (g.map (·.v))) (g.length : Int), 0)
  tb : -60000000000 ≤ tot (g.map (·.v)) ∧ tot (g.map (·.v)) ≤ 60000000000
  mb : -1000000000 ≤ Int.tdiv (tot (g.map (·.v))) (g.length : Int) ∧ Int.tdiv (tot (g.map (·.v))) (g.length : Int) ≤ 1000000000
  lb : -1000000000 ≤ minL (g.map (·.v)) ∧ minL (g.map (·.v)) ≤ 1000000000
  hb : -1000000000 ≤ maxL (g.map (·.v)) ∧ maxL (g.map (·.v)) ≤ 1000000000
theorem ctF {g : List RowD} (hne : g ≠ []) (hl : g.length ≤ 60) (hb : ∀ r ∈ g, -1000000000 ≤ r.v ∧ r.v ≤ 1000000000) : CtF g := by
  have hn : 1 ≤ g.length := List.length_pos_iff.2 hne
  have hv : ∀ x ∈ g.map (·.v), -1000000000 ≤ x ∧ x ≤ 1000000000 := fun x hx => by obtain ⟨r, hr, rfl⟩ := List.mem_map.1 hx; exact hb r hr
  have hme : g.map (·.v) ≠ [] := by simpa using hne
  have hml : (g.map (·.v)).length = g.length := List.length_map _
  have t1 := tot_le (l := g.map (·.v)) (fun x hx => (hv x hx).2)
  have t2 := tot_ge (l := g.map (·.v)) (fun x hx => (hv x hx).1)
  have m1 := tot_le (l := g.map (·.v)) max_ge
  have m2 := tot_ge (l := g.map (·.v)) min_le
  rw [hml] at t1 t2 m1 m2
  have hn' : (0 : Int) < (g.length : Int) := by omega
  have near := tdiv_near hn' m2 m1
  have inn := tdiv_in hn' t2 t1 (by omega) (by omega)
  have mm := hv _ (min_mem hme)
  have mx := hv _ (max_mem hme)
  have hall : allR (g.map (·.v)) = true := by
    unfold allR; rw [Bool.and_eq_true, List.all_eq_true, decide_eq_true_eq]
    refine ⟨fun x hx => ?_, by rw [hml]; omega⟩
    have := hv x hx; exact rV (by omega) (by omega)
  refine ⟨hn, near.1, near.2, min_le _ (max_mem hme), ?_, ?_, by omega, inn, mm, mx⟩
  · unfold sumE; rw [if_pos hall, within_ok (rV (by omega) (by omega))]
  · unfold zct; rw [if_neg (by rw [hml]; omega), if_pos hall, hml]
structure CountsF (mode : Int) (names : List ByteArray) (a : List RowD) : Prop where
  cf : ∀ g ∈ zA mode names a, CtF g
  en : gdE .many mode names a = 0
  el : gdE .least mode names a = 0
  eh : gdE .most mode names a = 0
  em : gdE (.sums true) mode names a = 0
  es : gdE (.sums false) mode names a = 0
  ln : gdL .many mode names a = outR (kapB mode names) .many (zA mode names a)
  ll : gdL .least mode names a = outR (kapB mode names) .least (zA mode names a)
  lh : gdL .most mode names a = outR (kapB mode names) .most (zA mode names a)
  lm : gdL (.sums true) mode names a = outR (kapB mode names) (.sums true) (zA mode names a)
  ls : gdL (.sums false) mode names a = outR (kapB mode names) (.sums false) (zA mode names a)
  len : (zA mode names a).length ≤ 60
theorem countsF {mode : Int} {names : List ByteArray} {a : List RowD} (h : zV a = true) (hl : a.length ≤ 60) (hb : ∀ r ∈ a, -1000000000 ≤ r.v ∧ r.v ≤ 1000000000) : CountsF mode names a := by
  have cf : ∀ g ∈ zA mode names a, CtF g := fun g hg => by
    obtain ⟨h1, h2, h3⟩ := grp h hg
    exact ctF h1 (by omega) (fun r hr => hb r (h2 r hr))
  have hg60 : ∀ g ∈ zA mode names a, g.length ≤ 60 := fun g hg => Nat.le_trans (grp h hg).2.2 hl
  have a1 := zcV (w := .many) (mode := mode) (names := names) h (fun g hg => ⟨rfl, rV (by show _ ≤ (((g.map (·.v)).length : Nat) : Int); omega) (by show (((g.map (·.v)).length : Nat) : Int) ≤ _; rw [List.length_map]; have := hg60 g hg; omega)⟩)
  have a2 := zcV (w := .least) (mode := mode) (names := names) h (fun g hg => ⟨rfl, by have := (cf g hg).lb; exact rV (by show _ ≤ minL _; omega) (by show minL _ ≤ _; omega)⟩)
  have a3 := zcV (w := .most) (mode := mode) (names := names) h (fun g hg => ⟨rfl, by have := (cf g hg).hb; exact rV (by show _ ≤ maxL _; omega) (by show maxL _ ≤ _; omega)⟩)
  have a4 := zcV (w := .sums true) (mode := mode) (names := names) h (fun g hg => by
    have e : numF (.sums true) g = _ := (cf g hg).mean
    rw [e]; have := (cf g hg).mb; exact ⟨rfl, rV (by show _ ≤ Int.tdiv _ _; omega) (by show Int.tdiv _ _ ≤ _; omega)⟩)
  have a5 := zcV (w := .sums false) (mode := mode) (names := names) h (fun g hg => by
    have e : numF (.sums false) g = _ := (cf g hg).sum
    rw [e]; have := (cf g hg).tb; exact ⟨rfl, rV (by show _ ≤ tot _; omega) (by show tot _ ≤ _; omega)⟩)
  have hlen := splitG_len (κ := kapB mode names) a
  exact ⟨cf, a1.1, a2.1, a3.1, a4.1, a5.1, a1.2, a2.2, a3.2, a4.2, a5.2, by rw [zbo h]; omega⟩
theorem cntG_bd {gs : List (List RowD)} (h : ∀ g ∈ gs, g.length ≤ 60) (k : Nat) : 0 ≤ cntG (gs.take k) ∧ cntG (gs.take k) ≤ 60 * (gs.length : Int) := by
  have h1 := tot_le (l := (gs.take k).map (fun g => ((g.length : Nat) : Int))) (b := 60) (fun x hx => by obtain ⟨g, hg, rfl⟩ := List.mem_map.1 hx; have := h g (List.mem_of_mem_take hg); omega)
  have h2 := tot_ge (l := (gs.take k).map (fun g => ((g.length : Nat) : Int))) (b := 0) (fun x hx => by obtain ⟨g, hg, rfl⟩ := List.mem_map.1 hx; omega)
  rw [List.length_map, List.length_take] at h1 h2
  unfold cntG; omega
theorem totG_bd {gs : List (List RowD)} (h : ∀ g ∈ gs, CtF g) (k : Nat) : -60000000000 * (gs.length : Int) ≤ totG (gs.take k) ∧ totG (gs.take k) ≤ 60000000000 * (gs.length : Int) := by
  have h1 := tot_le (l := (gs.take k).map (fun g => tot (g.map (·.v)))) (b := 60000000000) (fun x hx => by obtain ⟨g, hg, rfl⟩ := List.mem_map.1 hx; exact (h g (List.mem_of_mem_take hg)).tb.2)
  have h2 := tot_ge (l := (gs.take k).map (fun g => tot (g.map (·.v)))) (b := -60000000000) (fun x hx => by obtain ⟨g, hg, rfl⟩ := List.mem_map.1 hx; exact (h g (List.mem_of_mem_take hg)).tb.1)
  rw [List.length_map, List.length_take] at h1 h2
  unfold totG; omega
section
variable {mode : Int} {names : List ByteArray} {a : List RowD}
end
/-! ### the first call -/
abbrev lA : Lbl := ⟨⟨#[97]⟩, ⟨#[49]⟩⟩
abbrev lHx : Lbl := ⟨⟨#[104]⟩, ⟨#[120]⟩⟩
abbrev lHy : Lbl := ⟨⟨#[104]⟩, ⟨#[121]⟩⟩
abbrev nH : ByteArray := ⟨#[104]⟩
def al11 : List RowD := [⟨[lA, lHx], 5⟩, ⟨[lA, lHy], 7⟩]
theorem okl_A : okL lA = true := by unfold okL; rw [name_a]; decide
theorem name_h : zbv nH = true := by unfold zbv; rw [runes_one (r := 104) (by decide) (by decide) (by decide)]; decide
theorem okl_x : okL lHx = true := by unfold okL; rw [name_h]; decide
theorem okl_y : okL lHy = true := by unfold okL; rw [name_h]; decide
theorem al11_right {v : Lbl} (hv : okL v = true) (hn : cmpS lA.n v.n < 0) : zaB [lA, v] = true :=
  right_of (by simp) (by unfold NSrt; simpa using hn) (fun x hx => by
    rcases List.mem_cons.1 hx with e | e
    · rw [e]; exact okl_A
    · rw [List.mem_singleton.1 e]; exact hv)
theorem zcG : zV al11 = true := by
  refine vr_of (by decide) (fun r hr => ?_) (by unfold al11 zar; simp; decide)
  unfold al11 at hr
  rcases List.mem_cons.1 hr with e | e
  · rw [e]; exact okRow_of (al11_right okl_x (by decide)) (by decide)
  · rw [List.mem_singleton.1 e]; exact okRow_of (al11_right okl_y (by decide)) (by decide)
theorem al11_s : gdE (.sums false) 2 [nH] al11 = 0 ∧ gdL (.sums false) 2 [nH] al11 = [⟨[lA], 12⟩] := by
  have hs : zA 2 [nH] al11 = [al11] := by rw [zbo zcG]; decide
  have hv : numF (.sums false) al11 = (12, 0) := by decide
  have h := zcV (w := .sums false) (mode := 2) (names := [nH]) zcG (fun g hg => by rw [hs, List.mem_singleton] at hg; rw [hg, hv]; exact ⟨rfl, by decide⟩)
  refine ⟨h.1, h.2.trans ?_⟩
  rw [hs]; unfold outR; rw [List.map_cons, List.map_nil, hv]; decide
theorem al11_t : gtE 1 0 [] al11 = 0 ∧ gtL 1 0 [] al11 = [⟨[lA, lHy], 7⟩] := by
  have hs : zA 0 [] al11 = [al11] := by rw [zbo zcG]; decide
  have ht : topR 1 [al11] = [⟨[lA, lHy], 7⟩] := by decide
  have h := rt_self (one_vr (r := ⟨[lA, lHy], 7⟩) (okRow_of (al11_right okl_y (by decide)) (by decide)))
  unfold gtE gtL; rw [if_pos zcG, if_pos zcG, hs, ht]; exact ⟨h.2, h.1⟩
theorem al11_p : (zA 1 [nH] al11).length = 2 := by rw [zbo zcG]; decide
end Lp
