/- Walks, printed by a program of mine. -/
import Derived.Test.YtfjinapgehafiaaGreatV21
set_option linter.unusedSimpArgs false
set_option linter.unusedVariables false
set_option maxHeartbeats 4000000
set_option maxRecDepth 100000
namespace Lp
open Go Go.RowKit Go.Proofs

namespace HdYtfjinapgehafiaaGreatV22
theorem zcp : ∀ w, ((#[⟨"Labels", 50, 0, false, "", "", 0⟩, ⟨"V", 3, 1, false, "", "", 24⟩] : Array Field).mapM fun f => do pure (f.offset, ← Go.sizeOf f.type) : Sem (Array (Nat × Nat))).run Tryz.prog w = .ok ([(0, 1), (1, 1)] : List (Nat × Nat)).toArray w := fun _ => by kernel_rfl
theorem z2 (b o : Nat) : ∀ w, (Instr.fieldAt 53 (.pointer (some ⟨b, o, none⟩)) 0).run Tryz.prog w = .ok (.pointer (some ⟨b, o + 0, none⟩)) w := fun _ => by kernel_rfl
theorem zab (b o : Nat) : ∀ w, (Instr.fieldAt 53 (.pointer (some ⟨b, o, none⟩)) 1).run Tryz.prog w = .ok (.pointer (some ⟨b, o + 1, none⟩)) w := fun _ => by kernel_rfl
theorem zaE : ∃ i, Tryz.prog.info? 53 = some i ∧ i.zero = some (.agg #[(.slice none 0 0), (.int .i64 0)]) ∧ i.size = 2 ∧ i.bytes = 32 := za5 (by kernel_rfl)
theorem za2 : Tryz.prog.underlying 22 = some (.slice 53) := by kernel_rfl
end HdYtfjinapgehafiaaGreatV22
open HdYtfjinapgehafiaaGreatV22

theorem refTidyR_c (l : List RowD) (hl : l.length ≤ 1000000) (hli : ∀ r ∈ l, zar r.ls = true) :
    CD Tryz.prog 19 [] [.sh 2 (l.map RowD.d)] (fun r H' => ∃ v0_, r = .tup [.ov v0_, dI (rtE l)] ∧ H' = [.sl v0_ 2 53 ((rtL l).map RowD.d)]) := by
  refine zn Tryz.func19 rfl (N := 34) rfl rfl (fun C => ?_)
  refine jk [0] rfl ?_
  refine JD.bd 0 rfl (fun bd0 => ?_)
  have nl0 := zQ bd0
  refine jT rfl (oR 2 rfl (oZ rfl (jS rfl (jT rfl (oR 1 rfl (oP rfl (zaa (n := l.length) rfl Tryz.runUnderlying22 (by simp only [lm, lc, ln])) (oP rfl (zag rfl rfl rfl) (oZ rfl ?_))))))))
  refine jD rfl (fun hc1 => ?_) (fun hc1 => ?_)
  · skip
    refine jT rfl (oR 2 rfl (oZ rfl (zl rfl (zb (PD.subH (HSub.nil 2 53) (PD.norm [.sl (.slice none 0 0) 2 53 ((rtL l).map RowD.d)] (by have hw : [] = rtL l := (by first | exact (zb6 hc1).1 | exact (zb6 hc1).2); rw [show ([] : List D) = List.map RowD.d (rtL l) from congrArg (List.map RowD.d) hw]) ?_))))))
    exact zj Tryz.results19 (.cons (zr (zh rfl) (Cv.ov rfl)) (.cons (zr (zh rfl) (Cv.eq (congrArg (fun n => D.v (.int .i64 n)) (by first | exact (zb6 hc1).1 | exact (zb6 hc1).2)))) .nil)) rfl (HSub.fst 1 rfl) ⟨(.slice none 0 0), rfl, rfl⟩
  · skip
    refine zk rfl (zc (jS rfl (jT rfl (oR 1 rfl (oZ rfl (jB rfl (jl1 (fun (a_ : Nat) => [(0, .sh 2 (l.map RowD.d)), (4, dN a_)]) (fun a_ => []) (fun a_ => (a_ ≤ l.length) ∧ (zbe (l.take a_) = true)) (fun a_ => l.length - a_) 0 rfl (sa rfl) HSub.rfl' ⟨Nat.zero_le _, rfl⟩ ?_)))))))
    rintro i ⟨hil, hw⟩
    refine ja rfl (jn rfl (jS rfl (jT rfl (oR 2 rfl (oP rfl (zaa (n := l.length) rfl Tryz.runUnderlying22 (by simp only [lm, lc, ln])) (oP rfl (zP rfl rfl rfl) (oZ rfl ?_)))))))
    refine jD rfl (fun hc2 => ?_) (fun hc2 => ?_)
    · skip
      obtain ⟨x1, hx1⟩ := zx l i (by omega)
      refine zk rfl (zc (jS rfl (jB rfl (jS rfl ?_))))
      rcases Bool.eq_false_or_eq_true (zaI x1.ls) with hg3 | hg3
      · skip
        refine za rfl (oR 2 rfl (oP rfl (zu (k := i) rfl rfl Tryz.runUnderlying22 Tryz.sizeOf53 (by first | rfl | omega) (ze hx1)) (oP rfl (zF rfl z2 rfl) (oP rfl (zG rfl Tryz.isAgg50 rfl) (oW rfl rfl acs Tryz.call49 (refRight_c x1.ls (light_nz (hli x1 (zay hx1)))) (os 19 rfl (congrArg (fun b => D.v (.bool b)) hg3) (oR 4 rfl (oG rfl (zu (k := i) rfl rfl Tryz.runUnderlying22 Tryz.sizeOf53 (by first | rfl | omega) (ze hx1)) (oG rfl (zF rfl zab rfl) (oG rfl (zG rfl Tryz.isAgg3 rfl) (oV rfl rfl acs Tryz.call37 (refValue_c x1.v) (oG rfl (zba rfl) (oR 1 rfl (oZ rfl ?_))))))))))))))
        refine jC rfl (fun hc4 => ?_) (fun hc4 => ?_)
        · simp only [bA, bB, bC, bD, bE, bF, bG, bH, bI, bJ] at hc4
          refine jT rfl (oR 2 rfl (oZ rfl (zl rfl (zf (zb (zN (zf (zb (PD.subH (HSub.nil 2 53) (PD.norm [.sl (.slice none 0 0) 2 53 ((rtL l).map RowD.d)] (by have hw : [] = rtL l := (by first | exact (zcr hx1 (by simp [*])).1 | exact (zcr hx1 (by simp [*])).2); rw [show ([] : List D) = List.map RowD.d (rtL l) from congrArg (List.map RowD.d) hw]) ?_))))))))))
          exact zj Tryz.results19 (.cons (zr (zh rfl) (Cv.ov rfl)) (.cons (zr (zh rfl) (Cv.eq (congrArg (fun n => D.v (.int .i64 n)) (by first | exact (zcr hx1 (by simp [*])).1 | exact (zcr hx1 (by simp [*])).2)))) .nil)) rfl (HSub.fst 1 rfl) ⟨(.slice none 0 0), rfl, rfl⟩
        · simp only [bA, bB, bC, bD, bE, bF, bG, bH, bI, bJ] at hc4
          refine zk rfl (zy (zc (za rfl (oR 1 rfl (oP rfl (zS (c := ((i + 1 : Nat) : Int)) rfl rfl (zB (by omega) (by omega))) (oR 1 rfl (zi rfl ?_)))))))
          exact pl1 (i + 1) (sa rfl) HSub.rfl' ⟨by show i + 1 ≤ l.length; omega, rowsB_snoc hx1 hw hg3 hc4⟩ (by omega)
      · skip
        refine za rfl (oR 2 rfl (oP rfl (zu (k := i) rfl rfl Tryz.runUnderlying22 Tryz.sizeOf53 (by first | rfl | omega) (ze hx1)) (oP rfl (zF rfl z2 rfl) (oP rfl (zG rfl Tryz.isAgg50 rfl) (oW rfl rfl acs Tryz.call49 (refRight_c x1.ls (light_nz (hli x1 (zay hx1)))) (os 19 rfl (congrArg (fun b => D.v (.bool b)) hg3) (oR 10 rfl (oZ rfl (jCt rfl (jT rfl (oR 2 rfl (oZ rfl (zl rfl (zf (zb (zN (zf (zb (PD.subH (HSub.nil 2 53) (PD.norm [.sl (.slice none 0 0) 2 53 ((rtL l).map RowD.d)] (by have hw : [] = rtL l := (by first | exact (zcr hx1 (by simp [*])).1 | exact (zcr hx1 (by simp [*])).2); rw [show ([] : List D) = List.map RowD.d (rtL l) from congrArg (List.map RowD.d) hw]) ?_))))))))))))))))))))
        exact zj Tryz.results19 (.cons (zr (zh rfl) (Cv.ov rfl)) (.cons (zr (zh rfl) (Cv.eq (congrArg (fun n => D.v (.int .i64 n)) (by first | exact (zcr hx1 (by simp [*])).1 | exact (zcr hx1 (by simp [*])).2)))) .nil)) rfl (HSub.fst 1 rfl) ⟨(.slice none 0 0), rfl, rfl⟩
    · skip
      refine zO rfl (zq (zp (zm (zc (jT rfl (oR 1 rfl (oE rfl (zH [] _ [] rfl rfl (.cons ArgC.id .nil) zt Tryz.call50 (refOrder_c l (by omega)) (.inl rfl)) ?_)))))))
      rintro _ _ ⟨_, ⟨v5, rfl, rfl⟩, rfl⟩
      refine on rfl (oR 4 rfl (oZ rfl (jk [2, 3] rfl (zl rfl (PD.norm [.sl v5 2 53 ((rtL l).map RowD.d)] (by have hw : ordL l = rtL l := (by first | exact (zdb (by omega) (by rw [← List.take_of_length_le (by omega : l.length ≤ i)]; exact hw)).1 | exact (zdb (by omega) (by rw [← List.take_of_length_le (by omega : l.length ≤ i)]; exact hw)).2); rw [hw]) ?_)))))
      exact zj Tryz.results19 (.cons (zh rfl) (.cons (zr (zh rfl) (Cv.eq (congrArg (fun n => D.v (.int .i64 n)) (by first | exact (zdb (by omega) (by rw [← List.take_of_length_le (by omega : l.length ≤ i)]; exact hw)).1 | exact (zdb (by omega) (by rw [← List.take_of_length_le (by omega : l.length ≤ i)]; exact hw)).2)))) .nil)) rfl (HSub.fst 1 rfl) ⟨v5, rfl, rfl⟩

theorem tidy10_c (l : List RowD) (hl : l.length ≤ 2000) (hli : ∀ r ∈ l, zar r.ls = true) :
    CD Tryz.prog 12 [] [.sh 2 (l.map RowD.d)] (isR ((D.ls 2 RowD.d) (z8 l))) := by
  refine zn Tryz.func12 rfl (N := 54) rfl rfl (fun C => ?_)
  refine jk [0] rfl ?_
  refine JD.bd 0 rfl (fun bd0 => ?_)
  have nl0 := zQ bd0
  refine jT rfl (oR 1 rfl (oZ rfl (jT rfl (oR 1 rfl (oZ rfl (jS rfl (jT rfl (oR 1 rfl (oZ rfl (jB rfl (jl2 (fun (a_ : Nat) (b_ : List RowD) => [(0, .sh 2 (l.map RowD.d)), (2, dZ), (4, dN a_), (3, .sh 2 (b_.map RowD.d))]) (fun a_ b_ => []) (fun a_ b_ => (a_ ≤ l.length) ∧ (b_ = z8 (l.take a_))) (fun a_ b_ => l.length - a_) 0 [] rfl ⟨sk rfl, sk rfl, sk rfl, sc rfl Cv.nil, trivial⟩ HSub.none ⟨Nat.zero_le _, rfl⟩ ?_)))))))))))
  rintro i out ⟨hil, hso⟩
  refine ja rfl (jn rfl ?_)
  have htr := trs_take hli i
  rw [← hso] at htr
  have hol : out.length ≤ 2000 := by have := htr.len; rw [List.length_take] at this; omega
  refine jS rfl (jT rfl (oR 2 rfl (oP rfl (zaa (n := l.length) rfl Tryz.runUnderlying22 (by simp only [lm, lc, ln])) (oP rfl (zP rfl rfl rfl) (oZ rfl ?_)))))
  refine jD rfl (fun hc1 => ?_) (fun hc1 => ?_)
  · skip
    obtain ⟨x1, hx1⟩ := zx l i (by omega)
    refine zk rfl (zc (jS rfl (jB rfl (jT rfl (oR 2 rfl (oP rfl (zu (k := i) rfl rfl Tryz.runUnderlying22 Tryz.sizeOf53 (by first | rfl | omega) (ze hx1)) (oP rfl (zF rfl z2 rfl) (oP rfl (zG rfl Tryz.isAgg50 rfl) (oE rfl (zH [] _ [] rfl rfl (.cons ArgC.id .nil) zt Tryz.call36 (refTidy_c x1.ls (light_nz (hli x1 (zay hx1)))) (.inl rfl)) ?_)))))))))
    rintro _ _ ⟨_, ⟨v2, rfl, rfl⟩, rfl⟩
    refine on rfl (oR 5 rfl (oZ rfl (jS rfl (jS rfl ?_))))
    rcases Bool.eq_false_or_eq_true (zY x1.ls) with hg3 | hg3
    · skip
      refine JD.sub [(0, .sh 2 (l.map RowD.d)), (2, dZ), (3, .sh 2 (out.map RowD.d)), (4, dN i), (5, .ov v2), (6, dB true), (9, dN i), (10, .sh 2 (l.map RowD.d)), (11, dN l.length), (12, dB (decide (((i : Nat) : Int) < ((l.length : Nat) : Int)))), (15, .tup [.ov v2, dB (zY x1.ls)]), (16, .sh 2 (l.map RowD.d)), (17, dN i), (18, .el (RowD.d x1) 0), (19, .el (RowD.d x1) 0), (20, .sh 2 (x1.ls.map Lbl.d)), (21, .tup [.ov v2, dB (zY x1.ls)]), (22, .ov v2), (23, dB true)] ⟨sk rfl, sk rfl, sk rfl, sk rfl, sk rfl, se rfl (congrArg (fun b => D.v (.bool b)) (by simp [hg3])), sk rfl, sk rfl, sk rfl, sk rfl, sk rfl, sk rfl, sk rfl, sk rfl, sk rfl, sk rfl, sk rfl, sk rfl, se rfl (congrArg (fun b => D.v (.bool b)) (by simp [hg3])), trivial⟩ (za rfl (oR 5 rfl (oG rfl (zu (k := i) rfl rfl Tryz.runUnderlying22 Tryz.sizeOf53 (by first | rfl | omega) (ze hx1)) (oG rfl (zF rfl zab rfl) (oG rfl (zG rfl Tryz.isAgg3 rfl) (oV rfl rfl acs Tryz.call37 (refValue_c x1.v) (oG rfl (zba rfl) (oR 1 rfl (oZ rfl ?_)))))))))
      refine jC rfl (fun hc4 => ?_) (fun hc4 => ?_)
      · simp only [bA, bB, bC, bD, bE, bF, bG, bH, bI, bJ] at hc4
        refine zO rfl (zq (zm (zc (za rfl (oR 1 rfl (oP rfl (zS (c := ((i + 1 : Nat) : Int)) rfl rfl (zB (by omega) (by omega))) (oR 1 rfl (zi rfl ?_))))))))
        exact pl2 (i + 1) out (sa rfl) HSub.none ⟨by show i + 1 ≤ l.length; omega, by show _ = z8 (l.take (i + 1)); rw [tidyRs_snoc hx1, ← hso]; exact (trStep_no (.inr hc4)).symm⟩ (by omega)
      · simp only [bA, bB, bC, bD, bE, bF, bG, bH, bI, bJ] at hc4
        refine zk rfl (zc (jS rfl ?_))
        refine JD.mv (Mv.freeze (K' := [(0, .sh 2 (l.map RowD.d)), (2, dZ), (3, .sh 2 (out.map RowD.d)), (4, dN i), (5, .sh 2 ((zE x1.ls).map Lbl.d)), (6, dB true), (9, dN i), (10, .sh 2 (l.map RowD.d)), (11, dN l.length), (12, dB (decide (((i : Nat) : Int) < ((l.length : Nat) : Int)))), (15, .tup [.sh 2 ((zE x1.ls).map Lbl.d), dB (zY x1.ls)]), (16, .sh 2 (l.map RowD.d)), (17, dN i), (18, .el (RowD.d x1) 0), (19, .el (RowD.d x1) 0), (20, .sh 2 (x1.ls.map Lbl.d)), (21, .tup [.sh 2 ((zE x1.ls).map Lbl.d), dB (zY x1.ls)]), (22, .sh 2 ((zE x1.ls).map Lbl.d)), (23, dB true), (24, dB true), (25, dB false), (26, dB false), (27, .sh 2 (l.map RowD.d)), (28, dN i), (29, .el (RowD.d x1) 0), (30, .el (RowD.d x1) 1), (31, dI x1.v), (32, dB (valB x1.v)), (33, dB (!(valB x1.v))), (34, dB (!(valB x1.v)))]) [.sl v2 2 62 ((zE x1.ls).map Lbl.d)] (H1 := []) (H1' := []) ⟨⟨_, rfl, ArgC.id⟩, ⟨_, rfl, ArgC.id⟩, ⟨_, rfl, ArgC.id⟩, ⟨_, rfl, ArgC.id⟩, ⟨_, rfl, ArgC.own (j := 0) rfl rfl⟩, ⟨_, rfl, ArgC.id⟩, ⟨_, rfl, ArgC.id⟩, ⟨_, rfl, ArgC.id⟩, ⟨_, rfl, ArgC.id⟩, ⟨_, rfl, ArgC.id⟩, ⟨_, rfl, ArgC.tup (.cons (ArgC.own (j := 0) rfl rfl) (.cons ArgC.id .nil))⟩, ⟨_, rfl, ArgC.id⟩, ⟨_, rfl, ArgC.id⟩, ⟨_, rfl, ArgC.id⟩, ⟨_, rfl, ArgC.id⟩, ⟨_, rfl, ArgC.id⟩, ⟨_, rfl, ArgC.tup (.cons (ArgC.own (j := 0) rfl rfl) (.cons ArgC.id .nil))⟩, ⟨_, rfl, ArgC.own (j := 0) rfl rfl⟩, ⟨_, rfl, ArgC.id⟩, ⟨_, rfl, ArgC.id⟩, ⟨_, rfl, ArgC.id⟩, ⟨_, rfl, ArgC.id⟩, ⟨_, rfl, ArgC.id⟩, ⟨_, rfl, ArgC.id⟩, ⟨_, rfl, ArgC.id⟩, ⟨_, rfl, ArgC.id⟩, ⟨_, rfl, ArgC.id⟩, ⟨_, rfl, ArgC.id⟩, ⟨_, rfl, ArgC.id⟩, ⟨_, rfl, ArgC.id⟩, trivial⟩ .nil) ?_
        refine jk [0, 2, 3, 4, 5, 6, 9, 10, 11, 12, 15, 16, 17, 18, 19, 20, 21, 22, 23, 24, 25, 26, 27, 28, 29, 30, 31, 32, 33, 34] rfl (jn rfl ?_)
        refine za7 16 [(36, .q (.sh 2 (out.map RowD.d))), (37, .o (fun γ => [.sl (γ 1) 2 53 (out.map RowD.d)])), (38, .q (.sh 2 ((zE x1.ls).map Lbl.d))), (39, .q (.sh 2 (l.map RowD.d))), (40, .q (dN i)), (41, .q (.el (RowD.d x1) 0)), (42, .q (.el (RowD.d x1) 1)), (43, .q (dI x1.v)), (44, .q (.agg [.sh 2 ((zE x1.ls).map Lbl.d), dI x1.v])), (45, .q (.sh 2 ([(RowD.mk (zE x1.ls) x1.v)].map RowD.d))), (46, .o (fun γ => [.sl (γ 10) 2 53 ((out ++ [(RowD.mk (zE x1.ls) x1.v)]).map RowD.d)])), (47, .e (.tup [.sh 2 ((rtL (out ++ [(RowD.mk (zE x1.ls) x1.v)])).map RowD.d), dI (rtE (out ++ [(RowD.mk (zE x1.ls) x1.v)]))]) (fun γ => [])), (35, .q (.tup [.sh 2 ((rtL (out ++ [(RowD.mk (zE x1.ls) x1.v)])).map RowD.d), dI (rtE (out ++ [(RowD.mk (zE x1.ls) x1.v)]))])), (48, .q (.sh 2 ((rtL (out ++ [(RowD.mk (zE x1.ls) x1.v)])).map RowD.d))), (49, .q (dI (rtE (out ++ [(RowD.mk (zE x1.ls) x1.v)])))), (7, .q (.sh 2 ((rtL (out ++ [(RowD.mk (zE x1.ls) x1.v)])).map RowD.d)))] [] (Hn := fun γ => []) mixed rfl rfl (by kernel_rfl) (by kernel_rfl) (by kernel_rfl) HSub.rfl' (fun _ => rfl) (fun γ => ⟨so_p rfl rfl rfl (zd rfl), so_o rfl rfl rfl rfl ((zbL (f := RowD.d) (l' := out) rfl rfl (SrcD.sh) za2 zaE rfl rfl (by unfold maxLen; (try simp only [la, lc, ln, lm, lt', ld, ls, lr]); omega) (by (try simp only [la, lc, ln, lm, lt', ld, ls, lr]); omega)).mono (by rintro _ _ ⟨v, rfl, rfl⟩; exact ⟨v, rfl, rfl⟩)) (fun _ => HSub.lst 1 rfl), so_p rfl rfl rfl (zd rfl), so_p rfl rfl rfl (zd rfl), so_p rfl rfl rfl (zd rfl), so_p rfl rfl rfl (zu (k := i) rfl rfl Tryz.runUnderlying22 Tryz.sizeOf53 (by first | rfl | omega) (ze hx1)), so_p rfl rfl rfl (zF rfl zab rfl), so_p rfl rfl rfl (zG rfl Tryz.isAgg3 rfl), so_p rfl rfl rfl (zaV [0, 1] [.tmp 38, .tmp 43] (zv := (.agg #[(.slice none 0 0), (.int .i64 0)])) rfl rfl (.cons CellD.sh (.cons (CellD.v rfl) .nil)) (Tryz.runUnderlying53) Tryz.zeroValue53 zcp ⟨rfl, rfl, trivial⟩ rfl), so_q rfl rfl rfl (zT [.tmp 44] rfl rfl (.cons CellD.agg .nil) rfl Tryz.runUnderlying22 Tryz.sizeOf53 Tryz.zeroValue53 rfl rfl rfl rfl), so_o rfl rfl rfl rfl ((z7 (f := RowD.d) (l := out) (l' := [(RowD.mk (zE x1.ls) x1.v)]) (i := 0) rfl rfl rfl (SrcD.sh) za2 zaE rfl rfl (by unfold maxLen; (try simp only [la, lc, ln, lm, lt', ld, ls, lr]); omega) (by (try simp only [la, lc, ln, lm, lt', ld, ls, lr]); omega)).mono (by rintro _ _ ⟨v, rfl, rfl⟩; exact ⟨v, rfl, rfl⟩)) (fun _ => HSub.lst 1 rfl), so_e rfl rfl rfl rfl (Ef.fz (Hr := []) (d := .tup [.sh 2 ((rtL (out ++ [(RowD.mk (zE x1.ls) x1.v)])).map RowD.d), dI (rtE (out ++ [(RowD.mk (zE x1.ls) x1.v)]))]) (Ef.mv (Mvk.freeze (K' := [(46, .sh 2 ((out ++ [(RowD.mk (zE x1.ls) x1.v)]).map RowD.d))]) [.sl (γ 10) 2 53 ((out ++ [(RowD.mk (zE x1.ls) x1.v)]).map RowD.d)] (H1 := []) (H1' := []) ⟨⟨_, rfl, ArgC.own (j := 0) rfl rfl⟩, trivial⟩ .nil) (zH [] [] [] rfl rfl (.cons ArgC.id .nil) zt Tryz.call19 (refTidyR_c (out ++ [(RowD.mk (zE x1.ls) x1.v)]) (by first | omega | (simp only [la, List.length_singleton]; omega)) (by intro r hr; rcases List.mem_append.1 hr with e | e; (exact htr.li r e); (rw [List.mem_singleton.1 e]; exact tidyL_light (hli x1 (zay hx1))))) (.inl rfl))) (by rintro _ _ ⟨_, ⟨v, rfl, rfl⟩, rfl⟩; exact ⟨[.sl v 2 53 ((rtL (out ++ [(RowD.mk (zE x1.ls) x1.v)])).map RowD.d)], rfl, ArgC.tup (.cons (ArgC.own (j := 0) rfl rfl) (.cons ArgC.id .nil))⟩)) HSub.rfl', so_p rfl rfl rfl (zd rfl), so_p rfl rfl rfl (zcg rfl rfl), so_p rfl rfl rfl (zcg rfl rfl), so_p rfl rfl rfl (p_assign rfl), trivial⟩) (fun γ => ?_)
        refine ok [0, 2, 3, 4, 5, 6, 7, 9, 10, 11, 12, 15, 16, 17, 18, 19, 20, 21, 22, 23, 24, 25, 26, 27, 28, 29, 30, 31, 32, 33, 34, 35, 36, 37, 38, 39, 40, 41, 42, 43, 44, 45, 46, 47, 48, 49] rfl (oR 1 rfl (oZ rfl (jT rfl (oR 1 rfl (oP rfl (zJ rfl rfl rfl) (oZ rfl ?_))))))
        refine jD rfl (fun hc5 => ?_) (fun hc5 => ?_)
        · skip
          refine za rfl (oR 2 rfl (zi rfl (zy (zc (za rfl (oR 1 rfl (oP rfl (zS (c := ((i + 1 : Nat) : Int)) rfl rfl (zB (by omega) (by omega))) (oR 1 rfl (zi rfl ?_)))))))))
          exact pl2 (i + 1) (rtL (out ++ [(RowD.mk (zE x1.ls) x1.v)])) (sa rfl) HSub.none ⟨by show i + 1 ≤ l.length; omega, by show _ = z8 (l.take (i + 1)); rw [tidyRs_snoc hx1, ← hso]; exact (trStep_t hg3 hc4 hc5).symm⟩ (by omega)
        · skip
          refine zk rfl (zy (zc (za rfl (oR 1 rfl (oP rfl (zS (c := ((i + 1 : Nat) : Int)) rfl rfl (zB (by omega) (by omega))) (oR 1 rfl (zi rfl ?_)))))))
          exact pl2 (i + 1) out (sa rfl) HSub.none ⟨by show i + 1 ≤ l.length; omega, by show _ = z8 (l.take (i + 1)); rw [tidyRs_snoc hx1, ← hso]; exact (trStep_f hc5).symm⟩ (by omega)
    · skip
      refine JD.sub [(0, .sh 2 (l.map RowD.d)), (2, dZ), (3, .sh 2 (out.map RowD.d)), (4, dN i), (5, .ov v2), (6, dB false), (9, dN i), (10, .sh 2 (l.map RowD.d)), (11, dN l.length), (12, dB (decide (((i : Nat) : Int) < ((l.length : Nat) : Int)))), (15, .tup [.ov v2, dB (zY x1.ls)]), (16, .sh 2 (l.map RowD.d)), (17, dN i), (18, .el (RowD.d x1) 0), (19, .el (RowD.d x1) 0), (20, .sh 2 (x1.ls.map Lbl.d)), (21, .tup [.ov v2, dB (zY x1.ls)]), (22, .ov v2), (23, dB false)] ⟨sk rfl, sk rfl, sk rfl, sk rfl, sk rfl, se rfl (congrArg (fun b => D.v (.bool b)) (by simp [hg3])), sk rfl, sk rfl, sk rfl, sk rfl, sk rfl, sk rfl, sk rfl, sk rfl, sk rfl, sk rfl, sk rfl, sk rfl, se rfl (congrArg (fun b => D.v (.bool b)) (by simp [hg3])), trivial⟩ (za rfl (oR 11 rfl (oZ rfl (jCt rfl (zO rfl (zq (zm (zc (za rfl (oR 1 rfl (oP rfl (zS (c := ((i + 1 : Nat) : Int)) rfl rfl (zB (by omega) (by omega))) (oR 1 rfl (zi rfl ?_)))))))))))))
      exact pl2 (i + 1) out (sa rfl) HSub.none ⟨by show i + 1 ≤ l.length; omega, by show _ = z8 (l.take (i + 1)); rw [tidyRs_snoc hx1, ← hso]; exact (trStep_no (.inl hg3)).symm⟩ (by omega)
  · skip
    refine zO rfl (zq (zp (zm (zc (jT rfl (oR 2 rfl (oZ rfl (zl rfl ?_))))))))
    exact zj Tryz.results12 (.cons (zr (zh rfl) (Cv.eq (congrArg (D.ls 2 RowD.d) (show out = z8 l from (by rw [hso, List.take_of_length_le (by omega)]))))) .nil) rfl HSub.none ⟨rfl, rfl⟩
end Lp
/- Walks, printed by a program of mine. -/
set_option linter.unusedSimpArgs false
set_option linter.unusedVariables false
set_option maxHeartbeats 4000000
set_option maxRecDepth 100000
namespace Lp
open Go Go.RowKit Go.Proofs

namespace HdYtfjinapgehafiaaGreatV2
theorem z2 (b o : Nat) : ∀ w, (Instr.fieldAt 53 (.pointer (some ⟨b, o, none⟩)) 0).run Tryz.prog w = .ok (.pointer (some ⟨b, o + 0, none⟩)) w := fun _ => by kernel_rfl
theorem zab (b o : Nat) : ∀ w, (Instr.fieldAt 53 (.pointer (some ⟨b, o, none⟩)) 1).run Tryz.prog w = .ok (.pointer (some ⟨b, o + 1, none⟩)) w := fun _ => by kernel_rfl
theorem zal (b o : Nat) : ∀ w, (Instr.fieldAt 62 (.pointer (some ⟨b, o, none⟩)) 0).run Tryz.prog w = .ok (.pointer (some ⟨b, o + 0, none⟩)) w := fun _ => by kernel_rfl
theorem zaF (b o : Nat) : ∀ w, (Instr.fieldAt 62 (.pointer (some ⟨b, o, none⟩)) 1).run Tryz.prog w = .ok (.pointer (some ⟨b, o + 1, none⟩)) w := fun _ => by kernel_rfl
end HdYtfjinapgehafiaaGreatV2
open HdYtfjinapgehafiaaGreatV2

theorem Light2_c (l : List Lbl)  :
    CD Tryz.prog 35 [] [.sh 2 (l.map Lbl.d)] (isR (dB (zar l))) := by
  refine zn Tryz.func35 rfl (N := 33) rfl rfl (fun C => ?_)
  refine jk [0] rfl ?_
  refine JD.bd 0 rfl (fun bd0 => ?_)
  have nl0 := zQ bd0
  refine jT rfl (oR 1 rfl (oZ rfl (jS rfl (jT rfl (oR 1 rfl (oZ rfl (jB rfl (jl1 (fun (a_ : Nat) => [(0, .sh 2 (l.map Lbl.d)), (3, dN a_)]) (fun a_ => []) (fun a_ => (a_ ≤ l.length ∧ a_ ≤ 30) ∧ ((l.take a_).all (fun x => decide (x.n.size ≤ 200) && decide (x.v.size ≤ 200)) = true)) (fun a_ => l.length - a_) 0 rfl (sa rfl) HSub.rfl' ⟨⟨Nat.zero_le _, Nat.zero_le _⟩, by simp⟩ ?_))))))))
  rintro k ⟨hk, hf⟩
  refine ja rfl (jn rfl (jS rfl (jS rfl (jk [0, 3] rfl ?_))))
  refine zao 11 ((decide (((k : Nat) : Int) < ((l.length : Nat) : Int)) && decide (((k : Nat) : Int) < (30 : Int)))) [] (fun _ hQ1 => ?_) ?_
  · skip
    by_cases hg2 : ((k : Nat) : Int) < ((l.length : Nat) : Int)
    · skip
      refine za rfl (oR 2 rfl (oP rfl (zaa (n := l.length) rfl Tryz.runUnderlying50 (by simp only [lm, lc, ln])) (oP rfl (zP rfl rfl (decide_eq_true hg2)) (oR 2 rfl (oG rfl (zP rfl rfl rfl) (oR 1 rfl (zi rfl ?_)))))))
      exact PD.sub ((11, dB (decide (((k : Nat) : Int) < ((l.length : Nat) : Int)) && decide (((k : Nat) : Int) < (30 : Int)))) :: [(0, .sh 2 (l.map Lbl.d)), (3, dN k)]) ⟨sc rfl (Cv.eq (congrArg (fun b => D.v (.bool b)) (by first | (simp [hg2]; done) | (simp_all; done)))), sk rfl, sk rfl, trivial⟩ hQ1
    · skip
      refine za rfl (oR 2 rfl (oP rfl (zaa (n := l.length) rfl Tryz.runUnderlying50 (by simp only [lm, lc, ln])) (oP rfl (zP rfl rfl (decide_eq_false hg2)) (oR 4 rfl (zi rfl ?_)))))
      exact PD.sub ((11, dB (decide (((k : Nat) : Int) < ((l.length : Nat) : Int)) && decide (((k : Nat) : Int) < (30 : Int)))) :: [(0, .sh 2 (l.map Lbl.d)), (3, dN k)]) ⟨sc rfl (Cv.eq (congrArg (fun b => D.v (.bool b)) (by first | (simp [hg2]; done) | (simp_all; done)))), sk rfl, sk rfl, trivial⟩ hQ1
  · skip
    refine zc ?_
    refine jC rfl (fun hc3 => ?_) (fun hc3 => ?_)
    · simp only [bA, bB, bC, bD, bE, bF, bG, bH, bI, bJ] at hc3
      refine zk rfl (zc (jS rfl (jB rfl (jS rfl ?_))))
      obtain ⟨x1, hx1⟩ := zx l k (by omega)
      refine jk [0, 3, 11] rfl ?_
      refine zao 29 ((decide ((200 : Int) < ((x1.n.size : Nat) : Int)) || decide ((200 : Int) < ((x1.v.size : Nat) : Int)))) [] (fun _ hQ4 => ?_) ?_
      · skip
        by_cases hg5 : (200 : Int) < ((x1.n.size : Nat) : Int)
        · skip
          refine za rfl (oR 2 rfl (oP rfl (zu (k := k) rfl rfl Tryz.runUnderlying50 Tryz.sizeOf62 (by first | rfl | omega) (ze hx1)) (oP rfl (zF rfl zal rfl) (oP rfl (zG rfl Tryz.isAgg9 rfl) (oP rfl (zbB rfl Tryz.runUnderlying9) (oP rfl (zag rfl rfl (decide_eq_true hg5)) (oR 9 rfl (zi rfl ?_))))))))
          exact PD.sub ((29, dB (decide ((200 : Int) < ((x1.n.size : Nat) : Int)) || decide ((200 : Int) < ((x1.v.size : Nat) : Int)))) :: [(0, .sh 2 (l.map Lbl.d)), (3, dN k), (11, dB (decide (((k : Nat) : Int) < ((l.length : Nat) : Int)) && decide (((k : Nat) : Int) < (30 : Int))))]) ⟨sc rfl (Cv.eq (congrArg (fun b => D.v (.bool b)) (by first | (simp [hg5]; done) | (simp_all; done)))), sk rfl, sk rfl, sk rfl, trivial⟩ hQ4
        · skip
          refine za rfl (oR 2 rfl (oP rfl (zu (k := k) rfl rfl Tryz.runUnderlying50 Tryz.sizeOf62 (by first | rfl | omega) (ze hx1)) (oP rfl (zF rfl zal rfl) (oP rfl (zG rfl Tryz.isAgg9 rfl) (oP rfl (zbB rfl Tryz.runUnderlying9) (oP rfl (zag rfl rfl (decide_eq_false hg5)) (oR 3 rfl (oG rfl (zu (k := k) rfl rfl Tryz.runUnderlying50 Tryz.sizeOf62 (by first | rfl | omega) (ze hx1)) (oG rfl (zF rfl zaF rfl) (oG rfl (zG rfl Tryz.isAgg9 rfl) (oG rfl (zbB rfl Tryz.runUnderlying9) (oG rfl (zag rfl rfl rfl) (oR 1 rfl (zi rfl ?_))))))))))))))
          exact PD.sub ((29, dB (decide ((200 : Int) < ((x1.n.size : Nat) : Int)) || decide ((200 : Int) < ((x1.v.size : Nat) : Int)))) :: [(0, .sh 2 (l.map Lbl.d)), (3, dN k), (11, dB (decide (((k : Nat) : Int) < ((l.length : Nat) : Int)) && decide (((k : Nat) : Int) < (30 : Int))))]) ⟨sc rfl (Cv.eq (congrArg (fun b => D.v (.bool b)) (by first | (simp [hg5]; done) | (simp_all; done)))), sk rfl, sk rfl, sk rfl, trivial⟩ hQ4
      · skip
        refine zc ?_
        refine jC rfl (fun hc6 => ?_) (fun hc6 => ?_)
        · simp only [bA, bB, bC, bD, bE, bF, bG, bH, bI, bJ] at hc6
          refine jT rfl (oR 1 rfl (oZ rfl (zl rfl (zf (zb (zN (zf (zb ?_))))))))
          exact zj Tryz.results35 (.cons (zr (zh rfl) (Cv.eq (congrArg (fun b => D.v (.bool b)) (by first | rw [lightL_bad hx1 (by omega) (by omega)] | (rw [lightL_end hf (by omega)]; exact decide_eq_decide.2 (by omega)))))) .nil) rfl HSub.none ⟨rfl, rfl⟩
        · simp only [bA, bB, bC, bD, bE, bF, bG, bH, bI, bJ] at hc6
          refine zk rfl (zy (zc (za rfl (oR 1 rfl (oP rfl (zS (c := ((k + 1 : Nat) : Int)) rfl rfl (zB (by omega) (by omega))) (oR 1 rfl (zi rfl ?_)))))))
          exact pl1 (k + 1) (sa rfl) HSub.rfl' ⟨by omega, zbl hx1 hf (by simp only [Bool.and_eq_true, decide_eq_true_eq]; omega)⟩ (by omega)
    · simp only [bA, bB, bC, bD, bE, bF, bG, bH, bI, bJ] at hc3
      refine zO rfl (zq (zp (zm (zc (jT rfl (oR 1 rfl (oP rfl (zaa (n := l.length) rfl Tryz.runUnderlying50 (by simp only [lm, lc, ln])) (oP rfl (zaw rfl rfl rfl) (oR 1 rfl (oZ rfl (zl rfl ?_)))))))))))
      exact zj Tryz.results35 (.cons (zr (zh rfl) (Cv.eq (congrArg (fun b => D.v (.bool b)) (by first | rw [lightL_bad hk (by omega) (by omega)] | (rw [lightL_end hf (by omega)]; exact decide_eq_decide.2 (by omega)))))) .nil) rfl HSub.none ⟨rfl, rfl⟩

theorem zbY (l : List RowD)  :
    CD Tryz.prog 10 [] [.sh 2 (l.map RowD.d)] (isR (dB (zaq l))) := by
  refine zn Tryz.func10 rfl (N := 24) rfl rfl (fun C => ?_)
  refine jk [0] rfl ?_
  refine JD.bd 0 rfl (fun bd0 => ?_)
  have nl0 := zQ bd0
  refine jT rfl (oR 1 rfl (oZ rfl (jS rfl (jT rfl (oR 1 rfl (oZ rfl (jB rfl (jl1 (fun (a_ : Nat) => [(0, .sh 2 (l.map RowD.d)), (3, dN a_)]) (fun a_ => []) (fun a_ => (a_ ≤ l.length ∧ a_ ≤ 100) ∧ ((l.take a_).all (fun r => zar r.ls) = true)) (fun a_ => l.length - a_) 0 rfl (sa rfl) HSub.rfl' ⟨⟨Nat.zero_le _, Nat.zero_le _⟩, by simp⟩ ?_))))))))
  rintro k ⟨hk, hf⟩
  refine ja rfl (jn rfl (jS rfl (jS rfl (jk [0, 3] rfl ?_))))
  refine zao 11 ((decide (((k : Nat) : Int) < ((l.length : Nat) : Int)) && decide (((k : Nat) : Int) < (100 : Int)))) [] (fun _ hQ1 => ?_) ?_
  · skip
    by_cases hg2 : ((k : Nat) : Int) < ((l.length : Nat) : Int)
    · skip
      refine za rfl (oR 2 rfl (oP rfl (zaa (n := l.length) rfl Tryz.runUnderlying22 (by simp only [lm, lc, ln])) (oP rfl (zP rfl rfl (decide_eq_true hg2)) (oR 2 rfl (oG rfl (zP rfl rfl rfl) (oR 1 rfl (zi rfl ?_)))))))
      exact PD.sub ((11, dB (decide (((k : Nat) : Int) < ((l.length : Nat) : Int)) && decide (((k : Nat) : Int) < (100 : Int)))) :: [(0, .sh 2 (l.map RowD.d)), (3, dN k)]) ⟨sc rfl (Cv.eq (congrArg (fun b => D.v (.bool b)) (by first | (simp [hg2]; done) | (simp_all; done)))), sk rfl, sk rfl, trivial⟩ hQ1
    · skip
      refine za rfl (oR 2 rfl (oP rfl (zaa (n := l.length) rfl Tryz.runUnderlying22 (by simp only [lm, lc, ln])) (oP rfl (zP rfl rfl (decide_eq_false hg2)) (oR 4 rfl (zi rfl ?_)))))
      exact PD.sub ((11, dB (decide (((k : Nat) : Int) < ((l.length : Nat) : Int)) && decide (((k : Nat) : Int) < (100 : Int)))) :: [(0, .sh 2 (l.map RowD.d)), (3, dN k)]) ⟨sc rfl (Cv.eq (congrArg (fun b => D.v (.bool b)) (by first | (simp [hg2]; done) | (simp_all; done)))), sk rfl, sk rfl, trivial⟩ hQ1
  · skip
    refine zc ?_
    refine jC rfl (fun hc3 => ?_) (fun hc3 => ?_)
    · simp only [bA, bB, bC, bD, bE, bF, bG, bH, bI, bJ] at hc3
      refine zk rfl (zc (jS rfl (jB rfl (jT rfl (oR 2 rfl ?_)))))
      obtain ⟨x1, hx1⟩ := zx l k (by omega)
      refine oP rfl (zu (k := k) rfl rfl Tryz.runUnderlying22 Tryz.sizeOf53 (by first | rfl | omega) (ze hx1)) (oP rfl (zF rfl z2 rfl) (oP rfl (zG rfl Tryz.isAgg50 rfl) (oW rfl rfl acs Tryz.call35 (Light2_c x1.ls) (oP rfl (zba rfl) (oZ rfl ?_)))))
      refine jC rfl (fun hc4 => ?_) (fun hc4 => ?_)
      · simp only [bA, bB, bC, bD, bE, bF, bG, bH, bI, bJ] at hc4
        refine jT rfl (oR 1 rfl (oZ rfl (zl rfl (zf (zb (zN (zf (zb ?_))))))))
        exact zj Tryz.results10 (.cons (zr (zh rfl) (Cv.eq (congrArg (fun b => D.v (.bool b)) (by first | rw [lightR_bad hx1 (by omega) (by simpa using hc4)] | (rw [lightR_end hf (by omega)]; exact decide_eq_decide.2 (by omega)))))) .nil) rfl HSub.none ⟨rfl, rfl⟩
      · simp only [bA, bB, bC, bD, bE, bF, bG, bH, bI, bJ] at hc4
        refine zk rfl (zy (zc (za rfl (oR 1 rfl (oP rfl (zS (c := ((k + 1 : Nat) : Int)) rfl rfl (zB (by omega) (by omega))) (oR 1 rfl (zi rfl ?_)))))))
        exact pl1 (k + 1) (sa rfl) HSub.rfl' ⟨by omega, zbl hx1 hf (by simpa using hc4)⟩ (by omega)
    · simp only [bA, bB, bC, bD, bE, bF, bG, bH, bI, bJ] at hc3
      refine zO rfl (zq (zp (zm (zc (jT rfl (oR 1 rfl (oP rfl (zaa (n := l.length) rfl Tryz.runUnderlying22 (by simp only [lm, lc, ln])) (oP rfl (zaw rfl rfl rfl) (oR 1 rfl (oZ rfl (zl rfl ?_)))))))))))
      exact zj Tryz.results10 (.cons (zr (zh rfl) (Cv.eq (congrArg (fun b => D.v (.bool b)) (by first | rw [lightR_bad hk (by omega) (by simpa using hc4)] | (rw [lightR_end hf (by omega)]; exact decide_eq_decide.2 (by omega)))))) .nil) rfl HSub.none ⟨rfl, rfl⟩
end Lp
/- Walks, printed by a program of mine. -/
set_option linter.unusedSimpArgs false
set_option linter.unusedVariables false
set_option maxHeartbeats 4000000
set_option maxRecDepth 100000
namespace Lp
open Go Go.RowKit Go.Proofs

namespace HdYtfjinapgehafiaaGreatV65
theorem zcp : ∀ w, ((#[⟨"Labels", 50, 0, false, "", "", 0⟩, ⟨"V", 3, 1, false, "", "", 24⟩] : Array Field).mapM fun f => do pure (f.offset, ← Go.sizeOf f.type) : Sem (Array (Nat × Nat))).run Tryz.prog w = .ok ([(0, 1), (1, 1)] : List (Nat × Nat)).toArray w := fun _ => by kernel_rfl
theorem zdp : ∀ w, ((#[⟨"Name", 9, 0, false, "", "", 0⟩, ⟨"Value", 9, 1, false, "", "", 16⟩] : Array Field).mapM fun f => do pure (f.offset, ← Go.sizeOf f.type) : Sem (Array (Nat × Nat))).run Tryz.prog w = .ok ([(0, 1), (1, 1)] : List (Nat × Nat)).toArray w := fun _ => by kernel_rfl
theorem zab (b o : Nat) : ∀ w, (Instr.fieldAt 53 (.pointer (some ⟨b, o, none⟩)) 1).run Tryz.prog w = .ok (.pointer (some ⟨b, o + 1, none⟩)) w := fun _ => by kernel_rfl
end HdYtfjinapgehafiaaGreatV65
open HdYtfjinapgehafiaaGreatV65

end Lp
/-
  What is said of vectors (chapter 10): keys, sums, sizes, contraries.
-/
set_option linter.unusedVariables false
namespace Lp
open Go
theorem within_ok {v : Int} (h : zan v = true) : zbN v = (v, 0) := by unfold zbN; rw [if_pos h]
end Lp
/-
  Laws of groups (chapter 11), plain.
-/
set_option linter.unusedVariables false
namespace Lp
open Go
theorem right_nil : zaI [] = true := right_of (by simp) (by unfold NSrt; simp) (fun _ h => by cases h)
theorem right_by {l : List Lbl} (h : zaI l = true) (mode : Int) (ns : List ByteArray) : zaI (byL mode ns l) = true := by
  unfold byL; split
  · exact right_key h mode ns
  · exact right_nil
section
variable {mode : Int} {names : List ByteArray} {a : List RowD}
theorem zbd (h : zV a = true) : zM mode names a = za9 (kapB mode names) a := by unfold zM; rw [if_pos h]
theorem grp (h : zV a = true) {g : List RowD} (hg : g ∈ zM mode names a) : g ≠ [] ∧ (∀ r ∈ g, r ∈ a) ∧ g.length ≤ a.length := by
  rw [zbd h] at hg
  exact ⟨(splitG_ok _).ne g hg, splitG_mem _ g hg, splitG_rows _ g hg⟩
theorem head_mem {κ : RowD → List Lbl} {g : List RowD} (h : g ≠ []) : ∃ r ∈ g, zaJ κ g = κ r := by
  cases g with
  | nil => exact absurd rfl h
  | cons x g => exact ⟨x, List.mem_cons_self, rfl⟩
theorem out_vr (h : zV a = true) {w : Way} (hv : ∀ g ∈ zM mode names a, zan (numF w g).1 = true) : zV (outR (kapB mode names) w (zM mode names a)) = true := by
  refine vr_of ?_ (fun r hr => ?_) ?_
  · unfold outR; rw [List.length_map, zbd h]; have := splitG_len (κ := kapB mode names) a; have := (zaS.1 h).1; omega
  · obtain ⟨g, hg, rfl⟩ := List.mem_map.1 hr
    obtain ⟨h1, h2, _⟩ := grp h hg
    obtain ⟨q, hq, e⟩ := head_mem (κ := kapB mode names) h1
    refine okRow_of ?_ (hv g hg)
    rw [show (RowD.mk (zaJ (kapB mode names) g) (numF w g).1).ls = zaJ (kapB mode names) g from rfl, e]
    exact right_by (okRow_r (zcY h q (h2 q hq))).1 mode names
  · have := (splitG_ok (κ := kapB mode names) a).lt
    rw [← zbd (mode := mode) (names := names) h] at this
    unfold outR
    exact List.pairwise_map.2 this
theorem firstG_0 {f : List RowD → Int × Int} : ∀ {gs : List (List RowD)}, (∀ g ∈ gs, (f g).2 = 0) → za0 f gs = 0
  | [], _ => rfl
  | g :: gs, h => by unfold za0; rw [if_neg (by have := h g List.mem_cons_self; omega)]; exact firstG_0 (fun g hg => h g (List.mem_cons_of_mem _ hg))
theorem gd_out (h : zV a = true) {w : Way} (hv : ∀ g ∈ zM mode names a, (numF w g).2 = 0 ∧ zan (numF w g).1 = true) : gdE w mode names a = 0 ∧ gdL w mode names a = outR (kapB mode names) w (zM mode names a) := by
  have h0 := firstG_0 (f := numF w) (fun g hg => (hv g hg).1)
  have h1 := zcZ (out_vr h (fun g hg => (hv g hg).2))
  unfold gdE gdL; rw [if_pos h, if_pos h, if_pos h0, if_pos h0]; exact ⟨h1.2, h1.1⟩
end
section
variable {mode : Int} {names : List ByteArray} {a : List RowD}
end
/-! ### the first call -/
abbrev lA : Lbl := ⟨⟨#[97]⟩, ⟨#[49]⟩⟩
abbrev lHx : Lbl := ⟨⟨#[104]⟩, ⟨#[120]⟩⟩
abbrev lHy : Lbl := ⟨⟨#[104]⟩, ⟨#[121]⟩⟩
abbrev nH : ByteArray := ⟨#[104]⟩
def al11 : List RowD := [⟨[lA, lHx], 5⟩, ⟨[lA, lHy], 7⟩]
theorem okl_A : okL lA = true := by unfold okL; rw [name_a]; decide
theorem name_h : zbz nH = true := by unfold zbz; rw [runes_one (r := 104) (by decide) (by decide) (by decide)]; decide
theorem okl_x : okL lHx = true := by unfold okL; rw [name_h]; decide
theorem okl_y : okL lHy = true := by unfold okL; rw [name_h]; decide
theorem al11_right {v : Lbl} (hv : okL v = true) (hn : cmpS lA.n v.n < 0) : zaI [lA, v] = true :=
  right_of (by simp) (by unfold NSrt; simpa using hn) (fun x hx => by
    rcases List.mem_cons.1 hx with e | e
    · rw [e]; exact okl_A
    · rw [List.mem_singleton.1 e]; exact hv)
theorem zcQ : zV al11 = true := by
  refine vr_of (by decide) (fun r hr => ?_) (by unfold al11 zax; simp; decide)
  unfold al11 at hr
  rcases List.mem_cons.1 hr with e | e
  · rw [e]; exact okRow_of (al11_right okl_x (by decide)) (by decide)
  · rw [List.mem_singleton.1 e]; exact okRow_of (al11_right okl_y (by decide)) (by decide)
theorem al11_s : gdE (.sums false) 2 [nH] al11 = 0 ∧ gdL (.sums false) 2 [nH] al11 = [⟨[lA], 12⟩] := by
  have hs : zM 2 [nH] al11 = [al11] := by rw [zbd zcQ]; decide
  have hv : numF (.sums false) al11 = (12, 0) := by decide
  have h := gd_out (w := .sums false) (mode := 2) (names := [nH]) zcQ (fun g hg => by rw [hs, List.mem_singleton] at hg; rw [hg, hv]; exact ⟨rfl, by decide⟩)
  refine ⟨h.1, h.2.trans ?_⟩
  rw [hs]; unfold outR; rw [List.map_cons, List.map_nil, hv]; decide
theorem al11_t : gtE 1 0 [] al11 = 0 ∧ gtL 1 0 [] al11 = [⟨[lA, lHy], 7⟩] := by
  have hs : zM 0 [] al11 = [al11] := by rw [zbd zcQ]; decide
  have ht : topR 1 [al11] = [⟨[lA, lHy], 7⟩] := by decide
  have h := zcZ (one_vr (r := ⟨[lA, lHy], 7⟩) (okRow_of (al11_right okl_y (by decide)) (by decide)))
  unfold gtE gtL; rw [if_pos zcQ, if_pos zcQ, hs, ht]; exact ⟨h.2, h.1⟩
theorem al11_p : (zM 1 [nH] al11).length = 2 := by rw [zbd zcQ]; decide
end Lp
