/- Walks, printed by a program of mine. -/
import Derived.Test.YtfjinapgehafiaaGreatV69
set_option linter.unusedSimpArgs false
set_option linter.unusedVariables false
set_option maxHeartbeats 4000000
set_option maxRecDepth 100000
namespace Lp
open Go Go.RowKit Go.Proofs

namespace HdYtfjinapgehafiaaGreatV70
theorem zbQ : ∀ w, ((#[⟨"Labels", 50, 0, false, "", "", 0⟩, ⟨"V", 3, 1, false, "", "", 24⟩] : Array Field).mapM fun f => do pure (f.offset, ← Go.sizeOf f.type) : Sem (Array (Nat × Nat))).run Tryz.prog w = .ok ([(0, 1), (1, 1)] : List (Nat × Nat)).toArray w := fun _ => by kernel_rfl
theorem z2 (b o : Nat) : ∀ w, (Instr.fieldAt 53 (.pointer (some ⟨b, o, none⟩)) 0).run Tryz.prog w = .ok (.pointer (some ⟨b, o + 0, none⟩)) w := fun _ => by kernel_rfl
theorem zaj (b o : Nat) : ∀ w, (Instr.fieldAt 53 (.pointer (some ⟨b, o, none⟩)) 1).run Tryz.prog w = .ok (.pointer (some ⟨b, o + 1, none⟩)) w := fun _ => by kernel_rfl
theorem z9 : ∃ i, Tryz.prog.info? 53 = some i ∧ i.zero = some (.agg #[(.slice none 0 0), (.int .i64 0)]) ∧ i.size = 2 ∧ i.bytes = 32 := zaS (by kernel_rfl)
theorem zao : Tryz.prog.underlying 22 = some (.slice 53) := by kernel_rfl
end HdYtfjinapgehafiaaGreatV70
open HdYtfjinapgehafiaaGreatV70

theorem refMatch_c (op : ByteArray) (a : List RowD) (b : List RowD) (mode : Int) (names : List ByteArray) (hl : a.length ≤ 1000000) (hli : ∀ r ∈ a, zam r.ls = true) (hlb : b.length ≤ 1000000) (hlib : ∀ r ∈ b, zam r.ls = true) (hn : names.length ≤ 1000) :
    CD Tryz.prog 21 [] [.s op, .sh 2 (a.map RowD.d), .sh 2 (b.map RowD.d), dI mode, .sh 1 (names.map D.s)] (fun r H' => ∃ v0_, r = .tup [.ov v0_, dI (zac op a b mode names)] ∧ H' = [.sl v0_ 2 53 ((zp op a b mode names).map RowD.d)]) := by
  refine zy Tryz.func21 rfl (N := 158) rfl rfl (fun C => ?_)
  refine jk [0, 1, 2, 3, 4] rfl ?_
  refine JD.bd 0 rfl (fun bd0 => ?_)
  have sz0 : op.size ≤ 9223372036854775807 := bd0
  refine JD.bd 1 rfl (fun bd1 => ?_)
  have nl1 := zZ bd1
  refine JD.bd 2 rfl (fun bd2 => ?_)
  have nl2 := zZ bd2
  refine JD.bd 4 rfl (fun bd4 => ?_)
  have nl4 := zZ bd4
  refine jT rfl (oR 2 rfl (oZ rfl (jS rfl (jS rfl (jk [0, 1, 2, 3, 4, 10, 11] rfl ?_)))))
  refine zab 37 (((!(zT a) || !(zT b)) || !(opB op))) [] (fun _ hQ1 => ?_) ?_
  · skip
    rcases Bool.eq_false_or_eq_true (zT a) with hg2 | hg2
    · skip
      rcases Bool.eq_false_or_eq_true (zT b) with hg3 | hg3
      · skip
        refine za rfl (oR 1 rfl (oW rfl rfl acs Tryz.call27 (zbe a (by omega) hli) (os 26 rfl (congrArg (fun b => D.v (.bool b)) hg2) (oR 3 rfl (oV rfl rfl acs Tryz.call27 (zbe b (by omega) hlib) (os 30 rfl (congrArg (fun b => D.v (.bool b)) hg3) (oR 4 rfl (oV rfl rfl acs Tryz.call51 (refOp_c op) (oG rfl (zaP rfl) (oR 1 rfl (zg rfl ?_)))))))))))
        exact PD.sub ((37, dB ((!(zT a) || !(zT b)) || !(opB op))) :: [(0, .s op), (1, .sh 2 (a.map RowD.d)), (2, .sh 2 (b.map RowD.d)), (3, dI mode), (4, .sh 1 (names.map D.s)), (10, dZ), (11, dI 0)]) ⟨sc rfl (Cv.eq (congrArg (fun b => D.v (.bool b)) (by first | (simp [hg2, hg3]; done) | (simp_all; done)))), sk rfl, sk rfl, sk rfl, sk rfl, sk rfl, sk rfl, sk rfl, trivial⟩ hQ1
      · skip
        refine za rfl (oR 1 rfl (oW rfl rfl acs Tryz.call27 (zbe a (by omega) hli) (os 26 rfl (congrArg (fun b => D.v (.bool b)) hg2) (oR 3 rfl (oV rfl rfl acs Tryz.call27 (zbe b (by omega) hlib) (os 30 rfl (congrArg (fun b => D.v (.bool b)) hg3) (oR 7 rfl (zg rfl ?_))))))))
        exact PD.sub ((37, dB ((!(zT a) || !(zT b)) || !(opB op))) :: [(0, .s op), (1, .sh 2 (a.map RowD.d)), (2, .sh 2 (b.map RowD.d)), (3, dI mode), (4, .sh 1 (names.map D.s)), (10, dZ), (11, dI 0)]) ⟨sc rfl (Cv.eq (congrArg (fun b => D.v (.bool b)) (by first | (simp [hg2, hg3]; done) | (simp_all; done)))), sk rfl, sk rfl, sk rfl, sk rfl, sk rfl, sk rfl, sk rfl, trivial⟩ hQ1
    · skip
      refine za rfl (oR 1 rfl (oW rfl rfl acs Tryz.call27 (zbe a (by omega) hli) (os 26 rfl (congrArg (fun b => D.v (.bool b)) hg2) (oR 11 rfl (zg rfl ?_)))))
      exact PD.sub ((37, dB ((!(zT a) || !(zT b)) || !(opB op))) :: [(0, .s op), (1, .sh 2 (a.map RowD.d)), (2, .sh 2 (b.map RowD.d)), (3, dI mode), (4, .sh 1 (names.map D.s)), (10, dZ), (11, dI 0)]) ⟨sc rfl (Cv.eq (congrArg (fun b => D.v (.bool b)) (by first | (simp [hg2]; done) | (simp_all; done)))), sk rfl, sk rfl, sk rfl, sk rfl, sk rfl, sk rfl, sk rfl, trivial⟩ hQ1
  · skip
    refine zc ?_
    refine jC rfl (fun hc4 => ?_) (fun hc4 => ?_)
    · simp only [bA, bB, bC, bD, bE, bF, bG, bH, bI, bJ] at hc4
      have hbad : zbl op a b = false := by unfold zbl; have h := hc4; revert h; cases opB op <;> cases zT a <;> cases zT b <;> simp
      refine jT rfl (oR 2 rfl (oZ rfl (zs rfl (ze (PD.subH (HSub.nil 2 53) (PD.norm [.sl (.slice none 0 0) 2 53 ((zp op a b mode names).map RowD.d)] (by have hw : [] = zp op a b mode names := (by first | exact (zcR (mode := mode) (ns := names) hbad).1 | exact (zcR (mode := mode) (ns := names) hbad).2); rw [show ([] : List D) = List.map RowD.d (zp op a b mode names) from congrArg (List.map RowD.d) hw]) ?_))))))
      exact zj Tryz.results21 (.cons (zB (zf rfl) (Cv.ov rfl)) (.cons (zB (zf rfl) (Cv.eq (congrArg (fun n => D.v (.int .i64 n)) (by first | exact (zcR (mode := mode) (ns := names) hbad).1 | exact (zcR (mode := mode) (ns := names) hbad).2)))) .nil)) rfl (HSub.fst 1 rfl) ⟨(.slice none 0 0), rfl, rfl⟩
    · simp only [bA, bB, bC, bD, bE, bF, bG, bH, bI, bJ] at hc4
      have hgood : zbl op a b = true := by unfold zbl; simp only [Bool.and_eq_true]; have h := hc4; simp_all
      have hvr : zT a = true ∧ zT b = true := by unfold zbl at hgood; simp only [Bool.and_eq_true] at hgood; exact hgood.2
      have hlen := (zaH.1 hvr.1).1
      have hlenb := (zaH.1 hvr.2).1
      refine zq rfl (zc (jT rfl (oR 2 rfl (oZ rfl (jS rfl (jT rfl (oR 1 rfl (oZ rfl (jB rfl (jl3 (fun (a_ : Nat) (b_ : Value) (c_ : List RowD) => [(0, .s op), (1, .sh 2 (a.map RowD.d)), (2, .sh 2 (b.map RowD.d)), (3, dI mode), (4, .sh 1 (names.map D.s)), (10, dZ), (11, dI 0), (13, dZ), (14, dN a_), (12, .ov b_)]) (fun a_ b_ c_ => [.sl b_ 2 53 (c_.map RowD.d)]) (fun a_ b_ c_ => (a_ ≤ a.length) ∧ (c_ = (a.take a_).map (krow mode names))) (fun a_ b_ c_ => a.length - a_) 0 (.slice none 0 0) [] rfl ⟨sk rfl, sk rfl, sk rfl, sk rfl, sk rfl, sk rfl, sk rfl, sk rfl, sk rfl, sc rfl (Cv.ov rfl), trivial⟩ (HSub.nil 2 53) ⟨Nat.zero_le _, rfl⟩ ?_))))))))))
      rintro k ov o ⟨hkl, ho⟩
      refine ja rfl (jn rfl ?_)
      have hol : o.length ≤ 2000 := by rw [ho, List.length_map, List.length_take]; omega
      refine jS rfl (jT rfl (oR 2 rfl (oP rfl (zae (n := a.length) rfl Tryz.runUnderlying22 (by simp only [lm, lc, ln])) (oP rfl (zL rfl rfl rfl) (oZ rfl ?_)))))
      refine jD rfl (fun hc5 => ?_) (fun hc5 => ?_)
      · skip
        refine zq rfl (zc (jS rfl (jB rfl (za rfl (oR 5 rfl ?_)))))
        obtain ⟨x1, hx1⟩ := zG a k (by omega)
        have hokx1 := zcM hvr.1 x1 (zav hx1)
        have hklx1 := zci hokx1
        refine oP rfl (zC (k := k) rfl rfl Tryz.runUnderlying22 Tryz.sizeOf53 (by first | rfl | omega) (zt hx1)) (oP rfl (zD rfl z2 rfl) (oP rfl (zH rfl Tryz.isAgg50 rfl) (oE rfl (zx [] _ [] rfl rfl (.cons ArgC.id (.cons ArgC.id (.cons ArgC.id .nil))) zo Tryz.call25 (zdt mode names x1.ls (by omega) (by first | omega | decide)) (.inl rfl)) ?_)))
        rintro _ _ ⟨_, ⟨v6, rfl, rfl⟩, rfl⟩
        refine on rfl (OpsD.mv (Mv.freeze (K' := [(0, .s op), (1, .sh 2 (a.map RowD.d)), (2, .sh 2 (b.map RowD.d)), (3, dI mode), (4, .sh 1 (names.map D.s)), (10, dZ), (11, dI 0), (12, .ov ov), (13, dZ), (14, dN k), (38, dN k), (39, .sh 2 (a.map RowD.d)), (40, dN a.length), (41, dB (decide (((k : Nat) : Int) < ((a.length : Nat) : Int)))), (44, .ov ov), (45, dI mode), (46, .sh 1 (names.map D.s)), (47, .sh 2 (a.map RowD.d)), (48, dN k), (49, .el (RowD.d x1) 0), (50, .el (RowD.d x1) 0), (51, .sh 2 (x1.ls.map Lbl.d)), (52, .sh 2 ((keyL mode names x1.ls).map Lbl.d))]) [.sl v6 2 62 ((keyL mode names x1.ls).map Lbl.d)] (H1 := [.sl ov 2 53 (o.map RowD.d)]) (H1' := [.sl ov 2 53 (o.map RowD.d)]) ⟨⟨_, rfl, ArgC.id⟩, ⟨_, rfl, ArgC.id⟩, ⟨_, rfl, ArgC.id⟩, ⟨_, rfl, ArgC.id⟩, ⟨_, rfl, ArgC.id⟩, ⟨_, rfl, ArgC.id⟩, ⟨_, rfl, ArgC.id⟩, ⟨_, rfl, ArgC.id⟩, ⟨_, rfl, ArgC.id⟩, ⟨_, rfl, ArgC.id⟩, ⟨_, rfl, ArgC.id⟩, ⟨_, rfl, ArgC.id⟩, ⟨_, rfl, ArgC.id⟩, ⟨_, rfl, ArgC.id⟩, ⟨_, rfl, ArgC.id⟩, ⟨_, rfl, ArgC.id⟩, ⟨_, rfl, ArgC.id⟩, ⟨_, rfl, ArgC.id⟩, ⟨_, rfl, ArgC.id⟩, ⟨_, rfl, ArgC.id⟩, ⟨_, rfl, ArgC.id⟩, ⟨_, rfl, ArgC.id⟩, ⟨_, rfl, ArgC.own (j := 0) rfl rfl⟩, trivial⟩ (.same .nil)) ?_)
        refine oP rfl (zbx [0] [.tmp 52] (zv := (.agg #[(.slice none 0 0), (.int .i64 0)])) rfl rfl (.cons CellD.sh .nil) (Tryz.runUnderlying53) Tryz.zeroValue53 zbQ ⟨rfl, rfl, trivial⟩ rfl) (oE rfl (zJ [.tmp 53] rfl rfl (.cons CellD.agg .nil) rfl Tryz.runUnderlying22 Tryz.sizeOf53 Tryz.zeroValue53 rfl rfl rfl rfl) ?_)
        rintro _ _ ⟨g7, rfl, rfl⟩
        refine oE rfl (zK (f := RowD.d) (l := o) (l' := [(RowD.mk (keyL mode names x1.ls) 0)]) (i := 1) rfl rfl rfl (SrcD.own (j := 0) rfl rfl) zao z9 rfl rfl (by unfold maxLen; (try simp only [la, lc, ln, lm, lt', ld, ls, lr]); omega) (by (try simp only [la, lc, ln, lm, lt', ld, ls, lr]); omega)) ?_
        rintro _ _ ⟨v8, rfl, rfl⟩
        refine on rfl (oR 1 rfl (zg rfl (zw (zc (za rfl (oR 1 rfl (oP rfl (zS (c := ((k + 1 : Nat) : Int)) rfl rfl (zF (by omega) (by omega))) (oR 1 rfl (zg rfl (PD.subH (HSub.perm (zk (i := 1) rfl)) (pn rfl (PD.subH (HSub.fst 1 rfl) (pn rfl ?_)))))))))))))
        exact pl3 (k + 1) v8 (o ++ [(RowD.mk (keyL mode names x1.ls) 0)]) (sa rfl) HSub.rfl' ⟨by show k + 1 ≤ a.length; omega, krow_snoc hx1 ho⟩ (by omega)
      · skip
        refine JD.norm [.sl ov 2 53 ((a.map (krow mode names)).map RowD.d)] (by rw [ho, List.take_of_length_le (by omega)]) (JD.mv (Mv.freeze (K' := [(0, .s op), (1, .sh 2 (a.map RowD.d)), (2, .sh 2 (b.map RowD.d)), (3, dI mode), (4, .sh 1 (names.map D.s)), (10, dZ), (11, dI 0), (12, .sh 2 ((a.map (krow mode names)).map RowD.d)), (13, dZ), (14, dN k), (38, dN k), (39, .sh 2 (a.map RowD.d)), (40, dN a.length), (41, dB (decide (((k : Nat) : Int) < ((a.length : Nat) : Int))))]) [.sl ov 2 53 ((a.map (krow mode names)).map RowD.d)] (H1 := []) (H1' := []) ⟨⟨_, rfl, ArgC.id⟩, ⟨_, rfl, ArgC.id⟩, ⟨_, rfl, ArgC.id⟩, ⟨_, rfl, ArgC.id⟩, ⟨_, rfl, ArgC.id⟩, ⟨_, rfl, ArgC.id⟩, ⟨_, rfl, ArgC.id⟩, ⟨_, rfl, ArgC.own (j := 0) rfl rfl⟩, ⟨_, rfl, ArgC.id⟩, ⟨_, rfl, ArgC.id⟩, ⟨_, rfl, ArgC.id⟩, ⟨_, rfl, ArgC.id⟩, ⟨_, rfl, ArgC.id⟩, ⟨_, rfl, ArgC.id⟩, trivial⟩ .nil) ?_)
        have hkxa : (a.map (krow mode names)).length = a.length := List.length_map _
        clear ho hkl hol
        refine zE rfl (zr (zn (zh (zc (jS rfl (jT rfl (oR 1 rfl (oZ rfl (jB rfl (jl3 (fun (a_ : Nat) (b_ : Value) (c_ : List RowD) => [(0, .s op), (1, .sh 2 (a.map RowD.d)), (2, .sh 2 (b.map RowD.d)), (3, dI mode), (4, .sh 1 (names.map D.s)), (10, dZ), (11, dI 0), (12, .sh 2 ((a.map (krow mode names)).map RowD.d)), (15, dN a_), (13, .ov b_)]) (fun a_ b_ c_ => [.sl b_ 2 53 (c_.map RowD.d)]) (fun a_ b_ c_ => (a_ ≤ b.length) ∧ (c_ = (b.take a_).map (krow mode names))) (fun a_ b_ c_ => b.length - a_) 0 (.slice none 0 0) [] rfl ⟨sk rfl, sk rfl, sk rfl, sk rfl, sk rfl, sk rfl, sk rfl, sk rfl, sk rfl, sc rfl (Cv.ov rfl), trivial⟩ (HSub.nil 2 53) ⟨Nat.zero_le _, rfl⟩ ?_))))))))))
        rintro k ov o ⟨hkl, ho⟩
        refine ja rfl (jn rfl ?_)
        have hol : o.length ≤ 2000 := by rw [ho, List.length_map, List.length_take]; omega
        refine jS rfl (jT rfl (oR 2 rfl (oP rfl (zae (n := b.length) rfl Tryz.runUnderlying22 (by simp only [lm, lc, ln])) (oP rfl (zL rfl rfl rfl) (oZ rfl ?_)))))
        refine jD rfl (fun hc9 => ?_) (fun hc9 => ?_)
        · skip
          refine zq rfl (zc (jS rfl (jB rfl (za rfl (oR 5 rfl ?_)))))
          obtain ⟨x2, hx2⟩ := zG b k (by omega)
          have hokx2 := zcM hvr.2 x2 (zav hx2)
          have hklx2 := zci hokx2
          refine oP rfl (zC (k := k) rfl rfl Tryz.runUnderlying22 Tryz.sizeOf53 (by first | rfl | omega) (zt hx2)) (oP rfl (zD rfl z2 rfl) (oP rfl (zH rfl Tryz.isAgg50 rfl) (oE rfl (zx [] _ [] rfl rfl (.cons ArgC.id (.cons ArgC.id (.cons ArgC.id .nil))) zo Tryz.call25 (zdt mode names x2.ls (by omega) (by first | omega | decide)) (.inl rfl)) ?_)))
          rintro _ _ ⟨_, ⟨v10, rfl, rfl⟩, rfl⟩
          refine on rfl (OpsD.mv (Mv.freeze (K' := [(0, .s op), (1, .sh 2 (a.map RowD.d)), (2, .sh 2 (b.map RowD.d)), (3, dI mode), (4, .sh 1 (names.map D.s)), (10, dZ), (11, dI 0), (12, .sh 2 ((a.map (krow mode names)).map RowD.d)), (13, .ov ov), (15, dN k), (56, dN k), (57, .sh 2 (b.map RowD.d)), (58, dN b.length), (59, dB (decide (((k : Nat) : Int) < ((b.length : Nat) : Int)))), (62, .ov ov), (63, dI mode), (64, .sh 1 (names.map D.s)), (65, .sh 2 (b.map RowD.d)), (66, dN k), (67, .el (RowD.d x2) 0), (68, .el (RowD.d x2) 0), (69, .sh 2 (x2.ls.map Lbl.d)), (70, .sh 2 ((keyL mode names x2.ls).map Lbl.d))]) [.sl v10 2 62 ((keyL mode names x2.ls).map Lbl.d)] (H1 := [.sl ov 2 53 (o.map RowD.d)]) (H1' := [.sl ov 2 53 (o.map RowD.d)]) ⟨⟨_, rfl, ArgC.id⟩, ⟨_, rfl, ArgC.id⟩, ⟨_, rfl, ArgC.id⟩, ⟨_, rfl, ArgC.id⟩, ⟨_, rfl, ArgC.id⟩, ⟨_, rfl, ArgC.id⟩, ⟨_, rfl, ArgC.id⟩, ⟨_, rfl, ArgC.id⟩, ⟨_, rfl, ArgC.id⟩, ⟨_, rfl, ArgC.id⟩, ⟨_, rfl, ArgC.id⟩, ⟨_, rfl, ArgC.id⟩, ⟨_, rfl, ArgC.id⟩, ⟨_, rfl, ArgC.id⟩, ⟨_, rfl, ArgC.id⟩, ⟨_, rfl, ArgC.id⟩, ⟨_, rfl, ArgC.id⟩, ⟨_, rfl, ArgC.id⟩, ⟨_, rfl, ArgC.id⟩, ⟨_, rfl, ArgC.id⟩, ⟨_, rfl, ArgC.id⟩, ⟨_, rfl, ArgC.id⟩, ⟨_, rfl, ArgC.own (j := 0) rfl rfl⟩, trivial⟩ (.same .nil)) ?_)
          refine oP rfl (zbx [0] [.tmp 70] (zv := (.agg #[(.slice none 0 0), (.int .i64 0)])) rfl rfl (.cons CellD.sh .nil) (Tryz.runUnderlying53) Tryz.zeroValue53 zbQ ⟨rfl, rfl, trivial⟩ rfl) (oE rfl (zJ [.tmp 71] rfl rfl (.cons CellD.agg .nil) rfl Tryz.runUnderlying22 Tryz.sizeOf53 Tryz.zeroValue53 rfl rfl rfl rfl) ?_)
          rintro _ _ ⟨g11, rfl, rfl⟩
          refine oE rfl (zK (f := RowD.d) (l := o) (l' := [(RowD.mk (keyL mode names x2.ls) 0)]) (i := 1) rfl rfl rfl (SrcD.own (j := 0) rfl rfl) zao z9 rfl rfl (by unfold maxLen; (try simp only [la, lc, ln, lm, lt', ld, ls, lr]); omega) (by (try simp only [la, lc, ln, lm, lt', ld, ls, lr]); omega)) ?_
          rintro _ _ ⟨v12, rfl, rfl⟩
          refine on rfl (oR 1 rfl (zg rfl (zw (zc (za rfl (oR 1 rfl (oP rfl (zS (c := ((k + 1 : Nat) : Int)) rfl rfl (zF (by omega) (by omega))) (oR 1 rfl (zg rfl (PD.subH (HSub.perm (zk (i := 1) rfl)) (pn rfl (PD.subH (HSub.fst 1 rfl) (pn rfl ?_)))))))))))))
          exact pl3 (k + 1) v12 (o ++ [(RowD.mk (keyL mode names x2.ls) 0)]) (sa rfl) HSub.rfl' ⟨by show k + 1 ≤ b.length; omega, krow_snoc hx2 ho⟩ (by omega)
        · skip
          refine JD.norm [.sl ov 2 53 ((b.map (krow mode names)).map RowD.d)] (by rw [ho, List.take_of_length_le (by omega)]) (JD.mv (Mv.freeze (K' := [(0, .s op), (1, .sh 2 (a.map RowD.d)), (2, .sh 2 (b.map RowD.d)), (3, dI mode), (4, .sh 1 (names.map D.s)), (10, dZ), (11, dI 0), (12, .sh 2 ((a.map (krow mode names)).map RowD.d)), (13, .sh 2 ((b.map (krow mode names)).map RowD.d)), (15, dN k), (56, dN k), (57, .sh 2 (b.map RowD.d)), (58, dN b.length), (59, dB (decide (((k : Nat) : Int) < ((b.length : Nat) : Int))))]) [.sl ov 2 53 ((b.map (krow mode names)).map RowD.d)] (H1 := []) (H1' := []) ⟨⟨_, rfl, ArgC.id⟩, ⟨_, rfl, ArgC.id⟩, ⟨_, rfl, ArgC.id⟩, ⟨_, rfl, ArgC.id⟩, ⟨_, rfl, ArgC.id⟩, ⟨_, rfl, ArgC.id⟩, ⟨_, rfl, ArgC.id⟩, ⟨_, rfl, ArgC.id⟩, ⟨_, rfl, ArgC.own (j := 0) rfl rfl⟩, ⟨_, rfl, ArgC.id⟩, ⟨_, rfl, ArgC.id⟩, ⟨_, rfl, ArgC.id⟩, ⟨_, rfl, ArgC.id⟩, ⟨_, rfl, ArgC.id⟩, trivial⟩ .nil) ?_)
          have hkxb : (b.map (krow mode names)).length = b.length := List.length_map _
          clear ho hkl hol
          refine zE rfl (zr (zn (zh (zc (jT rfl (oR 1 rfl (oE rfl (zx [] _ [] rfl rfl (.cons ArgC.id .nil) zo Tryz.call50 (zcE (a.map (krow mode names)) (by omega)) (.inl rfl)) ?_)))))))
          rintro _ _ ⟨_, ⟨v13, rfl, rfl⟩, rfl⟩
          refine on rfl (oR 5 rfl (oZ rfl (jk [0, 1, 2, 10, 11, 12, 13, 17] rfl (jT rfl (oR 1 rfl (oE rfl (zx [] _ [] rfl rfl (.cons ArgC.id .nil) zo Tryz.call50 (zcE (b.map (krow mode names)) (by omega)) (.inl rfl)) ?_))))))
          rintro _ _ ⟨_, ⟨v14, rfl, rfl⟩, rfl⟩
          refine on rfl (oR 5 rfl (oZ rfl (jS rfl (jS rfl (jk [0, 1, 2, 10, 11, 12, 13, 17, 19] rfl ?_)))))
          refine zab 89 ((decide (ordE (a.map (krow mode names)) ≠ (0 : Int)) || decide (ordE (b.map (krow mode names)) ≠ (0 : Int)))) [.sl v14 2 53 ((ordL (b.map (krow mode names))).map RowD.d), .sl v13 2 53 ((ordL (a.map (krow mode names))).map RowD.d)] (fun _ hQ15 => ?_) ?_
          · skip
            by_cases hg16 : ordE (a.map (krow mode names)) ≠ (0 : Int)
            · skip
              refine za rfl (oR 1 rfl (oP rfl (zau rfl rfl (decide_eq_true hg16)) (oR 4 rfl (zg rfl ?_))))
              exact PD.sub ((89, dB (decide (ordE (a.map (krow mode names)) ≠ (0 : Int)) || decide (ordE (b.map (krow mode names)) ≠ (0 : Int)))) :: [(0, .s op), (1, .sh 2 (a.map RowD.d)), (2, .sh 2 (b.map RowD.d)), (10, dZ), (11, dI 0), (12, .sh 2 ((a.map (krow mode names)).map RowD.d)), (13, .sh 2 ((b.map (krow mode names)).map RowD.d)), (17, dI (ordE (a.map (krow mode names)))), (19, dI (ordE (b.map (krow mode names))))]) ⟨sc rfl (Cv.eq (congrArg (fun b => D.v (.bool b)) (by first | (simp [hc9, hg16]; done) | (simp_all; done)))), sk rfl, sk rfl, sk rfl, sk rfl, sk rfl, sk rfl, sk rfl, sk rfl, sk rfl, trivial⟩ hQ15
            · skip
              refine za rfl (oR 1 rfl (oP rfl (zau rfl rfl (decide_eq_false hg16)) (oR 2 rfl (oG rfl (zau rfl rfl rfl) (oR 1 rfl (zg rfl ?_))))))
              exact PD.sub ((89, dB (decide (ordE (a.map (krow mode names)) ≠ (0 : Int)) || decide (ordE (b.map (krow mode names)) ≠ (0 : Int)))) :: [(0, .s op), (1, .sh 2 (a.map RowD.d)), (2, .sh 2 (b.map RowD.d)), (10, dZ), (11, dI 0), (12, .sh 2 ((a.map (krow mode names)).map RowD.d)), (13, .sh 2 ((b.map (krow mode names)).map RowD.d)), (17, dI (ordE (a.map (krow mode names)))), (19, dI (ordE (b.map (krow mode names))))]) ⟨sc rfl (Cv.eq (congrArg (fun b => D.v (.bool b)) (by first | (simp [hc9, hg16]; done) | (simp_all; done)))), sk rfl, sk rfl, sk rfl, sk rfl, sk rfl, sk rfl, sk rfl, sk rfl, sk rfl, trivial⟩ hQ15
          · skip
            refine zc ?_
            refine jC rfl (fun hc17 => ?_) (fun hc17 => ?_)
            · simp only [bA, bB, bC, bD, bE, bF, bG, bH, bI, bJ] at hc17
              have hnn : ¬ (ndT mode names a ∧ ndT mode names b) := by have h := hc17; rw [← krow_nd hvr.1, ← krow_nd hvr.2]; intro e; rcases h with h | h; exact h e.1; exact h e.2
              refine jT rfl (oR 2 rfl (oZ rfl (zs rfl (ze (PD.subH (HSub.nil 2 53) (PD.norm [.sl (.slice none 0 0) 2 53 ((zp op a b mode names).map RowD.d), .sl v14 2 53 ((ordL (b.map (krow mode names))).map RowD.d), .sl v13 2 53 ((ordL (a.map (krow mode names))).map RowD.d)] (by have hw : [] = zp op a b mode names := (by first | exact (zaE hgood hnn).1 | exact (zaE hgood hnn).2); rw [show ([] : List D) = List.map RowD.d (zp op a b mode names) from congrArg (List.map RowD.d) hw]) ?_))))))
              exact zj Tryz.results21 (.cons (zB (zf rfl) (Cv.ov rfl)) (.cons (zB (zf rfl) (Cv.eq (congrArg (fun n => D.v (.int .i64 n)) (by first | exact (zaE hgood hnn).1 | exact (zaE hgood hnn).2)))) .nil)) rfl (HSub.fst 1 rfl) ⟨(.slice none 0 0), rfl, rfl⟩
            · simp only [bA, bB, bC, bD, bE, bF, bG, bH, bI, bJ] at hc17
              have hnn : ndT mode names a ∧ ndT mode names b := by have h := hc17; rw [← krow_nd hvr.1, ← krow_nd hvr.2]; first | exact h | exact ⟨Decidable.not_not.1 h.1, Decidable.not_not.1 h.2⟩ | (simp at h; exact h) | omega
              refine zq rfl (zc (jT rfl (oR 1 rfl (oZ rfl (jS rfl (jT rfl (oR 1 rfl (oZ rfl (jB rfl (JD.subH (HSub.fst 0 rfl) (jn rfl (jl3 (fun (a_ : Nat) (b_ : Value) (c_ : List RowD) => [(0, .s op), (1, .sh 2 (a.map RowD.d)), (2, .sh 2 (b.map RowD.d)), (12, .sh 2 ((a.map (krow mode names)).map RowD.d)), (13, .sh 2 ((b.map (krow mode names)).map RowD.d)), (21, dN a_), (20, .ov b_)]) (fun a_ b_ c_ => [.sl b_ 2 53 (c_.map RowD.d)]) (fun a_ b_ c_ => (a_ ≤ a.length) ∧ (c_ = zbM op mode names b (a.take a_)) ∧ (zaD (maF op mode names b) (a.take a_) = 0)) (fun a_ b_ c_ => a.length - a_) 0 (.slice none 0 0) [] rfl ⟨sk rfl, sk rfl, sk rfl, sk rfl, sk rfl, sk rfl, sc rfl (Cv.ov rfl), trivial⟩ (HSub.nil 2 53) ⟨Nat.zero_le _, rfl, rfl⟩ ?_))))))))))))
              rintro k ov o ⟨hkl, ho, he⟩
              refine ja rfl (jn rfl ?_)
              have hol : o.length ≤ k := by rw [ho]; exact Nat.le_trans (maOut_len _ _ _ _ _) (by rw [List.length_take]; omega)
              refine jS rfl (jT rfl (oR 2 rfl (oP rfl (zae (n := a.length) rfl Tryz.runUnderlying22 (by simp only [lm, lc, ln])) (oP rfl (zL rfl rfl rfl) (oZ rfl ?_)))))
              refine jD rfl (fun hc18 => ?_) (fun hc18 => ?_)
              · skip
                obtain ⟨x1, hx1⟩ := zG a k (by omega)
                have hokx1 := zcM hvr.1 x1 (zav hx1)
                have hklx1 := zci hokx1
                refine zq rfl (zc (jS rfl (jB rfl (jT rfl (oR 1 rfl (oZ rfl (jB rfl (jl3 (fun (a_ : Nat) (b_ : Value) (c_ : List RowD) => [(0, .s op), (1, .sh 2 (a.map RowD.d)), (2, .sh 2 (b.map RowD.d)), (12, .sh 2 ((a.map (krow mode names)).map RowD.d)), (13, .sh 2 ((b.map (krow mode names)).map RowD.d)), (21, dN k), (90, dN k), (91, .sh 2 (a.map RowD.d)), (92, dN a.length), (93, dB (decide (((k : Nat) : Int) < ((a.length : Nat) : Int)))), (22, dN a_), (20, .ov b_)]) (fun a_ b_ c_ => [.sl b_ 2 53 (c_.map RowD.d)]) (fun a_ b_ c_ => (a_ ≤ b.length) ∧ (MaK op mode names b o x1 a_ c_)) (fun a_ b_ c_ => b.length - a_) 0 ov o rfl (sa rfl) HSub.rfl' ⟨Nat.zero_le _, MaK.zero _ _ _ _ _ _⟩ ?_))))))))
                rintro j uv o2 ⟨hjl, hm⟩
                refine ja rfl (jn rfl ?_)
                have hol2 : o2.length ≤ o.length + 1 := by rw [hm.o, List.length_append]; have : ∀ z : Option RowD, z.toList.length ≤ 1 := fun z => (by cases z <;> simp); have := this (zbr op mode names (b.take j) x1); omega
                refine jS rfl (jT rfl (oR 2 rfl (oP rfl (zae (n := b.length) rfl Tryz.runUnderlying22 (by simp only [lm, lc, ln])) (oP rfl (zL rfl rfl rfl) (oZ rfl ?_)))))
                refine jD rfl (fun hc19 => ?_) (fun hc19 => ?_)
                · skip
                  refine zq rfl (zc (jS rfl (jB rfl (jS rfl (jS rfl ?_)))))
                  obtain ⟨x3, hx3⟩ := zG (a.map (krow mode names)) k (by omega)
                  have hex3 : x3.ls = keyL mode names x1.ls := by rw [krow_get hx1 hx3]
                  obtain ⟨x4, hx4⟩ := zG (b.map (krow mode names)) j (by omega)
                  obtain ⟨x5, hx5⟩ := zG b j (by omega)
                  have hokx5 := zcM hvr.2 x5 (zav hx5)
                  have hklx5 := zci hokx5
                  have hex4 : x4.ls = keyL mode names x5.ls := by rw [krow_get hx5 hx4]
                  refine jk [0, 1, 2, 12, 13, 20, 21, 22, 90, 91, 92, 93, 96, 97, 98, 99] rfl (jn rfl (z3 10 [(102, .sh 2 ((a.map (krow mode names)).map RowD.d), none), (103, dN k, none), (104, .el (RowD.d x3) 0, none), (105, .el (RowD.d x3) 0, none), (106, .sh 2 (x3.ls.map Lbl.d), none), (107, .sh 2 ((b.map (krow mode names)).map RowD.d), none), (108, dN j, none), (109, .el (RowD.d x4) 0, none), (110, .el (RowD.d x4) 0, none), (111, .sh 2 (x4.ls.map Lbl.d), none)] [.sl uv 2 53 (o2.map RowD.d)] (Hn := [.sl uv 2 53 (o2.map RowD.d)]) zah rfl rfl rfl rfl HSub.rfl' rfl ⟨sa_p rfl rfl rfl (zm rfl), sa_p rfl rfl rfl (zm rfl), sa_p rfl rfl rfl (zC (k := k) rfl rfl Tryz.runUnderlying22 Tryz.sizeOf53 (by first | rfl | omega) (zt hx3)), sa_p rfl rfl rfl (zD rfl z2 rfl), sa_p rfl rfl rfl (zH rfl Tryz.isAgg50 rfl), sa_p rfl rfl rfl (zm rfl), sa_p rfl rfl rfl (zm rfl), sa_p rfl rfl rfl (zC (k := j) rfl rfl Tryz.runUnderlying22 Tryz.sizeOf53 (by first | rfl | omega) (zt hx4)), sa_p rfl rfl rfl (zD rfl z2 rfl), sa_p rfl rfl rfl (zH rfl Tryz.isAgg50 rfl), trivial⟩ (ok [0, 1, 2, 12, 13, 20, 21, 22, 90, 91, 92, 93, 96, 97, 98, 99, 102, 103, 104, 105, 106, 107, 108, 109, 110, 111] rfl (oW rfl rfl acs Tryz.call54 (zb7 x3.ls x4.ls) (oP rfl (zau rfl rfl rfl) (oZ rfl ?_))))))
                  refine jD rfl (fun hc20 => ?_) (fun hc20 => ?_)
                  · skip
                    have hsk : ¬ z1 (keyL mode names x1.ls) (keyL mode names x5.ls) = 0 := by have h := hc20; rw [hex3, hex4] at h; exact h
                    refine zE rfl (zr (zh (zc (za rfl (oR 1 rfl (oP rfl (zS (c := ((j + 1 : Nat) : Int)) rfl rfl (zF (by omega) (by omega))) (oR 1 rfl (zg rfl (pn rfl ?_)))))))))
                    exact pl3 (j + 1) uv o2 (sa rfl) HSub.rfl' ⟨by show j + 1 ≤ b.length; omega, hm.skip hx5 (fun e => hsk ((key_cmp hokx5 hokx1).2 e))⟩ (by omega)
                  · skip
                    have hkq : keyT mode names x5 = keyT mode names x1 := (key_cmp hokx5 hokx1).1 (by have h := hc20; rw [hex3, hex4] at h; first | exact h | exact Decidable.not_not.1 h | omega)
                    have hfb := hm.base hnn.2 hx5 hkq
                    have hfq := hfb.2
                    have hfe : maF op mode names b x1 = doE op x1.v x5.v := zaA hfq.2
                    refine zq rfl (zc (jS rfl (jk [0, 1, 2, 12, 13, 20, 21, 22, 90, 91, 92, 93, 96, 97, 98, 99, 102, 103, 104, 105, 106, 107, 108, 109, 110, 111, 112, 113] rfl (jn rfl ?_))))
                    refine z3 16 [(115, .s op, none), (116, .sh 2 (a.map RowD.d), none), (117, dN k, none), (118, .el (RowD.d x1) 0, none), (119, .el (RowD.d x1) 1, none), (120, dI x1.v, none), (121, .sh 2 (b.map RowD.d), none), (122, dN j, none), (123, .el (RowD.d x5) 0, none), (124, .el (RowD.d x5) 1, none), (125, dI x5.v, none), (126, .tup [dI ((doE op x1.v x5.v).1), dI ((doE op x1.v x5.v).2)], none), (114, .tup [dI ((doE op x1.v x5.v).1), dI ((doE op x1.v x5.v).2)], none), (127, dI ((doE op x1.v x5.v).1), none), (128, dI ((doE op x1.v x5.v).2), none), (23, dI ((doE op x1.v x5.v).1), none)] [.sl uv 2 53 (o2.map RowD.d)] (Hn := [.sl uv 2 53 (o2.map RowD.d)]) zah rfl rfl rfl rfl HSub.rfl' rfl ⟨sa_p rfl rfl rfl (zm rfl), sa_p rfl rfl rfl (zm rfl), sa_p rfl rfl rfl (zm rfl), sa_p rfl rfl rfl (zC (k := k) rfl rfl Tryz.runUnderlying22 Tryz.sizeOf53 (by first | rfl | omega) (zt hx1)), sa_p rfl rfl rfl (zD rfl zaj rfl), sa_p rfl rfl rfl (zH rfl Tryz.isAgg3 rfl), sa_p rfl rfl rfl (zm rfl), sa_p rfl rfl rfl (zm rfl), sa_p rfl rfl rfl (zC (k := j) rfl rfl Tryz.runUnderlying22 Tryz.sizeOf53 (by first | rfl | omega) (zt hx5)), sa_p rfl rfl rfl (zD rfl zaj rfl), sa_p rfl rfl rfl (zH rfl Tryz.isAgg3 rfl), sa_q rfl rfl rfl (zbw rfl (.cons Cv.rfl' (.cons Cv.rfl' (.cons Cv.rfl' .nil))) Tryz.call52 (refDo_c op x1.v x5.v) zbn), sa_p rfl rfl rfl (zm rfl), sa_p rfl rfl rfl (zc3 rfl rfl), sa_p rfl rfl rfl (zc3 rfl rfl), sa_p rfl rfl rfl (zdu rfl), trivial⟩ ?_
                    refine ok [0, 1, 2, 12, 13, 20, 21, 22, 23, 90, 91, 92, 93, 96, 97, 98, 99, 102, 103, 104, 105, 106, 107, 108, 109, 110, 111, 112, 113, 114, 115, 116, 117, 118, 119, 120, 121, 122, 123, 124, 125, 126, 127, 128] rfl (oR 1 rfl (oZ rfl (jS rfl (jT rfl (oR 1 rfl (oP rfl (zau rfl rfl rfl) (oZ rfl ?_)))))))
                    refine jD rfl (fun hc21 => ?_) (fun hc21 => ?_)
                    · skip
                      refine jT rfl (oR 3 rfl (oZ rfl (zs rfl (ze (zi (ze (zQ (zi (zi (ze (zQ (zi (ze (PD.subH (HSub.nil 2 53) (PD.norm [.sl (.slice none 0 0) 2 53 ((zp op a b mode names).map RowD.d), .sl uv 2 53 (o2.map RowD.d)] (by have hw : [] = zp op a b mode names := (by first | exact (zcu hgood hnn hx1 he (by rw [hfe]; have h := hc21; omega)).1 | exact (zcu hgood hnn hx1 he (by rw [hfe]; have h := hc21; omega)).2 | (rw [← hfe]; exact (zcu hgood hnn hx1 he (by rw [hfe]; have h := hc21; omega)).2)); rw [show ([] : List D) = List.map RowD.d (zp op a b mode names) from congrArg (List.map RowD.d) hw]) ?_)))))))))))))))
                      exact zj Tryz.results21 (.cons (zB (zf rfl) (Cv.ov rfl)) (.cons (zB (zf rfl) (Cv.eq (congrArg (fun n => D.v (.int .i64 n)) (by first | exact (zcu hgood hnn hx1 he (by rw [hfe]; have h := hc21; omega)).1 | exact (zcu hgood hnn hx1 he (by rw [hfe]; have h := hc21; omega)).2 | (rw [← hfe]; exact (zcu hgood hnn hx1 he (by rw [hfe]; have h := hc21; omega)).2))))) .nil)) rfl (HSub.fst 1 rfl) ⟨(.slice none 0 0), rfl, rfl⟩
                    · skip
                      refine zq rfl (zc (jT rfl (oR 1 rfl (oW rfl rfl acs Tryz.call53 (zW op) (oP rfl (zaP rfl) (oZ rfl ?_))))))
                      refine jC rfl (fun hc22 => ?_) (fun hc22 => ?_)
                      · simp only [bA, bB, bC, bD, bE, bF, bG, bH, bI, bJ] at hc22
                        refine za rfl (oR 3 rfl (oP rfl (zC (k := k) rfl rfl Tryz.runUnderlying22 Tryz.sizeOf53 (by first | rfl | omega) (zt hx3)) (oP rfl (zD rfl z2 rfl) (oP rfl (zH rfl Tryz.isAgg50 rfl) (oR 1 rfl (oP rfl (zbx [0, 1] [.tmp 140, .tmp 141] (zv := (.agg #[(.slice none 0 0), (.int .i64 0)])) rfl rfl (.cons CellD.sh (.cons (CellD.v rfl) .nil)) (Tryz.runUnderlying53) Tryz.zeroValue53 zbQ ⟨rfl, rfl, trivial⟩ rfl) (oE rfl (zJ [.tmp 142] rfl rfl (.cons CellD.agg .nil) rfl Tryz.runUnderlying22 Tryz.sizeOf53 Tryz.zeroValue53 rfl rfl rfl rfl) ?_)))))))
                        rintro _ _ ⟨g23, rfl, rfl⟩
                        refine oE rfl (zK (f := RowD.d) (l := o2) (l' := [(RowD.mk x3.ls ((doE op x1.v x5.v).1))]) (i := 1) rfl rfl rfl (SrcD.own (j := 0) rfl rfl) zao z9 rfl rfl (by unfold maxLen; (try simp only [la, lc, ln, lm, lt', ld, ls, lr]); omega) (by (try simp only [la, lc, ln, lm, lt', ld, ls, lr]); omega)) ?_
                        rintro _ _ ⟨v24, rfl, rfl⟩
                        refine on rfl (oR 1 rfl (zg rfl (zw (zc (za rfl (oR 1 rfl (oP rfl (zS (c := ((j + 1 : Nat) : Int)) rfl rfl (zF (by omega) (by omega))) (oR 1 rfl (zg rfl (PD.subH (HSub.perm (zk (i := 1) rfl)) (pn rfl (PD.subH (HSub.fst 1 rfl) (pn rfl ?_)))))))))))))
                        exact pl3 (j + 1) v24 (o2 ++ [(RowD.mk x3.ls ((doE op x1.v x5.v).1))]) (sa rfl) HSub.rfl' ⟨by show j + 1 ≤ b.length; omega, hm.add hnn.2 hx5 hkq (by have h := hc21; omega) (by rw [hex3]; exact maOne_op hfq.1 hc22)⟩ (by omega)
                      · simp only [bA, bB, bC, bD, bE, bF, bG, bH, bI, bJ] at hc22
                        refine jT rfl (oR 1 rfl (oP rfl (zV rfl rfl rfl) (oZ rfl ?_)))
                        refine jD rfl (fun hc25 => ?_) (fun hc25 => ?_)
                        · skip
                          refine za rfl (oR 3 rfl (oP rfl (zC (k := k) rfl rfl Tryz.runUnderlying22 Tryz.sizeOf53 (by first | rfl | omega) (zt hx1)) (oP rfl (zar (d := RowD.d x1) rfl Tryz.isAgg53 Tryz.sizeOf53 rfl rfl) (oE rfl (zJ [.tmp 151] rfl rfl (.cons CellD.agg .nil) rfl Tryz.runUnderlying22 Tryz.sizeOf53 Tryz.zeroValue53 rfl rfl rfl rfl) ?_))))
                          rintro _ _ ⟨g26, rfl, rfl⟩
                          refine oE rfl (zK (f := RowD.d) (l := o2) (l' := [x1]) (i := 1) rfl rfl rfl (SrcD.own (j := 0) rfl rfl) zao z9 rfl rfl (by unfold maxLen; (try simp only [la, lc, ln, lm, lt', ld, ls, lr]); omega) (by (try simp only [la, lc, ln, lm, lt', ld, ls, lr]); omega)) ?_
                          rintro _ _ ⟨v27, rfl, rfl⟩
                          refine on rfl (oR 1 rfl (zg rfl (zw (zc (za rfl (oR 1 rfl (oP rfl (zS (c := ((j + 1 : Nat) : Int)) rfl rfl (zF (by omega) (by omega))) (oR 1 rfl (zg rfl (PD.subH (HSub.perm (zk (i := 1) rfl)) (pn rfl (PD.subH (HSub.fst 1 rfl) (pn rfl ?_)))))))))))))
                          exact pl3 (j + 1) v27 (o2 ++ [x1]) (sa rfl) HSub.rfl' ⟨by show j + 1 ≤ b.length; omega, hm.add hnn.2 hx5 hkq (by have h := hc21; omega) (maOne_cmp hfq.1 hc22 hc25)⟩ (by omega)
                        · skip
                          refine zq rfl (zw (zc (za rfl (oR 1 rfl (oP rfl (zS (c := ((j + 1 : Nat) : Int)) rfl rfl (zF (by omega) (by omega))) (oR 1 rfl (zg rfl (pn rfl ?_))))))))
                          exact pl3 (j + 1) uv o2 (sa rfl) HSub.rfl' ⟨by show j + 1 ≤ b.length; omega, hm.not hnn.2 hx5 hkq (by have h := hc21; omega) (maOne_no hfq.1 hc22 hc25)⟩ (by omega)
                · skip
                  refine zE rfl (zr (zn (zh (zw (zc (za rfl (oR 1 rfl (oP rfl (zS (c := ((k + 1 : Nat) : Int)) rfl rfl (zF (by omega) (by omega))) (oR 1 rfl (zg rfl (pn rfl ?_)))))))))))
                  have hmd := hm.done (by omega) hx1 ho he
                  exact pl3 (k + 1) uv o2 (sa rfl) HSub.rfl' ⟨by show k + 1 ≤ a.length; omega, hmd.1, hmd.2⟩ (by omega)
              · skip
                refine zE rfl (zr (zn (zh (zc (jk [20] rfl (jS rfl (JD.mv (Mv.freeze (K' := [(20, .sh 2 (o.map RowD.d))]) [.sl ov 2 53 (o.map RowD.d)] (H1 := []) (H1' := []) ⟨⟨_, rfl, ArgC.own (j := 0) rfl rfl⟩, trivial⟩ .nil) (za rfl (oR 1 rfl (oE rfl (zx [] _ [] rfl rfl (.cons ArgC.id .nil) zo Tryz.call50 (zcE o (by omega)) (.inl rfl)) ?_))))))))))
                rintro _ _ ⟨_, ⟨v28, rfl, rfl⟩, rfl⟩
                refine on rfl (oR 4 rfl (oZ rfl (zs rfl (PD.norm [.sl v28 2 53 ((zp op a b mode names).map RowD.d)] (by have hw : ordL o = zp op a b mode names := (by first | (rw [ho]; exact (ma_ord hgood hnn he (by omega)).1) | (rw [ho]; exact (ma_ord hgood hnn he (by omega)).2)); rw [hw]) ?_))))
                exact zj Tryz.results21 (.cons (zf rfl) (.cons (zB (zf rfl) (Cv.eq (congrArg (fun n => D.v (.int .i64 n)) (by first | (rw [ho]; exact (ma_ord hgood hnn he (by omega)).1) | (rw [ho]; exact (ma_ord hgood hnn he (by omega)).2))))) .nil)) rfl (HSub.fst 1 rfl) ⟨v28, rfl, rfl⟩
end Lp
