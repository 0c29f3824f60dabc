/- Walks, printed by a program of mine. -/
import Derived.Test.YtfjinapgehafiaaGreatV62
set_option linter.unusedSimpArgs false
set_option linter.unusedVariables false
set_option maxHeartbeats 4000000
set_option maxRecDepth 100000
namespace Lp
open Go Go.RowKit Go.Proofs

namespace HdYtfjinapgehafiaaGreatV63
theorem zbQ : ∀ w, ((#[⟨"Labels", 50, 0, false, "", "", 0⟩, ⟨"V", 3, 1, false, "", "", 24⟩] : Array Field).mapM fun f => do pure (f.offset, ← Go.sizeOf f.type) : Sem (Array (Nat × Nat))).run Tryz.prog w = .ok ([(0, 1), (1, 1)] : List (Nat × Nat)).toArray w := fun _ => by kernel_rfl
theorem z2 (b o : Nat) : ∀ w, (Instr.fieldAt 53 (.pointer (some ⟨b, o, none⟩)) 0).run Tryz.prog w = .ok (.pointer (some ⟨b, o + 0, none⟩)) w := fun _ => by kernel_rfl
theorem zaj (b o : Nat) : ∀ w, (Instr.fieldAt 53 (.pointer (some ⟨b, o, none⟩)) 1).run Tryz.prog w = .ok (.pointer (some ⟨b, o + 1, none⟩)) w := fun _ => by kernel_rfl
theorem z9 : ∃ i, Tryz.prog.info? 53 = some i ∧ i.zero = some (.agg #[(.slice none 0 0), (.int .i64 0)]) ∧ i.size = 2 ∧ i.bytes = 32 := zaS (by kernel_rfl)
theorem zao : Tryz.prog.underlying 22 = some (.slice 53) := by kernel_rfl
end HdYtfjinapgehafiaaGreatV63
open HdYtfjinapgehafiaaGreatV63

theorem Scale_c (op : ByteArray) (l : List RowD) (v : Int) (left : Bool)  :
    CD Tryz.prog 15 [] [.s op, .sh 2 (l.map RowD.d), dI v, dB left] (fun r H' => ∃ v0_, r = .tup [.ov v0_, dI (zX op l v left)] ∧ H' = [.sl v0_ 2 53 ((zb op l v left).map RowD.d)]) := by
  refine zy Tryz.func15 rfl (N := 78) rfl rfl (fun C => ?_)
  refine jk [0, 1, 2, 3] rfl ?_
  refine JD.bd 0 rfl (fun bd0 => ?_)
  have sz0 : op.size ≤ 9223372036854775807 := bd0
  refine JD.bd 1 rfl (fun bd1 => ?_)
  have nl1 := zZ bd1
  refine jT rfl (oR 2 rfl (oZ rfl (jS rfl (jS rfl (jk [0, 1, 2, 3, 8, 9] rfl ?_)))))
  refine zab 29 (((!(opB op) || !(zT l)) || !(zU v))) [] (fun _ hQ1 => ?_) ?_
  · skip
    rcases Bool.eq_false_or_eq_true (opB op) with hg2 | hg2
    · skip
      rcases Bool.eq_false_or_eq_true (zT l) with hg3 | hg3
      · skip
        refine za rfl (oR 1 rfl (oW rfl rfl acs Tryz.call43 (zej op) (os 18 rfl (congrArg (fun b => D.v (.bool b)) hg2) (oR 3 rfl (oV rfl rfl acs Tryz.call26 (zcD l) (os 22 rfl (congrArg (fun b => D.v (.bool b)) hg3) (oR 4 rfl (oV rfl rfl acs Tryz.call44 (zda v) (oG rfl (zaP rfl) (oR 1 rfl (zg rfl ?_)))))))))))
        exact PD.sub ((29, dB ((!(opB op) || !(zT l)) || !(zU v))) :: [(0, .s op), (1, .sh 2 (l.map RowD.d)), (2, dI v), (3, dB left), (8, dZ), (9, dI 0)]) ⟨sc rfl (Cv.eq (congrArg (fun b => D.v (.bool b)) (by first | (simp [hg2, hg3]; done) | (simp_all; done)))), sk rfl, sk rfl, sk rfl, sk rfl, sk rfl, sk rfl, trivial⟩ hQ1
      · skip
        refine za rfl (oR 1 rfl (oW rfl rfl acs Tryz.call43 (zej op) (os 18 rfl (congrArg (fun b => D.v (.bool b)) hg2) (oR 3 rfl (oV rfl rfl acs Tryz.call26 (zcD l) (os 22 rfl (congrArg (fun b => D.v (.bool b)) hg3) (oR 7 rfl (zg rfl ?_))))))))
        exact PD.sub ((29, dB ((!(opB op) || !(zT l)) || !(zU v))) :: [(0, .s op), (1, .sh 2 (l.map RowD.d)), (2, dI v), (3, dB left), (8, dZ), (9, dI 0)]) ⟨sc rfl (Cv.eq (congrArg (fun b => D.v (.bool b)) (by first | (simp [hg2, hg3]; done) | (simp_all; done)))), sk rfl, sk rfl, sk rfl, sk rfl, sk rfl, sk rfl, trivial⟩ hQ1
    · skip
      refine za rfl (oR 1 rfl (oW rfl rfl acs Tryz.call43 (zej op) (os 18 rfl (congrArg (fun b => D.v (.bool b)) hg2) (oR 11 rfl (zg rfl ?_)))))
      exact PD.sub ((29, dB ((!(opB op) || !(zT l)) || !(zU v))) :: [(0, .s op), (1, .sh 2 (l.map RowD.d)), (2, dI v), (3, dB left), (8, dZ), (9, dI 0)]) ⟨sc rfl (Cv.eq (congrArg (fun b => D.v (.bool b)) (by first | (simp [hg2]; done) | (simp_all; done)))), sk rfl, sk rfl, sk rfl, sk rfl, sk rfl, sk rfl, trivial⟩ hQ1
  · skip
    refine zc ?_
    refine jC rfl (fun hc4 => ?_) (fun hc4 => ?_)
    · simp only [bA, bB, bC, bD, bE, bF, bG, bH, bI, bJ] at hc4
      have hbad : zbi op v l = false := by unfold zbi; have h := hc4; revert h; cases opB op <;> cases zT l <;> cases zU v <;> simp
      refine jT rfl (oR 2 rfl (oZ rfl (zs rfl (ze (PD.subH (HSub.nil 2 53) (PD.norm [.sl (.slice none 0 0) 2 53 ((zb op l v left).map RowD.d)] (by have hw : [] = zb op l v left := (by first | exact (zcs (left := left) hbad).1 | exact (zcs (left := left) hbad).2 | (rw [← hsf]; exact (zcs (left := left) hbad).2)); rw [show ([] : List D) = List.map RowD.d (zb op l v left) from congrArg (List.map RowD.d) hw]) ?_))))))
      exact zj Tryz.results15 (.cons (zB (zf rfl) (Cv.ov rfl)) (.cons (zB (zf rfl) (Cv.eq (congrArg (fun n => D.v (.int .i64 n)) (by first | exact (zcs (left := left) hbad).1 | exact (zcs (left := left) hbad).2 | (rw [← hsf]; exact (zcs (left := left) hbad).2))))) .nil)) rfl (HSub.fst 1 rfl) ⟨(.slice none 0 0), rfl, rfl⟩
    · simp only [bA, bB, bC, bD, bE, bF, bG, bH, bI, bJ] at hc4
      have hgood : zbi op v l = true := by unfold zbi; simp only [Bool.and_eq_true]; have h := hc4; simp_all
      have hlen : l.length ≤ 2000 := (zaH.1 (by unfold zbi at hgood; simp only [Bool.and_eq_true] at hgood; exact hgood.2.1)).1
      refine zq rfl (zc (jT rfl (oR 1 rfl (oZ rfl (jS rfl (jT rfl (oR 1 rfl (oP rfl (zae (n := l.length) rfl Tryz.runUnderlying22 (by simp only [lm, lc, ln])) (oR 1 rfl (oZ rfl (jB rfl (jl3 (fun (a_ : Nat) (b_ : Value) (c_ : List RowD) => [(0, .s op), (2, dI v), (3, dB left), (30, .sh 2 (l.map RowD.d)), (31, dN l.length), (32, dN a_), (10, .ov b_)]) (fun a_ b_ c_ => [.sl b_ 2 53 (c_.map RowD.d)]) (fun a_ b_ c_ => (a_ ≤ l.length) ∧ (c_ = zcd op v left (l.take a_)) ∧ (zaD (scF op v left) (l.take a_) = 0)) (fun a_ b_ c_ => l.length - a_) 0 (.slice none 0 0) [] rfl ⟨sk rfl, sk rfl, sk rfl, sk rfl, sk rfl, sk rfl, sc rfl (Cv.ov rfl), trivial⟩ (HSub.nil 2 53) ⟨Nat.zero_le _, rfl, rfl⟩ ?_))))))))))))
      rintro k ov o ⟨hkl, ho, he⟩
      refine ja rfl (jn rfl ?_)
      have hol : o.length ≤ 2000 := by rw [ho]; exact Nat.le_trans (scOut_len _ _ _ _) (by rw [List.length_take]; omega)
      refine jT rfl (oP rfl (zL rfl rfl rfl) (oZ rfl (jS rfl ?_)))
      refine jD rfl (fun hc5 => ?_) (fun hc5 => ?_)
      · skip
        refine zq rfl (zc (jS rfl (jB rfl (jT rfl ?_))))
        obtain ⟨x1, hx1⟩ := zG l k (by omega)
        have hkl8 := zci (by have h := (zaH.1 (by unfold zbi at hgood; simp only [Bool.and_eq_true] at hgood; exact hgood.2.1)).2.1; rw [zdr, List.all_eq_true] at h; exact h x1 (zav hx1))
        refine oP rfl (zC (k := k) rfl rfl Tryz.runUnderlying22 Tryz.sizeOf53 (by first | rfl | omega) (zt hx1)) (oP rfl (zar (d := RowD.d x1) rfl Tryz.isAgg53 Tryz.sizeOf53 rfl rfl) (oE rfl (zaL (zv := (.agg #[(.slice none 0 0), (.int .i64 0)])) Tryz.zeroValue53 ⟨rfl, rfl, trivial⟩ (Cv.vagg (by decide))) ?_))
        rintro _ _ ⟨g6, rfl, rfl⟩
        refine oE rfl (z4 (i := 0) (X' := RowD.d x1) rfl rfl rfl (CellD.agg) Tryz.sizeOf53 rfl rfl rfl) ?_
        rintro _ _ ⟨rfl, rfl⟩
        refine on rfl (oZ rfl (jT rfl (oP rfl (zl rfl zaj rfl) (oP rfl (zz rfl (i := 0) rfl Tryz.isAgg3 rfl) (oR 3 rfl (oZ rfl (jS rfl (jT rfl (oR 1 rfl (oZ rfl ?_))))))))))
        refine jC rfl (fun hc7 => ?_) (fun hc7 => ?_)
        · skip
          have hsf : scF op v left x1 = doE op v x1.v := by unfold scF; simp [hc7]
          refine jk [0, 2, 3, 10, 12, 14, 30, 31, 32, 33, 34, 35, 36, 37, 38, 39] rfl (jn rfl (z3 4 [(40, dI v, none), (41, dP g6 1, none), (42, dI x1.v, none), (13, dI v, none)] [.bx g6 53 (RowD.d x1), .sl ov 2 53 (o.map RowD.d)] (Hn := [.bx g6 53 (RowD.d x1), .sl ov 2 53 (o.map RowD.d)]) zah rfl rfl rfl rfl HSub.rfl' rfl ⟨sa_p rfl rfl rfl (zm rfl), sa_p rfl rfl rfl (zl rfl zaj rfl), sa_p rfl rfl rfl (zz rfl (i := 0) rfl Tryz.isAgg3 rfl), sa_p rfl rfl rfl (zdu rfl), trivial⟩ (ok [0, 2, 3, 10, 12, 13, 14, 30, 31, 32, 33, 34, 35, 36, 37, 38, 39, 40, 41, 42] rfl (oR 1 rfl (oZ rfl (jT rfl (oR 3 rfl (oW rfl rfl acs Tryz.call45 (Do_c op v x1.v) (oR 5 rfl (oZ rfl (jB rfl (jT rfl (oR 1 rfl (oP rfl (zau rfl rfl rfl) (oR 1 rfl (oZ rfl ?_))))))))))))))))
          refine jD rfl (fun hc8 => ?_) (fun hc8 => ?_)
          · skip
            refine jT rfl (oR 3 rfl (oZ rfl (zs rfl (zi (zi (ze (zQ (zi (ze (PD.subH (HSub.nil 2 53) (PD.norm [.sl (.slice none 0 0) 2 53 ((zb op l v left).map RowD.d), .bx g6 53 (RowD.d x1), .sl ov 2 53 (o.map RowD.d)] (by have hw : [] = zb op l v left := (by first | exact (za7 (left := left) hgood hx1 he (by rw [hsf]; have h := hc8; omega)).1 | exact (za7 (left := left) hgood hx1 he (by rw [hsf]; have h := hc8; omega)).2 | (rw [← hsf]; exact (za7 (left := left) hgood hx1 he (by rw [hsf]; have h := hc8; omega)).2)); rw [show ([] : List D) = List.map RowD.d (zb op l v left) from congrArg (List.map RowD.d) hw]) ?_)))))))))))
            exact zj Tryz.results15 (.cons (zB (zf rfl) (Cv.ov rfl)) (.cons (zB (zf rfl) (Cv.eq (congrArg (fun n => D.v (.int .i64 n)) (by first | exact (za7 (left := left) hgood hx1 he (by rw [hsf]; have h := hc8; omega)).1 | exact (za7 (left := left) hgood hx1 he (by rw [hsf]; have h := hc8; omega)).2 | (rw [← hsf]; exact (za7 (left := left) hgood hx1 he (by rw [hsf]; have h := hc8; omega)).2))))) .nil)) rfl (HSub.fst 1 rfl) ⟨(.slice none 0 0), rfl, rfl⟩
          · skip
            refine jT rfl (oR 1 rfl (oW rfl rfl acs Tryz.call46 (Compares_c op) (oP rfl (zaP rfl) (oR 1 rfl (oZ rfl ?_)))))
            refine jC rfl (fun hc9 => ?_) (fun hc9 => ?_)
            · simp only [bA, bB, bC, bD, bE, bF, bG, bH, bI, bJ] at hc9
              refine za rfl (oR 1 rfl (oP rfl (zl rfl z2 rfl) (oP rfl (zz rfl (i := 0) rfl Tryz.isAgg50 rfl) (oE rfl (zx [] _ [] rfl rfl (.cons ArgC.id (.cons (ArgC.cv Cv.nil) (.cons ArgC.id .nil))) zo Tryz.call24 (zem 0 [] x1.ls (by omega)) (.inl rfl)) ?_))))
              rintro _ _ ⟨_, ⟨v10, rfl, rfl⟩, rfl⟩
              refine on rfl (oR 1 rfl ?_)
              refine OpsD.mv (Mv.freeze (K' := [(0, .s op), (2, dI v), (3, dB left), (10, .ov ov), (12, dP g6 0), (13, dI v), (14, dI x1.v), (15, dI ((doE op v x1.v).1)), (16, dI ((doE op v x1.v).2)), (30, .sh 2 (l.map RowD.d)), (31, dN l.length), (32, dN k), (33, dB (decide (((k : Nat) : Int) < ((l.length : Nat) : Int)))), (34, .el (RowD.d x1) 0), (35, RowD.d x1), (36, dP g6 1), (37, dI x1.v), (38, dI v), (39, dB left), (40, dI v), (41, dP g6 1), (42, dI x1.v), (43, .tup [dI ((doE op v x1.v).1), dI ((doE op v x1.v).2)]), (44, .s op), (45, dI v), (46, dI x1.v), (47, .tup [dI ((doE op v x1.v).1), dI ((doE op v x1.v).2)]), (48, dI ((doE op v x1.v).1)), (49, dI ((doE op v x1.v).2)), (50, dB (decide ((doE op v x1.v).2 ≠ (0 : Int)))), (51, dI ((doE op v x1.v).2)), (52, dB (decide ((doE op v x1.v).2 ≠ (0 : Int)))), (54, dB (!(cmpB op))), (55, .s op), (56, dB (cmpB op)), (57, dB (!(cmpB op))), (58, .ov ov), (59, dP g6 0), (60, .sh 2 (x1.ls.map Lbl.d)), (61, .sh 2 ((keyL 0 [] x1.ls).map Lbl.d)), (62, dI ((doE op v x1.v).1))]) [.sl v10 2 62 ((keyL 0 [] x1.ls).map Lbl.d)] (H1 := [.bx g6 53 (RowD.d x1), .sl ov 2 53 (o.map RowD.d)]) (H1' := [.bx g6 53 (RowD.d x1), .sl ov 2 53 (o.map RowD.d)]) ⟨⟨_, rfl, ArgC.id⟩, ⟨_, rfl, ArgC.id⟩, ⟨_, rfl, ArgC.id⟩, ⟨_, rfl, ArgC.id⟩, ⟨_, rfl, ArgC.id⟩, ⟨_, rfl, ArgC.id⟩, ⟨_, rfl, ArgC.id⟩, ⟨_, rfl, ArgC.id⟩, ⟨_, rfl, ArgC.id⟩, ⟨_, rfl, ArgC.id⟩, ⟨_, rfl, ArgC.id⟩, ⟨_, rfl, ArgC.id⟩, ⟨_, rfl, ArgC.id⟩, ⟨_, rfl, ArgC.id⟩, ⟨_, rfl, ArgC.id⟩, ⟨_, rfl, ArgC.id⟩, ⟨_, rfl, ArgC.id⟩, ⟨_, rfl, ArgC.id⟩, ⟨_, rfl, ArgC.id⟩, ⟨_, rfl, ArgC.id⟩, ⟨_, rfl, ArgC.id⟩, ⟨_, rfl, ArgC.id⟩, ⟨_, rfl, ArgC.id⟩, ⟨_, rfl, ArgC.id⟩, ⟨_, rfl, ArgC.id⟩, ⟨_, rfl, ArgC.id⟩, ⟨_, rfl, ArgC.id⟩, ⟨_, rfl, ArgC.id⟩, ⟨_, rfl, ArgC.id⟩, ⟨_, rfl, ArgC.id⟩, ⟨_, rfl, ArgC.id⟩, ⟨_, rfl, ArgC.id⟩, ⟨_, rfl, ArgC.id⟩, ⟨_, rfl, ArgC.id⟩, ⟨_, rfl, ArgC.id⟩, ⟨_, rfl, ArgC.id⟩, ⟨_, rfl, ArgC.id⟩, ⟨_, rfl, ArgC.id⟩, ⟨_, rfl, ArgC.id⟩, ⟨_, rfl, ArgC.own (j := 0) rfl rfl⟩, ⟨_, rfl, ArgC.id⟩, trivial⟩ (.same (.same .nil))) ?_
              refine oP rfl (zbx [0, 1] [.tmp 61, .tmp 62] (zv := (.agg #[(.slice none 0 0), (.int .i64 0)])) rfl rfl (.cons CellD.sh (.cons (CellD.v rfl) .nil)) (Tryz.runUnderlying53) Tryz.zeroValue53 zbQ ⟨rfl, rfl, trivial⟩ rfl) (oE rfl (zJ [.tmp 63] rfl rfl (.cons CellD.agg .nil) rfl Tryz.runUnderlying22 Tryz.sizeOf53 Tryz.zeroValue53 rfl rfl rfl rfl) ?_)
              rintro _ _ ⟨g11, rfl, rfl⟩
              refine oE rfl (zK (f := RowD.d) (l := o) (l' := [(RowD.mk (keyL 0 [] x1.ls) ((doE op v x1.v).1))]) (i := 2) rfl rfl rfl (SrcD.own (j := 0) rfl rfl) zao z9 rfl rfl (by unfold maxLen; (try simp only [la, lc, ln, lm, lt', ld, ls, lr]); omega) (by (try simp only [la, lc, ln, lm, lt', ld, ls, lr]); omega)) ?_
              rintro _ _ ⟨v12, rfl, rfl⟩
              refine on rfl (oR 1 rfl (zg rfl (zw (zw (zc (za rfl (oP rfl (zS (c := ((k + 1 : Nat) : Int)) rfl rfl (zF (by omega) (by omega))) (oR 1 rfl (zg rfl (PD.subH (HSub.perm (zk (i := 2) rfl)) (pn rfl (PD.subH (HSub.fst 1 rfl) (pn rfl ?_)))))))))))))
              exact pl3 (k + 1) v12 (o ++ [(RowD.mk (keyL 0 [] x1.ls) ((doE op v x1.v).1))]) (sa rfl) HSub.rfl' ⟨by show k + 1 ≤ l.length; omega, by rw [zbY (y := (RowD.mk (keyL 0 [] x1.ls) ((doE op v x1.v).1))) hx1 (by simp [zbL, hsf, hc9]), ← ho], zak hx1 he (by rw [hsf]; have h := hc8; omega)⟩ (by omega)
            · simp only [bA, bB, bC, bD, bE, bF, bG, bH, bI, bJ] at hc9
              refine jT rfl (oR 1 rfl (oP rfl (zV rfl rfl rfl) (oR 1 rfl (oZ rfl ?_))))
              refine jD rfl (fun hc13 => ?_) (fun hc13 => ?_)
              · skip
                refine za rfl (oR 1 rfl (oP rfl (za0 (d := RowD.d x1) rfl (i := 0) rfl Tryz.isAgg53 Tryz.sizeOf53 rfl rfl) (oE rfl (zJ [.tmp 70] rfl rfl (.cons CellD.agg .nil) rfl Tryz.runUnderlying22 Tryz.sizeOf53 Tryz.zeroValue53 rfl rfl rfl rfl) ?_)))
                rintro _ _ ⟨g14, rfl, rfl⟩
                refine oE rfl (zK (f := RowD.d) (l := o) (l' := [x1]) (i := 2) rfl rfl rfl (SrcD.own (j := 0) rfl rfl) zao z9 rfl rfl (by unfold maxLen; (try simp only [la, lc, ln, lm, lt', ld, ls, lr]); omega) (by (try simp only [la, lc, ln, lm, lt', ld, ls, lr]); omega)) ?_
                rintro _ _ ⟨v15, rfl, rfl⟩
                refine on rfl (oR 1 rfl (zg rfl (zw (zw (zc (za rfl (oP rfl (zS (c := ((k + 1 : Nat) : Int)) rfl rfl (zF (by omega) (by omega))) (oR 1 rfl (zg rfl (PD.subH (HSub.perm (zk (i := 2) rfl)) (pn rfl (PD.subH (HSub.fst 1 rfl) (pn rfl ?_)))))))))))))
                exact pl3 (k + 1) v15 (o ++ [x1]) (sa rfl) HSub.rfl' ⟨by show k + 1 ≤ l.length; omega, by rw [zbY (y := x1) hx1 (by simp [zbL, hsf, hc9, hc13]), ← ho], zak hx1 he (by rw [hsf]; have h := hc8; omega)⟩ (by omega)
              · skip
                refine zq rfl (zw (zw (zc (za rfl (oP rfl (zS (c := ((k + 1 : Nat) : Int)) rfl rfl (zF (by omega) (by omega))) (oR 1 rfl (zg rfl (PD.subH (HSub.perm (zk (i := 1) rfl)) (pn rfl (PD.subH (HSub.fst 1 rfl) (pn rfl ?_)))))))))))
                exact pl3 (k + 1) ov o (sa rfl) HSub.rfl' ⟨by show k + 1 ≤ l.length; omega, by rw [scOut_not hx1 (by simp [zbL, hsf, hc9, hc13]), ← ho], zak hx1 he (by rw [hsf]; have h := hc8; omega)⟩ (by omega)
        · skip
          have hsf : scF op v left x1 = doE op x1.v v := by unfold scF; simp [hc7]
          refine zq rfl (zc (jT rfl (oR 3 rfl (oW rfl rfl acs Tryz.call45 (Do_c op x1.v v) (oR 5 rfl (oZ rfl (jB rfl (jT rfl (oR 1 rfl (oP rfl (zau rfl rfl rfl) (oR 1 rfl (oZ rfl ?_))))))))))))
          refine jD rfl (fun hc16 => ?_) (fun hc16 => ?_)
          · skip
            refine jT rfl (oR 3 rfl (oZ rfl (zs rfl (zi (zi (ze (zQ (zi (ze (PD.subH (HSub.nil 2 53) (PD.norm [.sl (.slice none 0 0) 2 53 ((zb op l v left).map RowD.d), .bx g6 53 (RowD.d x1), .sl ov 2 53 (o.map RowD.d)] (by have hw : [] = zb op l v left := (by first | exact (za7 (left := left) hgood hx1 he (by rw [hsf]; have h := hc16; omega)).1 | exact (za7 (left := left) hgood hx1 he (by rw [hsf]; have h := hc16; omega)).2 | (rw [← hsf]; exact (za7 (left := left) hgood hx1 he (by rw [hsf]; have h := hc16; omega)).2)); rw [show ([] : List D) = List.map RowD.d (zb op l v left) from congrArg (List.map RowD.d) hw]) ?_)))))))))))
            exact zj Tryz.results15 (.cons (zB (zf rfl) (Cv.ov rfl)) (.cons (zB (zf rfl) (Cv.eq (congrArg (fun n => D.v (.int .i64 n)) (by first | exact (za7 (left := left) hgood hx1 he (by rw [hsf]; have h := hc16; omega)).1 | exact (za7 (left := left) hgood hx1 he (by rw [hsf]; have h := hc16; omega)).2 | (rw [← hsf]; exact (za7 (left := left) hgood hx1 he (by rw [hsf]; have h := hc16; omega)).2))))) .nil)) rfl (HSub.fst 1 rfl) ⟨(.slice none 0 0), rfl, rfl⟩
          · skip
            refine jT rfl (oR 1 rfl (oW rfl rfl acs Tryz.call46 (Compares_c op) (oP rfl (zaP rfl) (oR 1 rfl (oZ rfl ?_)))))
            refine jC rfl (fun hc17 => ?_) (fun hc17 => ?_)
            · simp only [bA, bB, bC, bD, bE, bF, bG, bH, bI, bJ] at hc17
              refine za rfl (oR 1 rfl (oP rfl (zl rfl z2 rfl) (oP rfl (zz rfl (i := 0) rfl Tryz.isAgg50 rfl) (oE rfl (zx [] _ [] rfl rfl (.cons ArgC.id (.cons (ArgC.cv Cv.nil) (.cons ArgC.id .nil))) zo Tryz.call24 (zem 0 [] x1.ls (by omega)) (.inl rfl)) ?_))))
              rintro _ _ ⟨_, ⟨v18, rfl, rfl⟩, rfl⟩
              refine on rfl (oR 1 rfl ?_)
              refine OpsD.mv (Mv.freeze (K' := [(0, .s op), (2, dI v), (3, dB left), (10, .ov ov), (12, dP g6 0), (13, dI x1.v), (14, dI v), (15, dI ((doE op x1.v v).1)), (16, dI ((doE op x1.v v).2)), (30, .sh 2 (l.map RowD.d)), (31, dN l.length), (32, dN k), (33, dB (decide (((k : Nat) : Int) < ((l.length : Nat) : Int)))), (34, .el (RowD.d x1) 0), (35, RowD.d x1), (36, dP g6 1), (37, dI x1.v), (38, dI v), (39, dB left), (43, .tup [dI ((doE op x1.v v).1), dI ((doE op x1.v v).2)]), (44, .s op), (45, dI x1.v), (46, dI v), (47, .tup [dI ((doE op x1.v v).1), dI ((doE op x1.v v).2)]), (48, dI ((doE op x1.v v).1)), (49, dI ((doE op x1.v v).2)), (50, dB (decide ((doE op x1.v v).2 ≠ (0 : Int)))), (51, dI ((doE op x1.v v).2)), (52, dB (decide ((doE op x1.v v).2 ≠ (0 : Int)))), (54, dB (!(cmpB op))), (55, .s op), (56, dB (cmpB op)), (57, dB (!(cmpB op))), (58, .ov ov), (59, dP g6 0), (60, .sh 2 (x1.ls.map Lbl.d)), (61, .sh 2 ((keyL 0 [] x1.ls).map Lbl.d)), (62, dI ((doE op x1.v v).1))]) [.sl v18 2 62 ((keyL 0 [] x1.ls).map Lbl.d)] (H1 := [.bx g6 53 (RowD.d x1), .sl ov 2 53 (o.map RowD.d)]) (H1' := [.bx g6 53 (RowD.d x1), .sl ov 2 53 (o.map RowD.d)]) ⟨⟨_, rfl, ArgC.id⟩, ⟨_, rfl, ArgC.id⟩, ⟨_, rfl, ArgC.id⟩, ⟨_, rfl, ArgC.id⟩, ⟨_, rfl, ArgC.id⟩, ⟨_, rfl, ArgC.id⟩, ⟨_, rfl, ArgC.id⟩, ⟨_, rfl, ArgC.id⟩, ⟨_, rfl, ArgC.id⟩, ⟨_, rfl, ArgC.id⟩, ⟨_, rfl, ArgC.id⟩, ⟨_, rfl, ArgC.id⟩, ⟨_, rfl, ArgC.id⟩, ⟨_, rfl, ArgC.id⟩, ⟨_, rfl, ArgC.id⟩, ⟨_, rfl, ArgC.id⟩, ⟨_, rfl, ArgC.id⟩, ⟨_, rfl, ArgC.id⟩, ⟨_, rfl, ArgC.id⟩, ⟨_, rfl, ArgC.id⟩, ⟨_, rfl, ArgC.id⟩, ⟨_, rfl, ArgC.id⟩, ⟨_, rfl, ArgC.id⟩, ⟨_, rfl, ArgC.id⟩, ⟨_, rfl, ArgC.id⟩, ⟨_, rfl, ArgC.id⟩, ⟨_, rfl, ArgC.id⟩, ⟨_, rfl, ArgC.id⟩, ⟨_, rfl, ArgC.id⟩, ⟨_, rfl, ArgC.id⟩, ⟨_, rfl, ArgC.id⟩, ⟨_, rfl, ArgC.id⟩, ⟨_, rfl, ArgC.id⟩, ⟨_, rfl, ArgC.id⟩, ⟨_, rfl, ArgC.id⟩, ⟨_, rfl, ArgC.id⟩, ⟨_, rfl, ArgC.own (j := 0) rfl rfl⟩, ⟨_, rfl, ArgC.id⟩, trivial⟩ (.same (.same .nil))) ?_
              refine oP rfl (zbx [0, 1] [.tmp 61, .tmp 62] (zv := (.agg #[(.slice none 0 0), (.int .i64 0)])) rfl rfl (.cons CellD.sh (.cons (CellD.v rfl) .nil)) (Tryz.runUnderlying53) Tryz.zeroValue53 zbQ ⟨rfl, rfl, trivial⟩ rfl) (oE rfl (zJ [.tmp 63] rfl rfl (.cons CellD.agg .nil) rfl Tryz.runUnderlying22 Tryz.sizeOf53 Tryz.zeroValue53 rfl rfl rfl rfl) ?_)
              rintro _ _ ⟨g19, rfl, rfl⟩
              refine oE rfl (zK (f := RowD.d) (l := o) (l' := [(RowD.mk (keyL 0 [] x1.ls) ((doE op x1.v v).1))]) (i := 2) rfl rfl rfl (SrcD.own (j := 0) rfl rfl) zao z9 rfl rfl (by unfold maxLen; (try simp only [la, lc, ln, lm, lt', ld, ls, lr]); omega) (by (try simp only [la, lc, ln, lm, lt', ld, ls, lr]); omega)) ?_
              rintro _ _ ⟨v20, rfl, rfl⟩
              refine on rfl (oR 1 rfl (zg rfl (zw (zw (zc (za rfl (oP rfl (zS (c := ((k + 1 : Nat) : Int)) rfl rfl (zF (by omega) (by omega))) (oR 1 rfl (zg rfl (PD.subH (HSub.perm (zk (i := 2) rfl)) (pn rfl (PD.subH (HSub.fst 1 rfl) (pn rfl ?_)))))))))))))
              exact pl3 (k + 1) v20 (o ++ [(RowD.mk (keyL 0 [] x1.ls) ((doE op x1.v v).1))]) (sa rfl) HSub.rfl' ⟨by show k + 1 ≤ l.length; omega, by rw [zbY (y := (RowD.mk (keyL 0 [] x1.ls) ((doE op x1.v v).1))) hx1 (by simp [zbL, hsf, hc17]), ← ho], zak hx1 he (by rw [hsf]; have h := hc16; omega)⟩ (by omega)
            · simp only [bA, bB, bC, bD, bE, bF, bG, bH, bI, bJ] at hc17
              refine jT rfl (oR 1 rfl (oP rfl (zV rfl rfl rfl) (oR 1 rfl (oZ rfl ?_))))
              refine jD rfl (fun hc21 => ?_) (fun hc21 => ?_)
              · skip
                refine za rfl (oR 1 rfl (oP rfl (za0 (d := RowD.d x1) rfl (i := 0) rfl Tryz.isAgg53 Tryz.sizeOf53 rfl rfl) (oE rfl (zJ [.tmp 70] rfl rfl (.cons CellD.agg .nil) rfl Tryz.runUnderlying22 Tryz.sizeOf53 Tryz.zeroValue53 rfl rfl rfl rfl) ?_)))
                rintro _ _ ⟨g22, rfl, rfl⟩
                refine oE rfl (zK (f := RowD.d) (l := o) (l' := [x1]) (i := 2) rfl rfl rfl (SrcD.own (j := 0) rfl rfl) zao z9 rfl rfl (by unfold maxLen; (try simp only [la, lc, ln, lm, lt', ld, ls, lr]); omega) (by (try simp only [la, lc, ln, lm, lt', ld, ls, lr]); omega)) ?_
                rintro _ _ ⟨v23, rfl, rfl⟩
                refine on rfl (oR 1 rfl (zg rfl (zw (zw (zc (za rfl (oP rfl (zS (c := ((k + 1 : Nat) : Int)) rfl rfl (zF (by omega) (by omega))) (oR 1 rfl (zg rfl (PD.subH (HSub.perm (zk (i := 2) rfl)) (pn rfl (PD.subH (HSub.fst 1 rfl) (pn rfl ?_)))))))))))))
                exact pl3 (k + 1) v23 (o ++ [x1]) (sa rfl) HSub.rfl' ⟨by show k + 1 ≤ l.length; omega, by rw [zbY (y := x1) hx1 (by simp [zbL, hsf, hc17, hc21]), ← ho], zak hx1 he (by rw [hsf]; have h := hc16; omega)⟩ (by omega)
              · skip
                refine zq rfl (zw (zw (zc (za rfl (oP rfl (zS (c := ((k + 1 : Nat) : Int)) rfl rfl (zF (by omega) (by omega))) (oR 1 rfl (zg rfl (PD.subH (HSub.perm (zk (i := 1) rfl)) (pn rfl (PD.subH (HSub.fst 1 rfl) (pn rfl ?_)))))))))))
                exact pl3 (k + 1) ov o (sa rfl) HSub.rfl' ⟨by show k + 1 ≤ l.length; omega, by rw [scOut_not hx1 (by simp [zbL, hsf, hc17, hc21]), ← ho], zak hx1 he (by rw [hsf]; have h := hc16; omega)⟩ (by omega)
      · skip
        refine zE rfl (zr (zn (zh (zc (jS rfl (JD.mv (Mv.freeze (K' := [(0, .s op), (2, dI v), (3, dB left), (10, .sh 2 (o.map RowD.d)), (30, .sh 2 (l.map RowD.d)), (31, dN l.length), (32, dN k), (33, dB (decide (((k : Nat) : Int) < ((l.length : Nat) : Int))))]) [.sl ov 2 53 (o.map RowD.d)] (H1 := []) (H1' := []) ⟨⟨_, rfl, ArgC.id⟩, ⟨_, rfl, ArgC.id⟩, ⟨_, rfl, ArgC.id⟩, ⟨_, rfl, ArgC.own (j := 0) rfl rfl⟩, ⟨_, rfl, ArgC.id⟩, ⟨_, rfl, ArgC.id⟩, ⟨_, rfl, ArgC.id⟩, ⟨_, rfl, ArgC.id⟩, trivial⟩ .nil) (za rfl (oR 1 rfl (oE rfl (zx [] _ [] rfl rfl (.cons ArgC.id .nil) zo Tryz.call14 (vTidy_c o) (.inl rfl)) ?_)))))))))
        rintro _ _ ⟨_, ⟨v24, rfl, rfl⟩, rfl⟩
        refine on rfl (oR 4 rfl (oZ rfl (jk [8, 9] rfl (zs rfl (PD.norm [.sl v24 2 53 ((zb op l v left).map RowD.d)] (by have hw : rtL o = zb op l v left := (by first | (rw [ho]; exact (zeq hgood he (by omega)).1) | (rw [ho]; exact (zeq hgood he (by omega)).2)); rw [hw]) ?_)))))
        exact zj Tryz.results15 (.cons (zf rfl) (.cons (zB (zf rfl) (Cv.eq (congrArg (fun n => D.v (.int .i64 n)) (by first | (rw [ho]; exact (zeq hgood he (by omega)).1) | (rw [ho]; exact (zeq hgood he (by omega)).2))))) .nil)) rfl (HSub.fst 1 rfl) ⟨v24, rfl, rfl⟩

theorem Neg_c (l : List RowD)  :
    CD Tryz.prog 17 [] [.sh 2 (l.map RowD.d)] (fun r H' => ∃ v0_, r = .tup [.ov v0_, dI (zX ⟨#[45]⟩ l 0 true)] ∧ H' = [.sl v0_ 2 53 ((zb ⟨#[45]⟩ l 0 true).map RowD.d)]) := by
  refine zy Tryz.func17 rfl (N := 8) rfl rfl (fun C => ?_)
  refine jk [0] rfl ?_
  refine JD.bd 0 rfl (fun bd0 => ?_)
  have nl0 := zZ bd0
  refine jT rfl (oR 2 rfl (oZ rfl (jT rfl (oR 1 rfl (oE rfl (zx [] _ [] rfl rfl (.cons (ArgC.cv (Cv.str (by first | decide | (unfold maxLen; omega)))) (.cons ArgC.id (.cons ArgC.id (.cons ArgC.id .nil)))) zo Tryz.call15 (Scale_c (⟨#[45]⟩ : ByteArray) l 0 true) (.inl rfl)) ?_)))))
  rintro _ _ ⟨_, ⟨v1, rfl, rfl⟩, rfl⟩
  refine on rfl (oR 4 rfl (oZ rfl (zs rfl (PD.norm [.sl v1 2 53 ((zb ⟨#[45]⟩ l 0 true).map RowD.d)] (by have hw : zb (⟨#[45]⟩ : ByteArray) l 0 true = zb ⟨#[45]⟩ l 0 true := (by rfl); rw [hw]) ?_))))
  exact zj Tryz.results17 (.cons (zf rfl) (.cons (zB (zf rfl) (Cv.eq (congrArg (fun n => D.v (.int .i64 n)) (by rfl)))) .nil)) rfl (HSub.fst 1 rfl) ⟨v1, rfl, rfl⟩
end Lp
/- Walks, printed by a program of mine. -/
set_option linter.unusedSimpArgs false
set_option linter.unusedVariables false
set_option maxHeartbeats 4000000
set_option maxRecDepth 100000
namespace Lp
open Go Go.RowKit Go.Proofs

namespace HdYtfjinapgehafiaaGreatV4
theorem eqp_183_eql (x y : Operand) (a : Addr) (w : World) : (do eqGuard .eql 183 x y (.pointer (some a)) (.pointer none); binOp .eql 183 (.pointer (some a)) (.pointer none) : Sem Value).run Tryz.prog w = .ok (.bool false) w := by kernel_rfl
theorem eqs_183_neq (d : Nat) (a : Addr) (w : World) : (Op.equalIn (d + 1) 183 (.pointer (some a)) (.pointer (some a))).run Tryz.prog w = .ok true w := by
  rw [Op.equalIn]
  simp only [Sem.run_bind, run_underlying (show Tryz.prog.underlying 183 = some (.pointer 186) by kernel_rfl), Result.andThen_ok, Tryz.sizeOf186]
  simp [sameAddr]
theorem eqt_183_neq (a : Addr) (w : World) : (Op.equal 183 (.pointer (some a)) (.pointer (some a))).run Tryz.prog w = .ok true w := eqs_183_neq 9999 a w
theorem eqq_183_neq (x y : Operand) (a : Addr) (w : World) : (do eqGuard .neq 183 x y (.pointer (some a)) (.pointer (some a)); binOp .neq 183 (.pointer (some a)) (.pointer (some a)) : Sem Value).run Tryz.prog w = .ok (.bool false) w := by simp [eqGuard, binOp, eqt_183_neq]
theorem fa_186_0 (b o : Nat) : ∀ w, (Instr.fieldAt 186 (.pointer (some ⟨b, o, none⟩)) 0).run Tryz.prog w = .ok (.pointer (some ⟨b, o + 0, none⟩)) w := fun _ => by kernel_rfl
theorem zaW (b o : Nat) : ∀ w, (Instr.fieldAt 186 (.pointer (some ⟨b, o, none⟩)) 1).run Tryz.prog w = .ok (.pointer (some ⟨b, o + 1, none⟩)) w := fun _ => by kernel_rfl
theorem zcH : ∃ i, Tryz.prog.info? 5 = some i ∧ i.zero = some (.int .u8 0) ∧ i.size = 1 ∧ i.bytes = 1 := zaS (by kernel_rfl)
theorem zb5 : Tryz.prog.underlying 184 = some (.slice 5) := by kernel_rfl
end HdYtfjinapgehafiaaGreatV4
open HdYtfjinapgehafiaaGreatV4

theorem cv_up {w : World} {g : Nat} {c : Array Value} (h : w.heap[g]? = some (.cells c 186 (0, 0))) (hc : c.size = 2) : (convert 183 223 (.pointer (some ⟨g, 0, none⟩))).run Tryz.prog w = .ok (.pointer (some ⟨g, 0, none⟩)) w := by
  simp [convert, run_underlying (show Tryz.prog.underlying 183 = some _ by kernel_rfl), run_underlying (show Tryz.prog.underlying 223 = some _ by kernel_rfl), Conv.unsafePointer, Conv.seenAt, viewAt, cellsIn, run_shape, h, hc, World.shape?, Tryz.sizeOf186]
theorem cv_down {w : World} {g : Nat} {c : Array Value} (h : w.heap[g]? = some (.cells c 186 (0, 0))) (hc : c.size = 2) : (convert 223 183 (.pointer (some ⟨g, 0, none⟩))).run Tryz.prog w = .ok (.pointer (some ⟨g, 0, none⟩)) w := by
  have e : liesAt Tryz.prog Tryz.prog.depth 186 (2 / Tryz.prog.cellsOf 186) 0 186 1 = true := by kernel_rfl
  simp [convert, run_underlying (show Tryz.prog.underlying 183 = some _ by kernel_rfl), run_underlying (show Tryz.prog.underlying 223 = some _ by kernel_rfl), Conv.unsafePointer, Conv.seenAt, viewAt, cellsIn, run_shape, h, hc, World.shape?, Tryz.sizeOf186, variablesAt, e]
theorem p_upto {ty : TypeId} {K : Kd} {H : List Hp} {t1 t2 : TypeId} {x : Operand} {g i : Nat} {X : D} (ht : (t1 = 183 ∧ t2 = 223) ∨ (t1 = 223 ∧ t2 = 183)) (hx : opD K x = some (dP g 0)) (hm : nth H i = some (.bx g 186 X)) (hX : Nat.beq X.cells.length 2 = true) : Pu Tryz.prog (.convert t1 t2 x) ty K H (dP g 0) :=
  ⟨fun ρ w F hk _ hH => by
    obtain ⟨u, h1, h2, h3⟩ := hH _ (z6 hm)
    have hl := zbk (D.rep_cells h1 h2)
    have hc : u.cells.size = 2 := by have := Nat.eq_of_beq_eq_true hX; rw [← hl] at this; simpa [vcs] using this
    have e : ev ρ x = _ := hk.op hx
    refine EOp.of_run (v := .pointer (some ⟨g, 0, none⟩)) (w' := w) ?_ ⟨rfl, rfl⟩
    rcases ht with ⟨rfl, rfl⟩ | ⟨rfl, rfl⟩
    · have := zb0 (cv_up h3 hc); simpa [execOp, zap, e] using this
    · have := zb0 (cv_down h3 hc); simpa [execOp, zap, e] using this⟩
theorem p_noEscape {ty : TypeId} {K : Kd} {H : List Hp} {x : Operand} {ats : Array TypeId} {v : Value} (hx : opD K x = some (.v v)) : Pu Tryz.prog (.call { callee := .value (.func 208), args := #[x], argTypes := ats }) ty K H (.v v) :=
  ⟨fun ρ w F hk _ _ => e_ext (vs := [v]) (zI ρ [x]) (by rw [show (#[x] : Array Operand).toList = [x] from rfl, zcF ρ [x] [x] (fun _ h => h)]; have e : ev ρ x = v := hk.op hx; simp [e]) (fun w => by
    rw [run_callFunc_extern Tryz.func208 (by kernel_rfl) (by kernel_rfl) (by kernel_rfl) (e := Extern.AbiNoEscape.same) (by kernel_rfl)]; rfl) ⟨rfl, rfl⟩⟩

theorem copyCheck_c (g : Nat) (p : Value) (x : D) (hp : p = .pointer none ∨ p = .pointer (some ⟨g, 0, none⟩)) :
    CD Tryz.prog 193 [.bx g 186 (.agg [.v p, x])] [dP g 0] (fun r H' => r = .tup [] ∧ H' = [.bx g 186 (.agg [dP g 0, x])]) := by
  refine zy Tryz.func193 rfl (N := 20) rfl rfl (fun C => ?_)
  refine jk [0] rfl ?_
  rcases hp with rfl | rfl
  · skip
    refine jT rfl (oR 2 rfl (oP rfl (zl rfl fa_186_0 rfl) (oP rfl (zz rfl (i := 0) rfl Tryz.isAgg183 rfl) (oP rfl (zdW (r := .bool true) rfl rfl (fun _ => by kernel_rfl)) (oZ rfl (jCt rfl (za rfl (oR 2 rfl (oP rfl (p_upto (i := 0) (by first | exact .inl ⟨rfl, rfl⟩ | exact .inr ⟨rfl, rfl⟩) rfl rfl rfl) (oP rfl (p_noEscape rfl) (oP rfl (p_upto (i := 0) (by first | exact .inl ⟨rfl, rfl⟩ | exact .inr ⟨rfl, rfl⟩) rfl rfl rfl) (oR 1 rfl (oP rfl (zl rfl fa_186_0 rfl) (oE rfl (z4 (i := 0) (X' := .agg [dP g 0, x]) rfl rfl rfl (CellD.v rfl) Tryz.sizeOf183 rfl rfl rfl) ?_))))))))))))))
    rintro _ _ ⟨rfl, rfl⟩
    refine on rfl (zg rfl ?_)
    exact pd_end Tryz.results193 .nil rfl ⟨rfl, rfl⟩
  · skip
    refine jT rfl (oR 2 rfl (oP rfl (zl rfl fa_186_0 rfl) (oP rfl (zz rfl (i := 0) rfl Tryz.isAgg183 rfl) (oP rfl (zdW (r := .bool false) rfl rfl (eqp_183_eql _ _ _)) (oZ rfl (jCf rfl (jT rfl (oR 2 rfl (oP rfl (zl rfl fa_186_0 rfl) (oP rfl (zz rfl (i := 0) rfl Tryz.isAgg183 rfl) (oR 1 rfl (oP rfl (zdW (r := .bool false) rfl rfl (eqq_183_neq _ _ _)) (oZ rfl (jk [19] rfl (jCf rfl (zq rfl ?_))))))))))))))))
    exact pd_end Tryz.results193 .nil rfl ⟨rfl, rfl⟩

theorem zcr (g : Nat) (p v : Value) (bs : List UInt8) (c : UInt8) (hp : p = .pointer none ∨ p = .pointer (some ⟨g, 0, none⟩)) (hl : bs.length ≤ 1000000000000) :
    CD Tryz.prog 165 [.bx g 186 (.agg [.v p, .ov v]), .sl v 1 5 (bs.map dU8)] [dP g 0, .v (.int .u8 ((c.toNat : Nat) : Int))] (fun r H' => ∃ v', r = .v .nilIface ∧ H' = [.bx g 186 (.agg [dP g 0, .ov v']), .sl v' 1 5 ((bs ++ [c]).map dU8)]) := by
  refine zy Tryz.func165 rfl (N := 17) rfl rfl (fun C => ?_)
  refine jk [0, 1] rfl (jT rfl (oR 1 rfl (oZ rfl (jT rfl (oR 1 rfl (oE rfl (zx [.bx g 186 (.agg [.v p, .ov v])] [.sl v 1 5 (bs.map dU8)] [] rfl rfl (.cons ArgC.id .nil) zo Tryz.call193 (copyCheck_c g p (.ov v) hp) (.inl rfl)) ?_))))))
  rintro _ _ ⟨_, ⟨rfl, rfl⟩, rfl⟩
  refine on rfl (oZ rfl (jT rfl (oR 3 rfl (oP rfl (zl rfl zaW rfl) (oP rfl (zz rfl (i := 0) rfl Tryz.isAgg184 rfl) (oR 1 rfl (oE rfl (zJ [.tmp 12] rfl rfl (.cons (CellD.v rfl) .nil) rfl Tryz.runUnderlying184 Tryz.sizeOf5 Tryz.zeroValue5 rfl rfl rfl rfl) ?_)))))))
  rintro _ _ ⟨g1, rfl, rfl⟩
  refine oE rfl (zK (f := dU8) (l := bs) (l' := [c]) (i := 2) rfl rfl rfl (SrcD.own (j := 0) rfl rfl) zb5 zcH rfl rfl (by unfold maxLen; (try simp only [la, lc, ln, lm, lt', ld, ls, lr]); omega) (by (try simp only [la, lc, ln, lm, lt', ld, ls, lr]); omega)) ?_
  rintro _ _ ⟨v2, rfl, rfl⟩
  refine on rfl (oR 1 rfl (oP rfl (zl rfl zaW rfl) (oE rfl (z4 (i := 1) (X' := .agg [dP g 0, .ov v2]) rfl rfl rfl (CellD.o) Tryz.sizeOf184 rfl rfl rfl) ?_)))
  rintro _ _ ⟨rfl, rfl⟩
  refine on rfl (oZ rfl (jk [4] rfl (jT rfl (oR 1 rfl (oZ rfl (zs rfl (PD.subH (HSub.perm (zk (i := 2) rfl)) (pn rfl (PD.subH (HSub.perm (zk (i := 2) rfl)) (pn rfl ?_))))))))))
  exact zj Tryz.results165 (.cons (zf rfl) .nil) rfl (HSub.fst 2 rfl) ⟨v2, rfl, rfl⟩

theorem zbS (g : Nat) (p v : Value) (bs : List UInt8) (s : ByteArray) (hp : p = .pointer none ∨ p = .pointer (some ⟨g, 0, none⟩)) (hl : bs.length ≤ 1000000000000) (hs : s.size ≤ 1000000000000) :
    CD Tryz.prog 167 [.bx g 186 (.agg [.v p, .ov v]), .sl v 1 5 (bs.map dU8)] [dP g 0, .s s] (fun r H' => ∃ v', r = .tup [dI (s.size : Int), .v .nilIface] ∧ H' = [.bx g 186 (.agg [dP g 0, .ov v']), .sl v' 1 5 ((bs ++ s.data.toList).map dU8)]) := by
  refine zy Tryz.func167 rfl (N := 19) rfl rfl (fun C => ?_)
  refine jk [0, 1] rfl ?_
  refine JD.bd 1 rfl (fun bd1 => ?_)
  have sz1 : s.size ≤ 9223372036854775807 := bd1
  refine jT rfl (oR 2 rfl (oZ rfl (jT rfl (oR 1 rfl (oE rfl (zx [.bx g 186 (.agg [.v p, .ov v])] [.sl v 1 5 (bs.map dU8)] [] rfl rfl (.cons ArgC.id .nil) zo Tryz.call193 (copyCheck_c g p (.ov v) hp) (.inl rfl)) ?_)))))
  rintro _ _ ⟨_, ⟨rfl, rfl⟩, rfl⟩
  refine on rfl (oZ rfl (jT rfl (oR 3 rfl (oP rfl (zl rfl zaW rfl) (oP rfl (zz rfl (i := 0) rfl Tryz.isAgg184 rfl) (oR 1 rfl (oE rfl (ef_append_s (i := 1) (bs := bs) (s := s) rfl rfl rfl zb5 (by kernel_rfl) zcH (by (try simp only [la, lc, ln]); omega)) ?_)))))))
  rintro _ _ ⟨v1, rfl, rfl⟩
  refine on rfl (oR 1 rfl (oP rfl (zl rfl zaW rfl) (oE rfl (z4 (i := 0) (X' := .agg [dP g 0, .ov v1]) rfl rfl rfl (CellD.o) Tryz.sizeOf184 rfl rfl rfl) ?_)))
  rintro _ _ ⟨rfl, rfl⟩
  refine on rfl (oZ rfl (jk [1, 4, 5] rfl (jT rfl (oR 1 rfl (oP rfl (zas rfl Tryz.runUnderlying9) (oR 2 rfl (oZ rfl (zs rfl ?_))))))))
  exact zj Tryz.results167 (.cons (zf rfl) (.cons (zf rfl) .nil)) rfl (HSub.fst 2 rfl) ⟨v1, rfl, rfl⟩
end Lp
